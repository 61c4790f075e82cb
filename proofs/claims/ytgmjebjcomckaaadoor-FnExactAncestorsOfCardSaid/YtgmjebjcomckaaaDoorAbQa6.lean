/- Merged texts (6 of 10) of the proof that ends in Ly: Gl Gm Gn Go Wb Wc Y Gp Gq Gr Gs Gt Lmx La. -/
import Derived.Test.YtgmjebjcomckaaaDoorAbQa5
/- Contracts of impl.CommonPlace and spec.CommonPlace. -/
namespace Go.Ab
open Go.Proofs
set_option linter.unusedSimpArgs false
theorem e25 : Ent Tryd.prog 25 := Ent.of Tryd.func25 (by kernel_rfl) rfl
theorem e26 : Ent Tryd.prog 26 := Ent.of Tryd.func26 (by kernel_rfl) rfl

def meets (b : Big) (y : Int) (p : Int) : Bool := (above b y).any fun q => p == q
def common (b : Big) (x y : Int) : Int × Bool := match (above b x).find? (meets b y) with
  | some p => (p, true)
  | none => (0, false)
def commonPlace (sig : Sig) (b : Big) (x y : Int) : Int × Bool := if goodB sig b && isNodeB b x && isNodeB b y then common b x y else (0, false)

theorem find_at {α : Type} {p : α → Bool} : ∀ {l : List α} {k : Nat} (hk : k < l.length), p l[k] = true → (∀ i (h : i < l.length), i < k → p l[i] = false) → l.find? p = some l[k]
  | [], _, hk, _, _ => by simp at hk
  | a :: l, 0, _, h, _ => by
    have h : p a = true := h
    simp [List.find?_cons, h]
  | a :: l, k + 1, hk, h, hno => by
    have h0 : p a = false := hno 0 (by simp) (by omega)
    have := find_at (l := l) (k := k) (by simpa using hk) (by simpa using h) fun i hi hik => hno (i + 1) (by simp; omega) (by omega)
    simp [List.find?_cons, h0, this]
theorem find_no {α : Type} {p : α → Bool} {l : List α} (hno : ∀ i (h : i < l.length), p l[i] = false) : l.find? p = none := by
  rw [List.find?_eq_none]
  intro x hx
  obtain ⟨i, hi, rfl⟩ := List.getElem_of_mem hx
  simp [hno i hi]

theorem above_len (b : Big) (x : Int) (h : b.nodes.length ≤ 8) : (above b x).length ≤ 1048576 := by
  have := aboveF_len b (b.nodes.length + 1) x
  unfold above
  omega

theorem CommonPlace_ok (sig : Sig) (b : Big) (x y : Int) (hs : SmallB sig b) : PureC Tryd.prog 25 [encSig false sig, encB false b, int x, int y] (fun r => r = .tup [int (commonPlace sig b x y).1, bool (commonPlace sig b x y).2]) := by
  have hn := hs.nodesLen
  refine PureC.of Tryd.func25 rfl Tryd.ntmps25 (by simp) fun Q hQ => ?_
  have ret : ∀ (v : Int) (o : Bool), (v, o) = commonPlace sig b x y → ∀ H n, Q (.tup [int v, bool o]) H n := fun v o h H n => hQ _ _ _ _ (.of (Ret.fresh (by simp))) (by rw [← h])
  refine Runs.seqE Ty_ok (by decide) fun k' hk' => ?_
  simp [encB, encSig, Big.cells]   -- R0
  refine hk' _ _ _ ?_
  refine Runs.cut (fun ρ H n => ρ 0 = .list false (sig.map Control.cells) ∧ ρ 2 = int x ∧ ρ 3 = int y ∧ ρ 5 = .ptr (0, 5) 1 0 0 ∧ H (0, 5) = some ⟨6, [b.cells false]⟩) ⟨by simp, by simp, by simp, by simp, by simp [Big.cells]⟩ ?_
  clear hk'
  rintro ρ H n ⟨h0, h2, h3, h5, hm⟩
  have hm' := hm
  simp only [Big.cells, encN, encI, encS, encW] at hm'
  refine Runs.seq ?_
  refine Runs.seqE Ty_ok (by decide) fun k' hk' => ?_
  have fin : ∀ (ρ : Env) (ok : Bool), ρ 2 = int x → ρ 3 = int y → ρ 5 = .ptr (0, 5) 1 0 0 → ρ 28 = bool (!ok) → (goodB sig b && isNodeB b x && isNodeB b y) = ok → Runs Tryd.prog 25 45 k' ρ H n Q := by
    clear h0 h2 h3 h5
    intro ρ ok h2 h3 h5 h28 hok
    refine hk' _ _ _ ?_
    refine Runs.ite h28 (fun hc1 => ?_) (fun hc1 => ?_)   -- t28
    · have hb : ok = false := by simpa using hc1
      refine Runs.seqE Ty_ok (by decide) fun k' hk' => ?_
      simp   -- R2
      refine hk' _ _ _ ?_
      refine Runs.ret Tryd.func25 (RetOk.two Tryd.results25) ?_
      simp only [Env.put]
      exact ret 0 false (by rw [commonPlace, hok, hb]; rfl) _ _
    · have hb : ok = true := by simpa using hc1
      rw [hb] at hok
      have hcp : commonPlace sig b x y = common b x y := by rw [commonPlace, hok]; rfl
      simp only [Bool.and_eq_true] at hok
      have hd := goodB_down hok.1.1
      have hx := hok.1.2
      have hy := hok.2
      simp only [isNodeB, within, Bool.and_eq_true, decide_eq_true_eq] at hx hy
      refine Runs.skip ?_
      refine Runs.seqE Ty_ok (by decide) fun k' hk' => ?_
      simp [h3, h5, hm']   -- R3
      refine RunK.callA Ty_ok (ancestorsOf_ok hd y (by omega)).pure e64 (.cons (ArgOk.encB false b) (.cons (.v _ _ _) .nil)) (by decide) (by decide) rfl (by simp [h3, encB, Big.cells, encN, encI, encS, encW]) ?_
      rintro _ rfl
      simp
      refine hk' _ _ _ ?_
      refine Runs.seq ?_
      refine Runs.seqE Ty_ok (by decide) fun k' hk' => ?_
      simp [h2, h5, hm']   -- R4
      refine RunK.callA Ty_ok (ancestorsOf_ok hd x (by omega)).pure e64 (.cons (ArgOk.encB false b) (.cons (.v _ _ _) .nil)) (by decide) (by decide) rfl (by simp [h2, encB, Big.cells, encN, encI, encS, encW]) ?_
      rintro _ rfl
      simp [encI]
      refine hk' _ _ _ ?_
      refine Runs.block (Runs.loopUp (above b x).length (fun k ρ H n => ρ 10 = encI true (above b y) ∧ ρ 34 = .list true ((above b x).map intC) ∧ ρ 35 = int (above b x).length ∧ ρ 36 = int k ∧ ∀ i (h : i < (above b x).length), i < k → meets b y (above b x)[i] = false) ?_ ?_)
      · exact ⟨by simp [encI], by simp, by simp, by simp, fun i h hi => by omega⟩
      · rintro k ρ H n hk ⟨h10, h34, h35, h36, hno⟩ IH
        have hal := above_len b x hd.1
        refine Runs.seqE Ty_ok (by decide) fun k' hk' => ?_
        simp [h35, h36]   -- R5
        refine hk' _ _ _ ?_
        refine Runs.seq ?_
        refine Runs.ite rfl (fun hc2 => ?_) (fun hc2 => ?_)   -- t37
        · have hc2 : k < (above b x).length := by simpa using hc2
          refine Runs.skip ?_
          refine Runs.seq ?_
          refine Runs.block ?_
          refine Runs.seqE Ty_ok (by decide) fun k' hk' => ?_
          simp [h34, h36, hc2, intC]   -- R6
          refine hk' _ _ _ ?_
          refine Runs.seqE Ty_ok (by decide) fun k' hk' => ?_
          simp [h10]   -- R7
          refine RunK.callA Ty_ok (contains_ok (above b y) (above b x)[k] (above_len b y hd.1)) e65 (.cons (ArgOk.encI true _) (.cons (.v _ _ _) .nil)) (by decide) (by decide) rfl (by simp [h10]) ?_
          rintro _ rfl
          simp
          refine hk' _ _ _ ?_
          refine Runs.ite rfl (fun hc3 => ?_) (fun hc3 => ?_)   -- t42
          · have hc3 : meets b y (above b x)[k] = true := by simpa [meets] using hc3
            refine Runs.seqE Ty_ok (by decide) fun k' hk' => ?_
            simp   -- R8
            refine hk' _ _ _ ?_
            refine Runs.ret Tryd.func25 (RetOk.two Tryd.results25) ?_
            simp only [Env.put]
            exact ret (above b x)[k] true (by rw [hcp, common, find_at hc2 hc3 hno]) _ _
          · have hc3 : meets b y (above b x)[k] = false := by
              cases h : meets b y (above b x)[k]
              · rfl
              · simp only [meets] at h
                simp [h] at hc3
            refine Runs.skip ?_
            refine Runs.inBlock ?_
            refine Runs.evalE Ty_ok (by decide) fun k' hk' => ?_
            simp [h36, wrap_succ (show k < 4611686018427387904 by omega)]   -- R9
            refine hk' _ _ _ ?_
            refine IH hc2 _ _ _ ⟨by simp [h10], by simp [h34, intC], by simp [h35], by simp, fun i h hi => ?_⟩
            rcases Nat.lt_or_ge i k with hik | hik
            · exact hno i h hik
            · have : i = k := by omega
              subst this
              exact hc3
        · have hc2 : ¬ k < (above b x).length := by simpa using hc2
          have hke : k = (above b x).length := by omega
          subst hke
          refine Runs.exit rfl ?_
          refine Runs.seqE Ty_ok (by decide) fun k' hk' => ?_
          simp   -- R10
          refine hk' _ _ _ ?_
          refine Runs.ret Tryd.func25 (RetOk.two Tryd.results25) ?_
          simp only [Env.put]
          exact ret 0 false (by rw [hcp, common, find_no fun i h => hno i h h]) _ _
  simp [h0, h5, hm']   -- R1
  refine RunK.callA Ty_ok (IsBigraph_ok sig b hs) e27 (.cons (ArgOk.encSig false sig) (.cons (ArgOk.encB false b) .nil)) (by decide) (by decide) rfl (by simp [h0, encSig, encB, Big.cells, encN, encI, encS, encW]) ?_
  rintro _ rfl
  cases p1 : goodB sig b
  · simp [guardOf]
    exact fin _ false (by simp [h2]) (by simp [h3]) (by simp [h5]) (by simp) (by rw [p1]; rfl)
  simp [h2, h5, hm', guardOf]
  refine RunK.callA Ty_ok (isNodeB_ok b x hn) e63 (.cons (ArgOk.encB false b) (.cons (.v _ _ _) .nil)) (by decide) (by decide) rfl (by simp [h2, encB, Big.cells, encN, encI, encS, encW]) ?_
  rintro _ rfl
  cases p2 : isNodeB b x
  · simp [guardOf]
    exact fin _ false (by simp [h2]) (by simp [h3]) (by simp [h5]) (by simp) (by rw [p1, p2]; rfl)
  simp [h3, h5, hm', guardOf]
  refine RunK.callA Ty_ok (isNodeB_ok b y hn) e63 (.cons (ArgOk.encB false b) (.cons (.v _ _ _) .nil)) (by decide) (by decide) rfl (by simp [h3, encB, Big.cells, encN, encI, encS, encW]) ?_
  rintro _ rfl
  simp [guardOf]
  exact fin _ (isNodeB b y) (by simp [h2]) (by simp [h3]) (by simp [h5]) (by simp) (by rw [p1, p2]; rfl)

theorem specCommonPlace_ok (sig : Sig) (b : Big) (x y : Int) (hs : SmallB sig b) : PureC Tryd.prog 26 [encSig false sig, encB false b, int x, int y] (fun r => r = .tup [int (commonPlace sig b x y).1, bool (commonPlace sig b x y).2]) := by
  have hn := hs.nodesLen
  refine PureC.of Tryd.func26 rfl Tryd.ntmps26 (by simp) fun Q hQ => ?_
  have ret : ∀ (v : Int) (o : Bool), (v, o) = commonPlace sig b x y → ∀ H n, Q (.tup [int v, bool o]) H n := fun v o h H n => hQ _ _ _ _ (.of (Ret.fresh (by simp))) (by rw [← h])
  refine Runs.seqE Ty_ok (by decide) fun k' hk' => ?_
  simp [encB, encSig, Big.cells]   -- R0
  refine hk' _ _ _ ?_
  refine Runs.cut (fun ρ H n => ρ 0 = .list false (sig.map Control.cells) ∧ ρ 2 = int x ∧ ρ 3 = int y ∧ ρ 5 = .ptr (0, 5) 1 0 0 ∧ H (0, 5) = some ⟨6, [b.cells false]⟩) ⟨by simp, by simp, by simp, by simp, by simp [Big.cells]⟩ ?_
  clear hk'
  rintro ρ H n ⟨h0, h2, h3, h5, hm⟩
  have hm' := hm
  simp only [Big.cells, encN, encI, encS, encW] at hm'
  refine Runs.seq ?_
  refine Runs.seqE Ty_ok (by decide) fun k' hk' => ?_
  have fin : ∀ (ρ : Env) (ok : Bool), ρ 2 = int x → ρ 3 = int y → ρ 5 = .ptr (0, 5) 1 0 0 → ρ 28 = bool (!ok) → (goodB sig b && isNodeB b x && isNodeB b y) = ok → Runs Tryd.prog 26 51 k' ρ H n Q := by
    clear h0 h2 h3 h5
    intro ρ ok h2 h3 h5 h28 hok
    refine hk' _ _ _ ?_
    refine Runs.ite h28 (fun hc1 => ?_) (fun hc1 => ?_)   -- t28
    · have hb : ok = false := by simpa using hc1
      refine Runs.seqE Ty_ok (by decide) fun k' hk' => ?_
      simp   -- R2
      refine hk' _ _ _ ?_
      refine Runs.ret Tryd.func26 (RetOk.two Tryd.results26) ?_
      simp only [Env.put]
      exact ret 0 false (by rw [commonPlace, hok, hb]; rfl) _ _
    · have hb : ok = true := by simpa using hc1
      rw [hb] at hok
      have hcp : commonPlace sig b x y = common b x y := by rw [commonPlace, hok]; rfl
      simp only [Bool.and_eq_true] at hok
      have hd := goodB_down hok.1.1
      have hx := hok.1.2
      have hy := hok.2
      simp only [isNodeB, within, Bool.and_eq_true, decide_eq_true_eq] at hx hy
      refine Runs.skip ?_
      refine Runs.seqD Ty_ok kindOp_ok draws (by decide) (by kernel_rfl) fun k' hk' => ?_
      simp [h2, h3, h5, hm']   -- R3
      refine RunDK.callA Ty_ok kindOp_ok (l2Above_ok hd x (by omega)).pure e68 (.cons (ArgOk.encB false b) (.cons (.v _ _ _) .nil)) (by decide) rfl (by simp [h2, encB, Big.cells, encN, encI, encS, encW]) ?_
      simp [h2, h3, h5, hm']
      refine RunDK.callA Ty_ok kindOp_ok (l2Above_ok hd y (by omega)).pure e68 (.cons (ArgOk.encB false b) (.cons (.v _ _ _) .nil)) (by decide) rfl (by simp [h3, encB, Big.cells, encN, encI, encS, encW]) ?_
      simp
      refine hk' _ _ _ ?_
      refine Runs.seq ?_
      refine Runs.seqE Ty_ok (by decide) fun k' hk' => ?_
      simp   -- R4
      refine hk' _ _ _ ?_
      refine Runs.block (Runs.loopUp (above b x).length (fun k ρ H n => ρ 11 = encI true (above b y) ∧ ρ 10 = .list true ((above b x).map intC) ∧ ρ 12 = int k ∧ ∀ i (h : i < (above b x).length), i < k → meets b y (above b x)[i] = false) ?_ ?_)
      · exact ⟨by simp [encI], by simp [encI], by simp, fun i h hi => by omega⟩
      · rintro k ρ H n hk ⟨h11, h10, h12, hno⟩ IH
        have hal := above_len b x hd.1
        refine Runs.seq ?_
        refine Runs.seqE Ty_ok (by decide) fun k' hk' => ?_
        simp [h10, h12]   -- R5
        refine hk' _ _ _ ?_
        refine Runs.ite rfl (fun hc2 => ?_) (fun hc2 => ?_)   -- t38
        · have hc2 : k < (above b x).length := by simpa using hc2
          refine Runs.skip ?_
          refine Runs.seq ?_
          refine Runs.block ?_
          refine Runs.seqE Ty_ok (by decide) fun k' hk' => ?_
          simp [h10, h11, h12, hc2, intC]   -- R7
          refine RunK.callA Ty_ok (l1Has_ok (above b y) (above b x)[k] (above_len b y hd.1)) e69 (.cons (ArgOk.encI true _) (.cons (.v _ _ _) .nil)) (by decide) (by decide) rfl (by simp [h11]) ?_
          rintro _ rfl
          simp
          refine hk' _ _ _ ?_
          refine Runs.ite rfl (fun hc3 => ?_) (fun hc3 => ?_)   -- t46
          · have hc3 : meets b y (above b x)[k] = true := by simpa [meets] using hc3
            refine Runs.seqE Ty_ok (by decide) fun k' hk' => ?_
            simp [h10, h12, hc2, intC]   -- R8
            refine hk' _ _ _ ?_
            refine Runs.ret Tryd.func26 (RetOk.two Tryd.results26) ?_
            simp only [Env.put]
            exact ret (above b x)[k] true (by rw [hcp, common, find_at hc2 hc3 hno]) _ _
          · have hc3 : meets b y (above b x)[k] = false := by
              cases h : meets b y (above b x)[k]
              · rfl
              · simp only [meets] at h
                simp [h] at hc3
            refine Runs.skip ?_
            refine Runs.inBlock ?_
            refine Runs.evalE Ty_ok (by decide) fun k' hk' => ?_
            simp [h12, wrap_succ (show k < 4611686018427387904 by omega)]   -- R6
            refine hk' _ _ _ ?_
            refine IH hc2 _ _ _ ⟨by simp [h11], by simp [h10, intC], by simp, fun i h hi => ?_⟩
            rcases Nat.lt_or_ge i k with hik | hik
            · exact hno i h hik
            · have : i = k := by omega
              subst this
              exact hc3
        · have hc2 : ¬ k < (above b x).length := by simpa using hc2
          have hke : k = (above b x).length := by omega
          subst hke
          refine Runs.exit rfl ?_
          refine Runs.seqE Ty_ok (by decide) fun k' hk' => ?_
          simp   -- R9
          refine hk' _ _ _ ?_
          refine Runs.ret Tryd.func26 (RetOk.two Tryd.results26) ?_
          simp only [Env.put]
          exact ret 0 false (by rw [hcp, common, find_no fun i h => hno i h h]) _ _
  simp [h0, h5, hm']   -- R1
  refine RunK.callA Ty_ok (l2Good_ok sig b hs) e66 (.cons (ArgOk.encSig false sig) (.cons (ArgOk.encB false b) .nil)) (by decide) (by decide) rfl (by simp [h0, encSig, encB, Big.cells, encN, encI, encS, encW]) ?_
  rintro _ rfl
  cases p1 : goodB sig b
  · simp [guardOf]
    exact fin _ false (by simp [h2]) (by simp [h3]) (by simp [h5]) (by simp) (by rw [p1]; rfl)
  simp [h2, h5, hm', guardOf]
  refine RunK.callA Ty_ok (l2Is_ok b x hn) e67 (.cons (ArgOk.encB false b) (.cons (.v _ _ _) .nil)) (by decide) (by decide) rfl (by simp [h2, encB, Big.cells, encN, encI, encS, encW]) ?_
  rintro _ rfl
  cases p2 : isNodeB b x
  · simp [guardOf]
    exact fin _ false (by simp [h2]) (by simp [h3]) (by simp [h5]) (by simp) (by rw [p1, p2]; rfl)
  simp [h3, h5, hm', guardOf]
  refine RunK.callA Ty_ok (l2Is_ok b y hn) e67 (.cons (ArgOk.encB false b) (.cons (.v _ _ _) .nil)) (by decide) (by decide) rfl (by simp [h3, encB, Big.cells, encN, encI, encS, encW]) ?_
  rintro _ rfl
  simp [guardOf]
  exact fin _ (isNodeB b y) (by simp [h2]) (by simp [h3]) (by simp [h5]) (by simp) (by rw [p1, p2]; rfl)

end Go.Ab

/- Contracts of the laws' eq.. functions of bigraphs. By program. -/
namespace Go.Ab
open Go.Proofs
set_option linter.unusedSimpArgs false
theorem ArgOk.nodeB {H : Heap} {n : Nat} (t : Bool) (x : GNode) : ArgOk H n (.agg (x.cells t)) (.agg (x.cells false)) := ArgOk.imm' (.agg _ (imm_node t x)) (by rw [old_agg, old_node])
theorem ArgOk.wireB {H : Heap} {n : Nat} (x : Wire) : ArgOk H n (.agg x.cells) (.agg x.cells) := ArgOk.aggF (by simp [Wire.cells])
theorem ArgOk.ctlB {H : Heap} {n : Nat} (x : Control) : ArgOk H n (.agg x.cells) (.agg x.cells) := ArgOk.aggF (by simp [Control.cells])

theorem e40 : Ent Tryd.prog 40 := Ent.of Tryd.func40 (by kernel_rfl) rfl
theorem eqIntS_ok (p q : List (Int)) (hp : p.length ≤ 1048576) : PureC Tryd.prog 40 [.list false (p.map intC), .list false (q.map intC)] (fun r => r = bool (decide (p = q))) := by
  refine PureC.of Tryd.func40 rfl Tryd.ntmps40 (by simp) fun Q hQ => ?_
  refine Runs.seqE Ty_ok (by decide) fun k' hk' => ?_
  simp   -- R0
  refine hk' _ _ _ ?_
  refine Runs.seq ?_
  refine Runs.seqE Ty_ok (by decide) fun k' hk' => ?_
  simp   -- R1
  refine hk' _ _ _ ?_
  refine Runs.ite rfl (fun hc1 => ?_) (fun hc1 => ?_)
  · simp at hc1
    refine Runs.seqE Ty_ok (by decide) fun k' hk' => ?_
    simp   -- R2
    refine hk' _ _ _ ?_
    refine Runs.ret Tryd.func40 (RetOk.one Tryd.results40) (hQ _ _ _ _ (.v _ _ _) ?_)
    have : p ≠ q := by intro h; subst h; omega
    simp [this]
  · simp at hc1
    have hlen : p.length = q.length := by omega
    refine Runs.skip ?_
    refine Runs.seq ?_
    refine Runs.seqE Ty_ok (by decide) fun k' hk' => ?_
    simp   -- R3
    refine hk' _ _ _ ?_
    refine Runs.block (Runs.loopUp p.length (fun k ρ H n => ρ 0 = .list false (p.map intC) ∧ ρ 1 = .list false (q.map intC) ∧ ρ 5 = int k ∧ p.take k = q.take k) ?_ ?_)
    · simp
    · rintro k ρ H n hk ⟨h0, h1, h5, heq⟩ IH
      refine Runs.seq ?_
      refine Runs.seqE Ty_ok (by decide) fun k' hk' => ?_
      simp [h0, h5]   -- R4
      refine hk' _ _ _ ?_
      refine Runs.ite rfl (fun hc2 => ?_) (fun hc2 => ?_)
      · simp at hc2
        have hq2 : k < q.length := by omega
        refine Runs.skip ?_
        refine Runs.seq ?_
        refine Runs.block ?_
        refine Runs.seqD Ty_ok kindOp_ok draws (by decide) (by kernel_rfl) fun k' hk' => ?_
        simp [h0, h1, h5, hc2, hq2, intC]   -- R6
        refine hk' _ _ _ ?_
        refine Runs.ite rfl (fun hc3 => ?_) (fun hc3 => ?_)
        · simp at hc3
          refine Runs.seqE Ty_ok (by decide) fun k' hk' => ?_
          simp   -- R7
          refine hk' _ _ _ ?_
          refine Runs.ret Tryd.func40 (RetOk.one Tryd.results40) (hQ _ _ _ _ (.v _ _ _) ?_)
          have : p ≠ q := by intro h; subst h; exact hc3 rfl
          simp [this]
        · simp at hc3
          refine Runs.skip ?_
          refine Runs.inBlock ?_
          refine Runs.evalE Ty_ok (by decide) fun k' hk' => ?_
          simp [h5, wrap_succ (show k < 4611686018427387904 by omega)]   -- R5
          refine hk' _ _ _ ?_
          refine IH hc2 _ _ _ ?_
          refine ⟨by simp [h0, intC], by simp [h1, intC], by simp, ?_⟩
          rw [List.take_succ_eq_append_getElem hc2, List.take_succ_eq_append_getElem hq2, heq, hc3]
      · simp at hc2
        refine Runs.exit rfl ?_
        refine Runs.seqE Ty_ok (by decide) fun k' hk' => ?_
        simp   -- R8
        refine hk' _ _ _ ?_
        refine Runs.ret Tryd.func40 (RetOk.one Tryd.results40) (hQ _ _ _ _ (.v _ _ _) ?_)
        rw [List.take_of_length_le hc2, List.take_of_length_le (by omega)] at heq
        simp [heq]

theorem e97 : Ent Tryd.prog 97 := Ent.of Tryd.func97 (by kernel_rfl) rfl
theorem eqStringS_ok (p q : List (Str)) (hp : p.length ≤ 1048576) : PureC Tryd.prog 97 [.list false (p.map strC), .list false (q.map strC)] (fun r => r = bool (decide (p = q))) := by
  refine PureC.of Tryd.func97 rfl Tryd.ntmps97 (by simp) fun Q hQ => ?_
  refine Runs.seqE Ty_ok (by decide) fun k' hk' => ?_
  simp   -- R0
  refine hk' _ _ _ ?_
  refine Runs.seq ?_
  refine Runs.seqE Ty_ok (by decide) fun k' hk' => ?_
  simp   -- R1
  refine hk' _ _ _ ?_
  refine Runs.ite rfl (fun hc1 => ?_) (fun hc1 => ?_)
  · simp at hc1
    refine Runs.seqE Ty_ok (by decide) fun k' hk' => ?_
    simp   -- R2
    refine hk' _ _ _ ?_
    refine Runs.ret Tryd.func97 (RetOk.one Tryd.results97) (hQ _ _ _ _ (.v _ _ _) ?_)
    have : p ≠ q := by intro h; subst h; omega
    simp [this]
  · simp at hc1
    have hlen : p.length = q.length := by omega
    refine Runs.skip ?_
    refine Runs.seq ?_
    refine Runs.seqE Ty_ok (by decide) fun k' hk' => ?_
    simp   -- R3
    refine hk' _ _ _ ?_
    refine Runs.block (Runs.loopUp p.length (fun k ρ H n => ρ 0 = .list false (p.map strC) ∧ ρ 1 = .list false (q.map strC) ∧ ρ 5 = int k ∧ p.take k = q.take k) ?_ ?_)
    · simp
    · rintro k ρ H n hk ⟨h0, h1, h5, heq⟩ IH
      refine Runs.seq ?_
      refine Runs.seqE Ty_ok (by decide) fun k' hk' => ?_
      simp [h0, h5]   -- R4
      refine hk' _ _ _ ?_
      refine Runs.ite rfl (fun hc2 => ?_) (fun hc2 => ?_)
      · simp at hc2
        have hq2 : k < q.length := by omega
        refine Runs.skip ?_
        refine Runs.seq ?_
        refine Runs.block ?_
        refine Runs.seqD Ty_ok kindOp_ok draws (by decide) (by kernel_rfl) fun k' hk' => ?_
        simp [h0, h1, h5, hc2, hq2, strC]   -- R6
        refine hk' _ _ _ ?_
        refine Runs.ite rfl (fun hc3 => ?_) (fun hc3 => ?_)
        · simp at hc3
          refine Runs.seqE Ty_ok (by decide) fun k' hk' => ?_
          simp   -- R7
          refine hk' _ _ _ ?_
          refine Runs.ret Tryd.func97 (RetOk.one Tryd.results97) (hQ _ _ _ _ (.v _ _ _) ?_)
          have : p ≠ q := by intro h; subst h; exact hc3 rfl
          simp [this]
        · simp at hc3
          refine Runs.skip ?_
          refine Runs.inBlock ?_
          refine Runs.evalE Ty_ok (by decide) fun k' hk' => ?_
          simp [h5, wrap_succ (show k < 4611686018427387904 by omega)]   -- R5
          refine hk' _ _ _ ?_
          refine IH hc2 _ _ _ ?_
          refine ⟨by simp [h0, strC], by simp [h1, strC], by simp, ?_⟩
          rw [List.take_succ_eq_append_getElem hc2, List.take_succ_eq_append_getElem hq2, heq, hc3]
      · simp at hc2
        refine Runs.exit rfl ?_
        refine Runs.seqE Ty_ok (by decide) fun k' hk' => ?_
        simp   -- R8
        refine hk' _ _ _ ?_
        refine Runs.ret Tryd.func97 (RetOk.one Tryd.results97) (hQ _ _ _ _ (.v _ _ _) ?_)
        rw [List.take_of_length_le hc2, List.take_of_length_le (by omega)] at heq
        simp [heq]

theorem e143 : Ent Tryd.prog 143 := Ent.of Tryd.func143 (by kernel_rfl) rfl
theorem eqWire_ok (x y : Wire) : PureC Tryd.prog 143 [.agg (Wire.cells x), .agg (Wire.cells y)] (fun r => r = bool (decide (x = y))) := by
  obtain ⟨x0, x1⟩ := x
  obtain ⟨y0, y1⟩ := y
  refine PureC.of Tryd.func143 rfl Tryd.ntmps143 (by simp) fun Q hQ => ?_
  refine Runs.seqE Ty_ok (by decide) fun k' hk' => ?_
  simp [Wire.cells, encN, encI, encS, encW]   -- R0
  refine hk' _ _ _ ?_
  refine Runs.seq ?_
  refine Runs.seqE Ty_ok (by decide) fun k' hk' => ?_
  simp
  refine hk' _ _ _ ?_
  refine Runs.ite rfl (fun hc => ?_) (fun hd0 => ?_)
  · simp at hc
    refine Runs.seqE Ty_ok (by decide) fun k' hk' => ?_
    simp
    refine hk' _ _ _ ?_
    exact Runs.ret Tryd.func143 (RetOk.one Tryd.results143) (hQ _ _ _ _ (.v _ _ _) (by simp [hc]))
  simp at hd0
  refine Runs.skip ?_
  refine Runs.seq ?_
  refine Runs.seqE Ty_ok (by decide) fun k' hk' => ?_
  simp
  refine hk' _ _ _ ?_
  refine Runs.ite rfl (fun hc => ?_) (fun hd1 => ?_)
  · simp at hc
    refine Runs.seqE Ty_ok (by decide) fun k' hk' => ?_
    simp
    refine hk' _ _ _ ?_
    exact Runs.ret Tryd.func143 (RetOk.one Tryd.results143) (hQ _ _ _ _ (.v _ _ _) (by simp [hc]))
  simp at hd1
  refine Runs.skip ?_
  refine Runs.seqE Ty_ok (by decide) fun k' hk' => ?_
  simp
  refine hk' _ _ _ ?_
  exact Runs.ret Tryd.func143 (RetOk.one Tryd.results143) (hQ _ _ _ _ (.v _ _ _) (by simp [hd0, hd1]))

theorem e98 : Ent Tryd.prog 98 := Ent.of Tryd.func98 (by kernel_rfl) rfl
theorem eqWireS_ok (p q : List (Wire)) (hp : p.length ≤ 1048576) : PureC Tryd.prog 98 [.list false (p.map Wire.cells), .list false (q.map Wire.cells)] (fun r => r = bool (decide (p = q))) := by
  refine PureC.of Tryd.func98 rfl Tryd.ntmps98 (by simp) fun Q hQ => ?_
  refine Runs.seqE Ty_ok (by decide) fun k' hk' => ?_
  simp   -- R0
  refine hk' _ _ _ ?_
  refine Runs.seq ?_
  refine Runs.seqE Ty_ok (by decide) fun k' hk' => ?_
  simp   -- R1
  refine hk' _ _ _ ?_
  refine Runs.ite rfl (fun hc1 => ?_) (fun hc1 => ?_)
  · simp at hc1
    refine Runs.seqE Ty_ok (by decide) fun k' hk' => ?_
    simp   -- R2
    refine hk' _ _ _ ?_
    refine Runs.ret Tryd.func98 (RetOk.one Tryd.results98) (hQ _ _ _ _ (.v _ _ _) ?_)
    have : p ≠ q := by intro h; subst h; omega
    simp [this]
  · simp at hc1
    have hlen : p.length = q.length := by omega
    refine Runs.skip ?_
    refine Runs.seq ?_
    refine Runs.seqE Ty_ok (by decide) fun k' hk' => ?_
    simp   -- R3
    refine hk' _ _ _ ?_
    refine Runs.block (Runs.loopUp p.length (fun k ρ H n => ρ 0 = .list false (p.map Wire.cells) ∧ ρ 1 = .list false (q.map Wire.cells) ∧ ρ 5 = int k ∧ p.take k = q.take k) ?_ ?_)
    · simp
    · rintro k ρ H n hk ⟨h0, h1, h5, heq⟩ IH
      refine Runs.seq ?_
      refine Runs.seqE Ty_ok (by decide) fun k' hk' => ?_
      simp [h0, h5]   -- R4
      refine hk' _ _ _ ?_
      refine Runs.ite rfl (fun hc2 => ?_) (fun hc2 => ?_)
      · simp at hc2
        have hq2 : k < q.length := by omega
        refine Runs.skip ?_
        refine Runs.seq ?_
        refine Runs.block ?_
        refine Runs.seqD Ty_ok kindOp_ok draws (by decide) (by kernel_rfl) fun k' hk' => ?_
        simp [h0, h1, h5, hc2, hq2, Wire.cells]   -- R6
        refine RunDK.callA Ty_ok kindOp_ok (eqWire_ok p[k] q[k]) e143 (.cons (ArgOk.wireB p[k]) (.cons (ArgOk.wireB q[k]) .nil)) (by decide) rfl (by simp [Wire.cells]) ?_
        simp
        refine hk' _ _ _ ?_
        refine Runs.ite rfl (fun hc3 => ?_) (fun hc3 => ?_)
        · simp at hc3
          refine Runs.seqE Ty_ok (by decide) fun k' hk' => ?_
          simp   -- R7
          refine hk' _ _ _ ?_
          refine Runs.ret Tryd.func98 (RetOk.one Tryd.results98) (hQ _ _ _ _ (.v _ _ _) ?_)
          have : p ≠ q := by intro h; subst h; exact hc3 rfl
          simp [this]
        · simp at hc3
          refine Runs.skip ?_
          refine Runs.inBlock ?_
          refine Runs.evalE Ty_ok (by decide) fun k' hk' => ?_
          simp [h5, wrap_succ (show k < 4611686018427387904 by omega)]   -- R5
          refine hk' _ _ _ ?_
          refine IH hc2 _ _ _ ?_
          refine ⟨by simp [h0, Wire.cells], by simp [h1, Wire.cells], by simp, ?_⟩
          rw [List.take_succ_eq_append_getElem hc2, List.take_succ_eq_append_getElem hq2, heq, hc3]
      · simp at hc2
        refine Runs.exit rfl ?_
        refine Runs.seqE Ty_ok (by decide) fun k' hk' => ?_
        simp   -- R8
        refine hk' _ _ _ ?_
        refine Runs.ret Tryd.func98 (RetOk.one Tryd.results98) (hQ _ _ _ _ (.v _ _ _) ?_)
        rw [List.take_of_length_le hc2, List.take_of_length_le (by omega)] at heq
        simp [heq]

theorem e95 : Ent Tryd.prog 95 := Ent.of Tryd.func95 (by kernel_rfl) rfl
theorem eqControl_ok (x y : Control) : PureC Tryd.prog 95 [.agg (Control.cells x), .agg (Control.cells y)] (fun r => r = bool (decide (x = y))) := by
  obtain ⟨x0, x1, x2⟩ := x
  obtain ⟨y0, y1, y2⟩ := y
  refine PureC.of Tryd.func95 rfl Tryd.ntmps95 (by simp) fun Q hQ => ?_
  refine Runs.seqE Ty_ok (by decide) fun k' hk' => ?_
  simp [Control.cells, encN, encI, encS, encW]   -- R0
  refine hk' _ _ _ ?_
  refine Runs.seq ?_
  refine Runs.seqE Ty_ok (by decide) fun k' hk' => ?_
  simp
  refine hk' _ _ _ ?_
  refine Runs.ite rfl (fun hc => ?_) (fun hd0 => ?_)
  · simp at hc
    refine Runs.seqE Ty_ok (by decide) fun k' hk' => ?_
    simp
    refine hk' _ _ _ ?_
    exact Runs.ret Tryd.func95 (RetOk.one Tryd.results95) (hQ _ _ _ _ (.v _ _ _) (by simp [hc]))
  simp at hd0
  refine Runs.skip ?_
  refine Runs.seq ?_
  refine Runs.seqE Ty_ok (by decide) fun k' hk' => ?_
  simp
  refine hk' _ _ _ ?_
  refine Runs.ite rfl (fun hc => ?_) (fun hd1 => ?_)
  · simp at hc
    refine Runs.seqE Ty_ok (by decide) fun k' hk' => ?_
    simp
    refine hk' _ _ _ ?_
    exact Runs.ret Tryd.func95 (RetOk.one Tryd.results95) (hQ _ _ _ _ (.v _ _ _) (by simp [hc]))
  simp at hd1
  refine Runs.skip ?_
  refine Runs.seq ?_
  refine Runs.seqE Ty_ok (by decide) fun k' hk' => ?_
  simp
  refine hk' _ _ _ ?_
  refine Runs.ite rfl (fun hc => ?_) (fun hd2 => ?_)
  · simp at hc
    refine Runs.seqE Ty_ok (by decide) fun k' hk' => ?_
    simp
    refine hk' _ _ _ ?_
    exact Runs.ret Tryd.func95 (RetOk.one Tryd.results95) (hQ _ _ _ _ (.v _ _ _) (by simp [hc]))
  simp at hd2
  refine Runs.skip ?_
  refine Runs.seqE Ty_ok (by decide) fun k' hk' => ?_
  simp
  refine hk' _ _ _ ?_
  exact Runs.ret Tryd.func95 (RetOk.one Tryd.results95) (hQ _ _ _ _ (.v _ _ _) (by simp [hd0, hd1, hd2]))

theorem e38 : Ent Tryd.prog 38 := Ent.of Tryd.func38 (by kernel_rfl) rfl
theorem eqControlS_ok (p q : List (Control)) (hp : p.length ≤ 1048576) : PureC Tryd.prog 38 [.list false (p.map Control.cells), .list false (q.map Control.cells)] (fun r => r = bool (decide (p = q))) := by
  refine PureC.of Tryd.func38 rfl Tryd.ntmps38 (by simp) fun Q hQ => ?_
  refine Runs.seqE Ty_ok (by decide) fun k' hk' => ?_
  simp   -- R0
  refine hk' _ _ _ ?_
  refine Runs.seq ?_
  refine Runs.seqE Ty_ok (by decide) fun k' hk' => ?_
  simp   -- R1
  refine hk' _ _ _ ?_
  refine Runs.ite rfl (fun hc1 => ?_) (fun hc1 => ?_)
  · simp at hc1
    refine Runs.seqE Ty_ok (by decide) fun k' hk' => ?_
    simp   -- R2
    refine hk' _ _ _ ?_
    refine Runs.ret Tryd.func38 (RetOk.one Tryd.results38) (hQ _ _ _ _ (.v _ _ _) ?_)
    have : p ≠ q := by intro h; subst h; omega
    simp [this]
  · simp at hc1
    have hlen : p.length = q.length := by omega
    refine Runs.skip ?_
    refine Runs.seq ?_
    refine Runs.seqE Ty_ok (by decide) fun k' hk' => ?_
    simp   -- R3
    refine hk' _ _ _ ?_
    refine Runs.block (Runs.loopUp p.length (fun k ρ H n => ρ 0 = .list false (p.map Control.cells) ∧ ρ 1 = .list false (q.map Control.cells) ∧ ρ 5 = int k ∧ p.take k = q.take k) ?_ ?_)
    · simp
    · rintro k ρ H n hk ⟨h0, h1, h5, heq⟩ IH
      refine Runs.seq ?_
      refine Runs.seqE Ty_ok (by decide) fun k' hk' => ?_
      simp [h0, h5]   -- R4
      refine hk' _ _ _ ?_
      refine Runs.ite rfl (fun hc2 => ?_) (fun hc2 => ?_)
      · simp at hc2
        have hq2 : k < q.length := by omega
        refine Runs.skip ?_
        refine Runs.seq ?_
        refine Runs.block ?_
        refine Runs.seqD Ty_ok kindOp_ok draws (by decide) (by kernel_rfl) fun k' hk' => ?_
        simp [h0, h1, h5, hc2, hq2, Control.cells]   -- R6
        refine RunDK.callA Ty_ok kindOp_ok (eqControl_ok p[k] q[k]) e95 (.cons (ArgOk.ctlB p[k]) (.cons (ArgOk.ctlB q[k]) .nil)) (by decide) rfl (by simp [Control.cells]) ?_
        simp
        refine hk' _ _ _ ?_
        refine Runs.ite rfl (fun hc3 => ?_) (fun hc3 => ?_)
        · simp at hc3
          refine Runs.seqE Ty_ok (by decide) fun k' hk' => ?_
          simp   -- R7
          refine hk' _ _ _ ?_
          refine Runs.ret Tryd.func38 (RetOk.one Tryd.results38) (hQ _ _ _ _ (.v _ _ _) ?_)
          have : p ≠ q := by intro h; subst h; exact hc3 rfl
          simp [this]
        · simp at hc3
          refine Runs.skip ?_
          refine Runs.inBlock ?_
          refine Runs.evalE Ty_ok (by decide) fun k' hk' => ?_
          simp [h5, wrap_succ (show k < 4611686018427387904 by omega)]   -- R5
          refine hk' _ _ _ ?_
          refine IH hc2 _ _ _ ?_
          refine ⟨by simp [h0, Control.cells], by simp [h1, Control.cells], by simp, ?_⟩
          rw [List.take_succ_eq_append_getElem hc2, List.take_succ_eq_append_getElem hq2, heq, hc3]
      · simp at hc2
        refine Runs.exit rfl ?_
        refine Runs.seqE Ty_ok (by decide) fun k' hk' => ?_
        simp   -- R8
        refine hk' _ _ _ ?_
        refine Runs.ret Tryd.func38 (RetOk.one Tryd.results38) (hQ _ _ _ _ (.v _ _ _) ?_)
        rw [List.take_of_length_le hc2, List.take_of_length_le (by omega)] at heq
        simp [heq]

theorem e142 : Ent Tryd.prog 142 := Ent.of Tryd.func142 (by kernel_rfl) rfl
theorem eqNode_ok (x y : GNode) (hl : x.links.length ≤ 1048576) : PureC Tryd.prog 142 [.agg (GNode.cells false x), .agg (GNode.cells false y)] (fun r => r = bool (decide (x = y))) := by
  obtain ⟨x0, x1, x2⟩ := x
  obtain ⟨y0, y1, y2⟩ := y
  refine PureC.of Tryd.func142 rfl Tryd.ntmps142 (by simp) fun Q hQ => ?_
  refine Runs.seqE Ty_ok (by decide) fun k' hk' => ?_
  simp [GNode.cells, encN, encI, encS, encW]   -- R0
  refine hk' _ _ _ ?_
  refine Runs.seq ?_
  refine Runs.seqE Ty_ok (by decide) fun k' hk' => ?_
  simp
  refine hk' _ _ _ ?_
  refine Runs.ite rfl (fun hc => ?_) (fun hd0 => ?_)
  · simp at hc
    refine Runs.seqE Ty_ok (by decide) fun k' hk' => ?_
    simp
    refine hk' _ _ _ ?_
    exact Runs.ret Tryd.func142 (RetOk.one Tryd.results142) (hQ _ _ _ _ (.v _ _ _) (by simp [hc]))
  simp at hd0
  refine Runs.skip ?_
  refine Runs.seq ?_
  refine Runs.seqE Ty_ok (by decide) fun k' hk' => ?_
  simp
  refine hk' _ _ _ ?_
  refine Runs.ite rfl (fun hc => ?_) (fun hd1 => ?_)
  · simp at hc
    refine Runs.seqE Ty_ok (by decide) fun k' hk' => ?_
    simp
    refine hk' _ _ _ ?_
    exact Runs.ret Tryd.func142 (RetOk.one Tryd.results142) (hQ _ _ _ _ (.v _ _ _) (by simp [hc]))
  simp at hd1
  refine Runs.skip ?_
  refine Runs.seq ?_
  refine Runs.seqE Ty_ok (by decide) fun k' hk' => ?_
  simp
  refine RunK.callA Ty_ok (eqIntS_ok x2 y2 hl) e40 (.cons (ArgOk.encI false x2) (.cons (ArgOk.encI false y2) .nil)) (by decide) (by decide) rfl (by simp [encN, encI, encS, encW]) ?_
  rintro _ rfl
  simp
  refine hk' _ _ _ ?_
  refine Runs.ite rfl (fun hc => ?_) (fun hd2 => ?_)
  · simp at hc
    refine Runs.seqE Ty_ok (by decide) fun k' hk' => ?_
    simp
    refine hk' _ _ _ ?_
    exact Runs.ret Tryd.func142 (RetOk.one Tryd.results142) (hQ _ _ _ _ (.v _ _ _) (by simp [hc]))
  simp at hd2
  refine Runs.skip ?_
  refine Runs.seqE Ty_ok (by decide) fun k' hk' => ?_
  simp
  refine hk' _ _ _ ?_
  exact Runs.ret Tryd.func142 (RetOk.one Tryd.results142) (hQ _ _ _ _ (.v _ _ _) (by simp [hd0, hd1, hd2]))

theorem e96 : Ent Tryd.prog 96 := Ent.of Tryd.func96 (by kernel_rfl) rfl
theorem eqNodeS_ok (p q : List (GNode)) (hp : p.length ≤ 1048576) (hl : ∀ x ∈ p, x.links.length ≤ 1048576) : PureC Tryd.prog 96 [.list false (p.map (GNode.cells false)), .list false (q.map (GNode.cells false))] (fun r => r = bool (decide (p = q))) := by
  refine PureC.of Tryd.func96 rfl Tryd.ntmps96 (by simp) fun Q hQ => ?_
  refine Runs.seqE Ty_ok (by decide) fun k' hk' => ?_
  simp   -- R0
  refine hk' _ _ _ ?_
  refine Runs.seq ?_
  refine Runs.seqE Ty_ok (by decide) fun k' hk' => ?_
  simp   -- R1
  refine hk' _ _ _ ?_
  refine Runs.ite rfl (fun hc1 => ?_) (fun hc1 => ?_)
  · simp at hc1
    refine Runs.seqE Ty_ok (by decide) fun k' hk' => ?_
    simp   -- R2
    refine hk' _ _ _ ?_
    refine Runs.ret Tryd.func96 (RetOk.one Tryd.results96) (hQ _ _ _ _ (.v _ _ _) ?_)
    have : p ≠ q := by intro h; subst h; omega
    simp [this]
  · simp at hc1
    have hlen : p.length = q.length := by omega
    refine Runs.skip ?_
    refine Runs.seq ?_
    refine Runs.seqE Ty_ok (by decide) fun k' hk' => ?_
    simp   -- R3
    refine hk' _ _ _ ?_
    refine Runs.block (Runs.loopUp p.length (fun k ρ H n => ρ 0 = .list false (p.map (GNode.cells false)) ∧ ρ 1 = .list false (q.map (GNode.cells false)) ∧ ρ 5 = int k ∧ p.take k = q.take k) ?_ ?_)
    · simp
    · rintro k ρ H n hk ⟨h0, h1, h5, heq⟩ IH
      refine Runs.seq ?_
      refine Runs.seqE Ty_ok (by decide) fun k' hk' => ?_
      simp [h0, h5]   -- R4
      refine hk' _ _ _ ?_
      refine Runs.ite rfl (fun hc2 => ?_) (fun hc2 => ?_)
      · simp at hc2
        have hq2 : k < q.length := by omega
        refine Runs.skip ?_
        refine Runs.seq ?_
        refine Runs.block ?_
        refine Runs.seqD Ty_ok kindOp_ok draws (by decide) (by kernel_rfl) fun k' hk' => ?_
        simp [h0, h1, h5, hc2, hq2, GNode.cells]   -- R6
        refine RunDK.callA Ty_ok kindOp_ok (eqNode_ok p[k] q[k] (hl _ (List.getElem_mem hc2))) e142 (.cons (ArgOk.nodeB false p[k]) (.cons (ArgOk.nodeB false q[k]) .nil)) (by decide) rfl (by simp [GNode.cells]) ?_
        simp
        refine hk' _ _ _ ?_
        refine Runs.ite rfl (fun hc3 => ?_) (fun hc3 => ?_)
        · simp at hc3
          refine Runs.seqE Ty_ok (by decide) fun k' hk' => ?_
          simp   -- R7
          refine hk' _ _ _ ?_
          refine Runs.ret Tryd.func96 (RetOk.one Tryd.results96) (hQ _ _ _ _ (.v _ _ _) ?_)
          have : p ≠ q := by intro h; subst h; exact hc3 rfl
          simp [this]
        · simp at hc3
          refine Runs.skip ?_
          refine Runs.inBlock ?_
          refine Runs.evalE Ty_ok (by decide) fun k' hk' => ?_
          simp [h5, wrap_succ (show k < 4611686018427387904 by omega)]   -- R5
          refine hk' _ _ _ ?_
          refine IH hc2 _ _ _ ?_
          refine ⟨by simp [h0, GNode.cells], by simp [h1, GNode.cells], by simp, ?_⟩
          rw [List.take_succ_eq_append_getElem hc2, List.take_succ_eq_append_getElem hq2, heq, hc3]
      · simp at hc2
        refine Runs.exit rfl ?_
        refine Runs.seqE Ty_ok (by decide) fun k' hk' => ?_
        simp   -- R8
        refine hk' _ _ _ ?_
        refine Runs.ret Tryd.func96 (RetOk.one Tryd.results96) (hQ _ _ _ _ (.v _ _ _) ?_)
        rw [List.take_of_length_le hc2, List.take_of_length_le (by omega)] at heq
        simp [heq]

theorem e39 : Ent Tryd.prog 39 := Ent.of Tryd.func39 (by kernel_rfl) rfl
theorem eqBigraph_ok (x y : Big) (hb : x.nodes.length ≤ 1048576 ∧ (∀ z ∈ x.nodes, z.links.length ≤ 1048576) ∧ x.sites.length ≤ 1048576 ∧ x.outer.length ≤ 1048576 ∧ x.inner.length ≤ 1048576) : PureC Tryd.prog 39 [.agg (Big.cells false x), .agg (Big.cells false y)] (fun r => r = bool (decide (x = y))) := by
  obtain ⟨x0, x1, x2, x3, x4, x5⟩ := x
  obtain ⟨y0, y1, y2, y3, y4, y5⟩ := y
  refine PureC.of Tryd.func39 rfl Tryd.ntmps39 (by simp) fun Q hQ => ?_
  refine Runs.seqE Ty_ok (by decide) fun k' hk' => ?_
  simp [Big.cells, encN, encI, encS, encW]   -- R0
  refine hk' _ _ _ ?_
  refine Runs.seq ?_
  refine Runs.seqE Ty_ok (by decide) fun k' hk' => ?_
  simp
  refine hk' _ _ _ ?_
  refine Runs.ite rfl (fun hc => ?_) (fun hd0 => ?_)
  · simp at hc
    refine Runs.seqE Ty_ok (by decide) fun k' hk' => ?_
    simp
    refine hk' _ _ _ ?_
    exact Runs.ret Tryd.func39 (RetOk.one Tryd.results39) (hQ _ _ _ _ (.v _ _ _) (by simp [hc]))
  simp at hd0
  refine Runs.skip ?_
  refine Runs.seq ?_
  refine Runs.seqE Ty_ok (by decide) fun k' hk' => ?_
  simp
  refine RunK.callA Ty_ok (eqNodeS_ok x1 y1 hb.1 hb.2.1) e96 (.cons (ArgOk.encN false x1) (.cons (ArgOk.encN false y1) .nil)) (by decide) (by decide) rfl (by simp [encN, encI, encS, encW]) ?_
  rintro _ rfl
  simp
  refine hk' _ _ _ ?_
  refine Runs.ite rfl (fun hc => ?_) (fun hd1 => ?_)
  · simp at hc
    refine Runs.seqE Ty_ok (by decide) fun k' hk' => ?_
    simp
    refine hk' _ _ _ ?_
    exact Runs.ret Tryd.func39 (RetOk.one Tryd.results39) (hQ _ _ _ _ (.v _ _ _) (by simp [hc]))
  simp at hd1
  refine Runs.skip ?_
  refine Runs.seq ?_
  refine Runs.seqE Ty_ok (by decide) fun k' hk' => ?_
  simp
  refine RunK.callA Ty_ok (eqIntS_ok x2 y2 hb.2.2.1) e40 (.cons (ArgOk.encI false x2) (.cons (ArgOk.encI false y2) .nil)) (by decide) (by decide) rfl (by simp [encN, encI, encS, encW]) ?_
  rintro _ rfl
  simp
  refine hk' _ _ _ ?_
  refine Runs.ite rfl (fun hc => ?_) (fun hd2 => ?_)
  · simp at hc
    refine Runs.seqE Ty_ok (by decide) fun k' hk' => ?_
    simp
    refine hk' _ _ _ ?_
    exact Runs.ret Tryd.func39 (RetOk.one Tryd.results39) (hQ _ _ _ _ (.v _ _ _) (by simp [hc]))
  simp at hd2
  refine Runs.skip ?_
  refine Runs.seq ?_
  refine Runs.seqE Ty_ok (by decide) fun k' hk' => ?_
  simp
  refine hk' _ _ _ ?_
  refine Runs.ite rfl (fun hc => ?_) (fun hd3 => ?_)
  · simp at hc
    refine Runs.seqE Ty_ok (by decide) fun k' hk' => ?_
    simp
    refine hk' _ _ _ ?_
    exact Runs.ret Tryd.func39 (RetOk.one Tryd.results39) (hQ _ _ _ _ (.v _ _ _) (by simp [hc]))
  simp at hd3
  refine Runs.skip ?_
  refine Runs.seq ?_
  refine Runs.seqE Ty_ok (by decide) fun k' hk' => ?_
  simp
  refine RunK.callA Ty_ok (eqStringS_ok x4 y4 hb.2.2.2.1) e97 (.cons (ArgOk.encS false x4) (.cons (ArgOk.encS false y4) .nil)) (by decide) (by decide) rfl (by simp [encN, encI, encS, encW]) ?_
  rintro _ rfl
  simp
  refine hk' _ _ _ ?_
  refine Runs.ite rfl (fun hc => ?_) (fun hd4 => ?_)
  · simp at hc
    refine Runs.seqE Ty_ok (by decide) fun k' hk' => ?_
    simp
    refine hk' _ _ _ ?_
    exact Runs.ret Tryd.func39 (RetOk.one Tryd.results39) (hQ _ _ _ _ (.v _ _ _) (by simp [hc]))
  simp at hd4
  refine Runs.skip ?_
  refine Runs.seq ?_
  refine Runs.seqE Ty_ok (by decide) fun k' hk' => ?_
  simp
  refine RunK.callA Ty_ok (eqWireS_ok x5 y5 hb.2.2.2.2) e98 (.cons (ArgOk.encW false x5) (.cons (ArgOk.encW false y5) .nil)) (by decide) (by decide) rfl (by simp [encN, encI, encS, encW]) ?_
  rintro _ rfl
  simp
  refine hk' _ _ _ ?_
  refine Runs.ite rfl (fun hc => ?_) (fun hd5 => ?_)
  · simp at hc
    refine Runs.seqE Ty_ok (by decide) fun k' hk' => ?_
    simp
    refine hk' _ _ _ ?_
    exact Runs.ret Tryd.func39 (RetOk.one Tryd.results39) (hQ _ _ _ _ (.v _ _ _) (by simp [hc]))
  simp at hd5
  refine Runs.skip ?_
  refine Runs.seqE Ty_ok (by decide) fun k' hk' => ?_
  simp
  refine hk' _ _ _ ?_
  exact Runs.ret Tryd.func39 (RetOk.one Tryd.results39) (hQ _ _ _ _ (.v _ _ _) (by simp [hd0, hd1, hd2, hd3, hd4, hd5]))

end Go.Ab

/- Contracts of the laws' to.. functions of bigraphs' slices. By program. -/
namespace Go.Ab
open Go.Proofs
set_option linter.unusedSimpArgs false
theorem e92 : Ent Tryd.prog 92 := Ent.of Tryd.func92 (by kernel_rfl) rfl
theorem toIntS_ok (p : List (Int)) (hp : p.length ≤ 1048576) : PureC Tryd.prog 92 [.list false (p.map intC)] (fun r => r = .list true (p.map intC)) := by
  refine PureC.of Tryd.func92 rfl Tryd.ntmps92 (by simp) fun Q hQ => ?_
  refine Runs.seqE Ty_ok (by decide) fun k' hk' => ?_
  simp   -- R0
  refine hk' _ _ _ ?_
  refine Runs.seqE Ty_ok (by decide) fun k' hk' => ?_
  simp [show (p.length : Int) ≤ 1073741824 by omega]   -- R1
  refine hk' _ _ _ ?_
  refine Runs.seq ?_
  refine Runs.seqE Ty_ok (by decide) fun k' hk' => ?_
  simp   -- R2
  refine hk' _ _ _ ?_
  refine Runs.block (Runs.loopUp p.length (fun k ρ H n => ρ 0 = .list false (p.map intC) ∧ ρ 4 = int k ∧ ρ 3 = .arr (0, 7) p.length 0 p.length ∧ H (0, 7) = some ⟨1, part intC [int 0] p k⟩) ?_ ?_)
  · simp [intC, part_zero]
  · rintro k ρ H n hk ⟨h0, h4, h3, hH⟩ IH
    refine Runs.seq ?_
    refine Runs.seqE Ty_ok (by decide) fun k' hk' => ?_
    simp [h0, h4]   -- R3
    refine hk' _ _ _ ?_
    refine Runs.ite rfl (fun hc1 => ?_) (fun hc1 => ?_)
    · simp at hc1
      refine Runs.skip ?_
      refine Runs.seq ?_
      refine Runs.block ?_
      refine Runs.evalE Ty_ok (by decide) fun k' hk' => ?_
      simp [h0, h3, h4, hH, hc1, part_len hk, part_get hc1, intC]   -- R5
      refine hk' _ _ _ ?_
      refine Runs.inBlock ?_
      refine Runs.evalE Ty_ok (by decide) fun k' hk' => ?_
      simp [h4, wrap_succ (show k < 4611686018427387904 by omega)]   -- R4
      refine hk' _ _ _ ?_
      refine IH hc1 _ _ _ ?_
      rw [← part_set hc1]
      simp [h0, h3, intC, part_get' hc1]
    · simp at hc1
      have hke : k = p.length := by omega
      subst hke
      rw [part_end] at hH
      refine Runs.exit rfl ?_
      refine Runs.seqE Ty_ok (by decide) fun k' hk' => ?_
      simp [h3]   -- R6
      refine hk' _ _ _ ?_
      exact Runs.ret Tryd.func92 (RetOk.one Tryd.results92) (hQ _ _ _ _ (.of (Ret.arrF (by simp [hH]; rfl) (by simp [intC, intC]))) rfl)

theorem e93 : Ent Tryd.prog 93 := Ent.of Tryd.func93 (by kernel_rfl) rfl
theorem toStringS_ok (p : List (Str)) (hp : p.length ≤ 1048576) : PureC Tryd.prog 93 [.list false (p.map strC)] (fun r => r = .list true (p.map strC)) := by
  refine PureC.of Tryd.func93 rfl Tryd.ntmps93 (by simp) fun Q hQ => ?_
  refine Runs.seqE Ty_ok (by decide) fun k' hk' => ?_
  simp   -- R0
  refine hk' _ _ _ ?_
  refine Runs.seqE Ty_ok (by decide) fun k' hk' => ?_
  simp [show (p.length : Int) ≤ 1073741824 by omega]   -- R1
  refine hk' _ _ _ ?_
  refine Runs.seq ?_
  refine Runs.seqE Ty_ok (by decide) fun k' hk' => ?_
  simp   -- R2
  refine hk' _ _ _ ?_
  refine Runs.block (Runs.loopUp p.length (fun k ρ H n => ρ 0 = .list false (p.map strC) ∧ ρ 4 = int k ∧ ρ 3 = .arr (0, 7) p.length 0 p.length ∧ H (0, 7) = some ⟨1, part strC [str []] p k⟩) ?_ ?_)
  · simp [strC, part_zero]
  · rintro k ρ H n hk ⟨h0, h4, h3, hH⟩ IH
    refine Runs.seq ?_
    refine Runs.seqE Ty_ok (by decide) fun k' hk' => ?_
    simp [h0, h4]   -- R3
    refine hk' _ _ _ ?_
    refine Runs.ite rfl (fun hc1 => ?_) (fun hc1 => ?_)
    · simp at hc1
      refine Runs.skip ?_
      refine Runs.seq ?_
      refine Runs.block ?_
      refine Runs.evalE Ty_ok (by decide) fun k' hk' => ?_
      simp [h0, h3, h4, hH, hc1, part_len hk, part_get hc1, strC]   -- R5
      refine hk' _ _ _ ?_
      refine Runs.inBlock ?_
      refine Runs.evalE Ty_ok (by decide) fun k' hk' => ?_
      simp [h4, wrap_succ (show k < 4611686018427387904 by omega)]   -- R4
      refine hk' _ _ _ ?_
      refine IH hc1 _ _ _ ?_
      rw [← part_set hc1]
      simp [h0, h3, strC, part_get' hc1]
    · simp at hc1
      have hke : k = p.length := by omega
      subst hke
      rw [part_end] at hH
      refine Runs.exit rfl ?_
      refine Runs.seqE Ty_ok (by decide) fun k' hk' => ?_
      simp [h3]   -- R6
      refine hk' _ _ _ ?_
      exact Runs.ret Tryd.func93 (RetOk.one Tryd.results93) (hQ _ _ _ _ (.of (Ret.arrF (by simp [hH]; rfl) (by simp [strC, intC]))) rfl)

end Go.Ab

/- Contracts of the laws' to.. functions of bigraphs. By program. -/
namespace Go.Ab
open Go.Proofs
set_option linter.unusedSimpArgs false
theorem e141 : Ent Tryd.prog 141 := Ent.of Tryd.func141 (by kernel_rfl) rfl
theorem toWire_ok (x : Wire) : PureC Tryd.prog 141 [.agg (Wire.cells x)] (fun r => r = .agg (Wire.cells x)) := by
  refine PureC.of Tryd.func141 rfl Tryd.ntmps141 (by simp) fun Q hQ => ?_
  refine Runs.seqE Ty_ok (by decide) fun k' hk' => ?_
  simp [Wire.cells, encN, encI, encS, encW]   -- R0
  refine hk' _ _ _ ?_
  refine Runs.seqE Ty_ok (by decide) fun k' hk' => ?_
  simp   -- R1
  refine hk' _ _ _ ?_
  refine Runs.seqE Ty_ok (by decide) fun k' hk' => ?_
  simp   -- R2
  refine hk' _ _ _ ?_
  refine Runs.seqE Ty_ok (by decide) fun k' hk' => ?_
  simp   -- R3
  refine hk' _ _ _ ?_
  refine Runs.seqE Ty_ok (by decide) fun k' hk' => ?_
  simp   -- R4
  refine hk' _ _ _ ?_
  exact Runs.ret Tryd.func141 (RetOk.cell (cs := Wire.cells x) (v := .agg (Wire.cells x)) Ty_ok Tryd.results141 Ty_121 (by simp [Wire.cells, encN, encI, encS, encW]) (by simp [loadA, Wire.cells])) (hQ _ _ _ _ (.of (Ret.fresh (by simp [Wire.cells, encN, encI, encS, encW, GNode.cells, intC, strC, Wire.cells]))) rfl)

theorem e90 : Ent Tryd.prog 90 := Ent.of Tryd.func90 (by kernel_rfl) rfl
theorem toControl_ok (x : Control) : PureC Tryd.prog 90 [.agg (Control.cells x)] (fun r => r = .agg (Control.cells x)) := by
  refine PureC.of Tryd.func90 rfl Tryd.ntmps90 (by simp) fun Q hQ => ?_
  refine Runs.seqE Ty_ok (by decide) fun k' hk' => ?_
  simp [Control.cells, encN, encI, encS, encW]   -- R0
  refine hk' _ _ _ ?_
  refine Runs.seqE Ty_ok (by decide) fun k' hk' => ?_
  simp   -- R1
  refine hk' _ _ _ ?_
  refine Runs.seqE Ty_ok (by decide) fun k' hk' => ?_
  simp   -- R2
  refine hk' _ _ _ ?_
  refine Runs.seqE Ty_ok (by decide) fun k' hk' => ?_
  simp   -- R3
  refine hk' _ _ _ ?_
  refine Runs.seqE Ty_ok (by decide) fun k' hk' => ?_
  simp   -- R4
  refine hk' _ _ _ ?_
  refine Runs.seqE Ty_ok (by decide) fun k' hk' => ?_
  simp   -- R5
  refine hk' _ _ _ ?_
  exact Runs.ret Tryd.func90 (RetOk.cell (cs := Control.cells x) (v := .agg (Control.cells x)) Ty_ok Tryd.results90 Ty_117 (by simp [Control.cells, encN, encI, encS, encW]) (by simp [loadA, Control.cells])) (hQ _ _ _ _ (.of (Ret.fresh (by simp [Control.cells, encN, encI, encS, encW, GNode.cells, intC, strC, Wire.cells]))) rfl)

theorem e140 : Ent Tryd.prog 140 := Ent.of Tryd.func140 (by kernel_rfl) rfl
theorem toNode_ok (x : GNode) (hl : x.links.length ≤ 1048576) : PureC Tryd.prog 140 [.agg (GNode.cells false x)] (fun r => r = .agg (GNode.cells true x)) := by
  refine PureC.of Tryd.func140 rfl Tryd.ntmps140 (by simp) fun Q hQ => ?_
  refine Runs.seqE Ty_ok (by decide) fun k' hk' => ?_
  simp [GNode.cells, encN, encI, encS, encW]   -- R0
  refine hk' _ _ _ ?_
  refine Runs.seqE Ty_ok (by decide) fun k' hk' => ?_
  simp   -- R1
  refine hk' _ _ _ ?_
  refine Runs.seqE Ty_ok (by decide) fun k' hk' => ?_
  simp   -- R2
  refine hk' _ _ _ ?_
  refine Runs.seqE Ty_ok (by decide) fun k' hk' => ?_
  simp   -- R3
  refine hk' _ _ _ ?_
  refine Runs.seqE Ty_ok (by decide) fun k' hk' => ?_
  simp   -- R4
  refine RunK.callA Ty_ok (toIntS_ok x.links hl) e92 (.cons (ArgOk.encI false x.links) .nil) (by decide) (by decide) rfl (by simp [encN, encI, encS, encW]) ?_
  rintro _ rfl
  simp
  refine hk' _ _ _ ?_
  refine Runs.seqE Ty_ok (by decide) fun k' hk' => ?_
  simp   -- R5
  refine hk' _ _ _ ?_
  exact Runs.ret Tryd.func140 (RetOk.cell (cs := GNode.cells true x) (v := .agg (GNode.cells true x)) Ty_ok Tryd.results140 Ty_63 (by simp [GNode.cells, encN, encI, encS, encW]) (by simp [loadA, GNode.cells])) (hQ _ _ _ _ (.of (Ret.fresh (by simp [GNode.cells, encN, encI, encS, encW, GNode.cells, intC, strC, Wire.cells]))) rfl)

theorem e94 : Ent Tryd.prog 94 := Ent.of Tryd.func94 (by kernel_rfl) rfl
theorem toWireS_ok (p : List (Wire)) (hp : p.length ≤ 1048576) : PureC Tryd.prog 94 [.list false (p.map Wire.cells)] (fun r => r = .list true (p.map Wire.cells)) := by
  refine PureC.of Tryd.func94 rfl Tryd.ntmps94 (by simp) fun Q hQ => ?_
  refine Runs.seqE Ty_ok (by decide) fun k' hk' => ?_
  simp   -- R0
  refine hk' _ _ _ ?_
  refine Runs.seqE Ty_ok (by decide) fun k' hk' => ?_
  simp [show (p.length : Int) ≤ 1073741824 by omega]   -- R1
  refine hk' _ _ _ ?_
  refine Runs.seq ?_
  refine Runs.seqE Ty_ok (by decide) fun k' hk' => ?_
  simp   -- R2
  refine hk' _ _ _ ?_
  refine Runs.block (Runs.loopUp p.length (fun k ρ H n => ρ 0 = .list false (p.map Wire.cells) ∧ ρ 4 = int k ∧ ρ 3 = .arr (0, 7) p.length 0 p.length ∧ H (0, 7) = some ⟨2, part Wire.cells [str [], int 0] p k⟩) ?_ ?_)
  · simp [Wire.cells, part_zero]
  · rintro k ρ H n hk ⟨h0, h4, h3, hH⟩ IH
    refine Runs.seq ?_
    refine Runs.seqE Ty_ok (by decide) fun k' hk' => ?_
    simp [h0, h4]   -- R3
    refine hk' _ _ _ ?_
    refine Runs.ite rfl (fun hc1 => ?_) (fun hc1 => ?_)
    · simp at hc1
      refine Runs.skip ?_
      refine Runs.seq ?_
      refine Runs.block ?_
      refine Runs.evalE Ty_ok (by decide) fun k' hk' => ?_
      simp [h0, h3, h4, hH, hc1, part_len hk, part_get hc1, Wire.cells]   -- R5
      refine RunK.callA Ty_ok (toWire_ok p[k]) e141 (.cons (ArgOk.wireB _) .nil) (by decide) (by decide) rfl (by simp [Wire.cells]) ?_
      rintro _ rfl
      simp [h3, h4, hH, hc1, part_len hk, part_get hc1, Wire.cells]
      refine hk' _ _ _ ?_
      refine Runs.inBlock ?_
      refine Runs.evalE Ty_ok (by decide) fun k' hk' => ?_
      simp [h4, wrap_succ (show k < 4611686018427387904 by omega)]   -- R4
      refine hk' _ _ _ ?_
      refine IH hc1 _ _ _ ?_
      rw [← part_set hc1]
      simp [h0, h3, Wire.cells, part_get' hc1]
    · simp at hc1
      have hke : k = p.length := by omega
      subst hke
      rw [part_end] at hH
      refine Runs.exit rfl ?_
      refine Runs.seqE Ty_ok (by decide) fun k' hk' => ?_
      simp [h3]   -- R6
      refine hk' _ _ _ ?_
      exact Runs.ret Tryd.func94 (RetOk.one Tryd.results94) (hQ _ _ _ _ (.of (Ret.arrF (by simp [hH]; rfl) (by simp [Wire.cells, intC]))) rfl)

theorem e36 : Ent Tryd.prog 36 := Ent.of Tryd.func36 (by kernel_rfl) rfl
theorem toControlS_ok (p : List (Control)) (hp : p.length ≤ 1048576) : PureC Tryd.prog 36 [.list false (p.map Control.cells)] (fun r => r = .list true (p.map Control.cells)) := by
  refine PureC.of Tryd.func36 rfl Tryd.ntmps36 (by simp) fun Q hQ => ?_
  refine Runs.seqE Ty_ok (by decide) fun k' hk' => ?_
  simp   -- R0
  refine hk' _ _ _ ?_
  refine Runs.seqE Ty_ok (by decide) fun k' hk' => ?_
  simp [show (p.length : Int) ≤ 1073741824 by omega]   -- R1
  refine hk' _ _ _ ?_
  refine Runs.seq ?_
  refine Runs.seqE Ty_ok (by decide) fun k' hk' => ?_
  simp   -- R2
  refine hk' _ _ _ ?_
  refine Runs.block (Runs.loopUp p.length (fun k ρ H n => ρ 0 = .list false (p.map Control.cells) ∧ ρ 4 = int k ∧ ρ 3 = .arr (0, 7) p.length 0 p.length ∧ H (0, 7) = some ⟨3, part Control.cells [str [], int 0, int 0] p k⟩) ?_ ?_)
  · simp [Control.cells, part_zero]
  · rintro k ρ H n hk ⟨h0, h4, h3, hH⟩ IH
    refine Runs.seq ?_
    refine Runs.seqE Ty_ok (by decide) fun k' hk' => ?_
    simp [h0, h4]   -- R3
    refine hk' _ _ _ ?_
    refine Runs.ite rfl (fun hc1 => ?_) (fun hc1 => ?_)
    · simp at hc1
      refine Runs.skip ?_
      refine Runs.seq ?_
      refine Runs.block ?_
      refine Runs.evalE Ty_ok (by decide) fun k' hk' => ?_
      simp [h0, h3, h4, hH, hc1, part_len hk, part_get hc1, Control.cells]   -- R5
      refine RunK.callA Ty_ok (toControl_ok p[k]) e90 (.cons (ArgOk.ctlB _) .nil) (by decide) (by decide) rfl (by simp [Control.cells]) ?_
      rintro _ rfl
      simp [h3, h4, hH, hc1, part_len hk, part_get hc1, Control.cells]
      refine hk' _ _ _ ?_
      refine Runs.inBlock ?_
      refine Runs.evalE Ty_ok (by decide) fun k' hk' => ?_
      simp [h4, wrap_succ (show k < 4611686018427387904 by omega)]   -- R4
      refine hk' _ _ _ ?_
      refine IH hc1 _ _ _ ?_
      rw [← part_set hc1]
      simp [h0, h3, Control.cells, part_get' hc1]
    · simp at hc1
      have hke : k = p.length := by omega
      subst hke
      rw [part_end] at hH
      refine Runs.exit rfl ?_
      refine Runs.seqE Ty_ok (by decide) fun k' hk' => ?_
      simp [h3]   -- R6
      refine hk' _ _ _ ?_
      exact Runs.ret Tryd.func36 (RetOk.one Tryd.results36) (hQ _ _ _ _ (.of (Ret.arrF (by simp [hH]; rfl) (by simp [Control.cells, intC]))) rfl)

theorem e91 : Ent Tryd.prog 91 := Ent.of Tryd.func91 (by kernel_rfl) rfl
theorem toNodeS_ok (p : List (GNode)) (hp : p.length ≤ 1048576) (hl : ∀ x ∈ p, x.links.length ≤ 1048576) : PureC Tryd.prog 91 [.list false (p.map (GNode.cells false))] (fun r => r = .list true (p.map (GNode.cells true))) := by
  refine PureC.of Tryd.func91 rfl Tryd.ntmps91 (by simp) fun Q hQ => ?_
  refine Runs.seqE Ty_ok (by decide) fun k' hk' => ?_
  simp   -- R0
  refine hk' _ _ _ ?_
  refine Runs.seqE Ty_ok (by decide) fun k' hk' => ?_
  simp [show (p.length : Int) ≤ 1073741824 by omega]   -- R1
  refine hk' _ _ _ ?_
  refine Runs.seq ?_
  refine Runs.seqE Ty_ok (by decide) fun k' hk' => ?_
  simp   -- R2
  refine hk' _ _ _ ?_
  refine Runs.block (Runs.loopUp p.length (fun k ρ H n => ρ 0 = .list false (p.map (GNode.cells false)) ∧ ρ 4 = int k ∧ ρ 3 = .arr (0, 7) p.length 0 p.length ∧ H (0, 7) = some ⟨3, part (GNode.cells true) [int 0, int 0, .v (.slice none 0 0)] p k⟩) ?_ ?_)
  · simp [GNode.cells, part_zero]
  · rintro k ρ H n hk ⟨h0, h4, h3, hH⟩ IH
    refine Runs.seq ?_
    refine Runs.seqE Ty_ok (by decide) fun k' hk' => ?_
    simp [h0, h4]   -- R3
    refine hk' _ _ _ ?_
    refine Runs.ite rfl (fun hc1 => ?_) (fun hc1 => ?_)
    · simp at hc1
      refine Runs.skip ?_
      refine Runs.seq ?_
      refine Runs.block ?_
      refine Runs.evalE Ty_ok (by decide) fun k' hk' => ?_
      simp [h0, h3, h4, hH, hc1, part_len hk, part_get hc1, GNode.cells]   -- R5
      refine RunK.callA Ty_ok (toNode_ok p[k] (hl _ (List.getElem_mem hc1))) e140 (.cons (ArgOk.nodeB false _) .nil) (by decide) (by decide) rfl (by simp [GNode.cells]) ?_
      rintro _ rfl
      simp [h3, h4, hH, hc1, part_len hk, part_get hc1, GNode.cells]
      refine hk' _ _ _ ?_
      refine Runs.inBlock ?_
      refine Runs.evalE Ty_ok (by decide) fun k' hk' => ?_
      simp [h4, wrap_succ (show k < 4611686018427387904 by omega)]   -- R4
      refine hk' _ _ _ ?_
      refine IH hc1 _ _ _ ?_
      rw [← part_set hc1]
      simp [h0, h3, GNode.cells, part_get' hc1]
    · simp at hc1
      have hke : k = p.length := by omega
      subst hke
      rw [part_end] at hH
      refine Runs.exit rfl ?_
      refine Runs.seqE Ty_ok (by decide) fun k' hk' => ?_
      simp [h3]   -- R6
      refine hk' _ _ _ ?_
      exact Runs.ret Tryd.func91 (RetOk.one Tryd.results91) (hQ _ _ _ _ (.of (Ret.arrF (by simp [hH]; rfl) (by simp [GNode.cells, intC]))) rfl)

theorem e37 : Ent Tryd.prog 37 := Ent.of Tryd.func37 (by kernel_rfl) rfl
theorem toBigraph_ok (x : Big) (hb : x.nodes.length ≤ 1048576 ∧ (∀ z ∈ x.nodes, z.links.length ≤ 1048576) ∧ x.sites.length ≤ 1048576 ∧ x.outer.length ≤ 1048576 ∧ x.inner.length ≤ 1048576) : PureC Tryd.prog 37 [.agg (Big.cells false x)] (fun r => r = .agg (Big.cells true x)) := by
  refine PureC.of Tryd.func37 rfl Tryd.ntmps37 (by simp) fun Q hQ => ?_
  refine Runs.seqE Ty_ok (by decide) fun k' hk' => ?_
  simp [Big.cells, encN, encI, encS, encW]   -- R0
  refine hk' _ _ _ ?_
  refine Runs.seqE Ty_ok (by decide) fun k' hk' => ?_
  simp   -- R1
  refine hk' _ _ _ ?_
  refine Runs.seqE Ty_ok (by decide) fun k' hk' => ?_
  simp   -- R2
  refine hk' _ _ _ ?_
  refine Runs.seqE Ty_ok (by decide) fun k' hk' => ?_
  simp   -- R3
  refine RunK.callA Ty_ok (toNodeS_ok x.nodes hb.1 hb.2.1) e91 (.cons (ArgOk.encN false x.nodes) .nil) (by decide) (by decide) rfl (by simp [encN, encI, encS, encW]) ?_
  rintro _ rfl
  simp
  refine hk' _ _ _ ?_
  refine Runs.seqE Ty_ok (by decide) fun k' hk' => ?_
  simp   -- R4
  refine RunK.callA Ty_ok (toIntS_ok x.sites hb.2.2.1) e92 (.cons (ArgOk.encI false x.sites) .nil) (by decide) (by decide) rfl (by simp [encN, encI, encS, encW]) ?_
  rintro _ rfl
  simp
  refine hk' _ _ _ ?_
  refine Runs.seqE Ty_ok (by decide) fun k' hk' => ?_
  simp   -- R5
  refine hk' _ _ _ ?_
  refine Runs.seqE Ty_ok (by decide) fun k' hk' => ?_
  simp   -- R6
  refine RunK.callA Ty_ok (toStringS_ok x.outer hb.2.2.2.1) e93 (.cons (ArgOk.encS false x.outer) .nil) (by decide) (by decide) rfl (by simp [encN, encI, encS, encW]) ?_
  rintro _ rfl
  simp
  refine hk' _ _ _ ?_
  refine Runs.seqE Ty_ok (by decide) fun k' hk' => ?_
  simp   -- R7
  refine RunK.callA Ty_ok (toWireS_ok x.inner hb.2.2.2.2) e94 (.cons (ArgOk.encW false x.inner) .nil) (by decide) (by decide) rfl (by simp [encN, encI, encS, encW]) ?_
  rintro _ rfl
  simp
  refine hk' _ _ _ ?_
  refine Runs.seqE Ty_ok (by decide) fun k' hk' => ?_
  simp   -- R8
  refine hk' _ _ _ ?_
  exact Runs.ret Tryd.func37 (RetOk.cell (cs := Big.cells true x) (v := .agg (Big.cells true x)) Ty_ok Tryd.results37 Ty_51 (by simp [Big.cells, encN, encI, encS, encW]) (by simp [loadA, Big.cells])) (hQ _ _ _ _ (.of (Ret.fresh (by simp [Big.cells, encN, encI, encS, encW, GNode.cells, intC, strC, Wire.cells]))) rfl)

end Go.Ab

/- Contracts of spec.l12Kids, spec.l12Word and spec.l12Around. -/
namespace Go.Ab
open Go.Proofs
set_option linter.unusedSimpArgs false

theorem l12Kids_ok (p : Proc) (parent : Int) (hp : p.length ≤ 1048576) : PureC Tryd.prog 106 [encP false p, int parent] (fun r => r = encNats true (kidsFrom p parent p.length)) := by
  refine PureC.of Tryd.func106 rfl Tryd.ntmps106 (by simp) fun Q hQ => ?_
  refine Runs.seqE Ty_ok (by decide) fun k' hk' => ?_
  simp [encP]   -- R0
  refine hk' _ _ _ ?_
  refine Runs.seqE Ty_ok (by decide) fun k' hk' => ?_
  simp   -- R1
  refine hk' _ _ _ ?_
  refine Runs.seq ?_
  refine Runs.seqE Ty_ok (by decide) fun k' hk' => ?_
  simp   -- R2
  refine hk' _ _ _ ?_
  refine Runs.block (Runs.loopUp p.length (fun k ρ H n => ρ 1 = int parent ∧ ρ 2 = .ptr (0, 2) 1 0 0 ∧ H (0, 2) = some ⟨1, [[.list false (p.map AmbNode.cells)]]⟩ ∧ ρ 6 = int k ∧ ρ 5 = .arr (1, 7) (kidsFrom p parent k).length 0 (kidsFrom p parent k).length ∧ H (1, 7) = some ⟨1, (kidsFrom p parent k).map fun (i : Nat) => [int (i : Int)]⟩) ?_ ?_)
  · simp [kidsFrom]
  · rintro k ρ H n hk ⟨h1, h2, hH2, h6, h5, hH⟩ IH
    refine Runs.seq ?_
    refine Runs.seqE Ty_ok (by decide) fun k' hk' => ?_
    simp [h2, hH2, h6]   -- R3
    refine hk' _ _ _ ?_
    refine Runs.ite rfl (fun hc1 => ?_) (fun hc1 => ?_)   -- t12
    · simp at hc1
      refine Runs.skip ?_
      refine Runs.seq ?_
      refine Runs.block ?_
      refine Runs.seqE Ty_ok (by decide) fun k' hk' => ?_
      simp [h2, hH2, h6, hc1, h1, AmbNode.cells]   -- R5
      refine hk' _ _ _ ?_
      have hks := kids_succ p parent k
      have hkl := kids_len p parent k
      simp [hc1] at hks
      refine Runs.ite rfl (fun hc2 => ?_) (fun hc2 => ?_)   -- t22
      · simp at hc2
        refine Runs.evalE Ty_ok (by decide) fun k' hk' => ?_
        simp [h5, h6, hH, show (kidsFrom p parent k).length ≤ 1073741823 by omega]   -- R6
        refine hk' _ _ _ ?_
        refine Runs.inBlock ?_
        refine Runs.evalE Ty_ok (by decide) fun k' hk' => ?_
        simp [h6, wrap_succ (show k < 4611686018427387904 by omega)]   -- R4
        refine hk' _ _ _ ?_
        refine IH hc1 _ _ _ ?_
        simp [h1, h2, hH2, hks, hc2]
      · simp at hc2
        refine Runs.skip ?_
        refine Runs.inBlock ?_
        refine Runs.evalE Ty_ok (by decide) fun k' hk' => ?_
        simp [h6, wrap_succ (show k < 4611686018427387904 by omega)]   -- R4
        refine hk' _ _ _ ?_
        refine IH hc1 _ _ _ ?_
        simp [h1, h2, hH2, hks, hc2, h5, hH]
    · simp at hc1
      have hke : k = p.length := by omega
      subst hke
      refine Runs.exit rfl ?_
      refine Runs.seqE Ty_ok (by decide) fun k' hk' => ?_
      simp [h5]   -- R7
      refine hk' _ _ _ ?_
      exact Runs.ret Tryd.func106 (RetOk.one Tryd.results106) (hQ _ _ _ _ (.of (Ret.arrF (by simp [hH]; rfl) (by simp))) rfl)

theorem l12Word_ok (k : Int) (hk : 1 ≤ k ∧ k ≤ 3) : PureC Tryd.prog 144 [int k] (fun r => r = str (word (k - 1).toNat)) := by
  refine PureC.of Tryd.func144 rfl Tryd.ntmps144 (by simp) fun Q hQ => ?_
  refine Runs.seqE Ty_ok (by decide) fun k' hk' => ?_
  simp   -- R0
  refine hk' _ _ _ ?_
  refine Runs.seq ?_
  refine Runs.seqE Ty_ok (by decide) fun k' hk' => ?_
  simp   -- R1
  refine hk' _ _ _ ?_
  refine Runs.block ?_
  have : k = 1 ∨ k = 2 ∨ k = 3 := by omega
  refine Runs.seqE Ty_ok (by decide) fun k' hk' => ?_
  simp
  refine hk' _ _ _ ?_
  refine Runs.ite rfl (fun hc1 => ?_) (fun hc1 => ?_)
  · simp at hc1
    subst hc1
    refine Runs.seqE Ty_ok (by decide) fun k' hk' => ?_
    simp
    refine hk' _ _ _ ?_
    exact Runs.ret Tryd.func144 (RetOk.one Tryd.results144) (hQ _ _ _ _ (.v _ _ _) (by simp [word]))
  · simp at hc1
    refine Runs.seqE Ty_ok (by decide) fun k' hk' => ?_
    simp
    refine hk' _ _ _ ?_
    refine Runs.ite rfl (fun hc2 => ?_) (fun hc2 => ?_)
    · simp at hc2
      subst hc2
      refine Runs.seqE Ty_ok (by decide) fun k' hk' => ?_
      simp
      refine hk' _ _ _ ?_
      exact Runs.ret Tryd.func144 (RetOk.one Tryd.results144) (hQ _ _ _ _ (.v _ _ _) (by simp [word]))
    · simp at hc2
      have : k = 3 := by omega
      subst this
      refine Runs.seqE Ty_ok (by decide) fun k' hk' => ?_
      simp
      refine hk' _ _ _ ?_
      refine Runs.ite rfl (fun _ => ?_) (fun h => by simp at h)
      refine Runs.seqE Ty_ok (by decide) fun k' hk' => ?_
      simp
      refine hk' _ _ _ ?_
      exact Runs.ret Tryd.func144 (RetOk.one Tryd.results144) (hQ _ _ _ _ (.v _ _ _) (by simp [word]))

theorem l12Around_ok (x : AmbNode) (s : Str) (hk : 0 ≤ x.kind ∧ x.kind ≤ 3) (hn : x.name.length ≤ 1073741824) (hs : s.length ≤ 1152921504606846976) : PureC Tryd.prog 107 [.agg x.cells, str s] (fun r => r = str (nodeText x s)) := by
  have hwl := word_len (x.kind - 1).toNat
  refine PureC.of Tryd.func107 rfl Tryd.ntmps107 (by simp) fun Q hQ => ?_
  refine Runs.seqE Ty_ok (by decide) fun k' hk' => ?_
  simp   -- R0
  refine hk' _ _ _ ?_
  refine Runs.seq ?_
  refine Runs.seqE Ty_ok (by decide) fun k' hk' => ?_
  simp [AmbNode.cells]   -- R1
  refine hk' _ _ _ ?_
  refine Runs.ite rfl (fun hc1 => ?_) (fun hc1 => ?_)   -- t7
  · simp at hc1
    refine Runs.seqE Ty_ok (by decide) fun k' hk' => ?_
    simp (disch := first | omega | simp) [if_pos]   -- R2
    refine hk' _ _ _ ?_
    exact Runs.ret Tryd.func107 (RetOk.one Tryd.results107) (hQ _ _ _ _ (.v _ _ _) (by simp [nodeText, hc1]))
  · simp at hc1
    refine Runs.skip ?_
    refine Runs.seqD Ty_ok kindOp_ok draws (by decide) (by kernel_rfl) fun k' hk' => ?_
    simp   -- R3
    refine RunDK.callA Ty_ok kindOp_ok (l12Word_ok x.kind (by omega)) e144 (.cons (.v _ _ _) .nil) (by decide) rfl (by simp) ?_
    generalize hw : word (x.kind - 1).toNat = w at hwl
    simp (disch := first | omega | simp) [if_pos]
    refine hk' _ _ _ ?_
    refine Runs.ret Tryd.func107 (RetOk.one Tryd.results107) (hQ _ _ _ _ (.v _ _ _) ?_)
    unfold nodeText
    rw [if_neg hc1, hw]
    simp

theorem intercalate_snoc (l : List Str) (a : Str) (h : l ≠ []) : Lib.join (l ++ [a]) [124] = Lib.join l [124] ++ [124] ++ a := by
  induction l with
  | nil => exact absurd rfl h
  | cons b l ih =>
    cases l with
    | nil => simp [Lib.join, List.intercalate]
    | cons c l =>
      have := ih (by simp)
      simp [Lib.join, List.intercalate] at this ⊢
      rw [this]
end Go.Ab

/- Contracts of spec.l12In and spec.ProcessText. -/
namespace Go.Ab
open Go.Proofs
set_option linter.unusedSimpArgs false

theorem l12In_ok {p : Proc} (hp : Valid p) : ∀ (d : Nat) (parent : Int), -1 ≤ parent → parent < p.length → (p.length : Int) - parent ≤ d → d ≤ 9 →
    PureC Tryd.prog 47 [encP false p, int parent] (fun r => r = str (textIn p d parent))
  | 0, parent, _, h1, h2, _ => by omega
  | d + 1, parent, h0, h1, h2, hd => by
    have hp8 := hp.len
    have hkl := kids_len p parent p.length
    have hpd : 8 ^ d ≤ 8 ^ 8 := Nat.pow_le_pow_right (by omega) (by omega)
    have hjl : ∀ j, (Lib.join (((kidsFrom p parent p.length).take j).map fun k => nodeText (p.getD k default) (textIn p d k)) [124]).length ≤ 4294967296 := by
      intro j
      have := join_len (((kidsFrom p parent p.length).take j).map fun k => nodeText (p.getD k default) (textIn p d k)) [124] (16 * 8 ^ d - 15 + 12) (fun s hs => by
        simp only [List.mem_map] at hs
        obtain ⟨k, hk, rfl⟩ := hs
        have h1 := nodeText_len (p.getD k default) (textIn p d k) (hp.name k (kids_mem (List.mem_of_mem_take hk)).1)
        have h2 := textIn_len hp d k
        omega)
      simp only [List.length_map, List.length_singleton, List.length_take] at this
      have hm : min j (kidsFrom p parent p.length).length * (16 * 8 ^ d - 15 + 12 + 1) ≤ 8 * (16 * 8 ^ d - 15 + 12 + 1) := Nat.mul_le_mul_right _ (by omega)
      omega
    refine PureC.of Tryd.func47 rfl Tryd.ntmps47 (by simp) fun Q hQ => ?_
    refine Runs.seqE Ty_ok (by decide) fun k' hk' => ?_
    simp [encP]   -- R0
    refine hk' _ _ _ ?_
    refine Runs.seqE Ty_ok (by decide) fun k' hk' => ?_
    simp   -- R1
    refine RunK.callA Ty_ok (l12Kids_ok p parent (by omega)) e106 (.cons (ArgOk.encP false p) (.cons (.v _ _ _) .nil)) (by decide) (by decide) rfl (by simp [encP]) ?_
    rintro _ rfl
    simp [encNats]
    refine hk' _ _ _ ?_
    refine Runs.seq ?_
    refine Runs.seqE Ty_ok (by decide) fun k' hk' => ?_
    simp   -- R2
    refine hk' _ _ _ ?_
    refine Runs.block (Runs.loopUp (kidsFrom p parent p.length).length (fun k ρ H n => ρ 2 = .ptr (0, 2) 1 0 0 ∧ H (0, 2) = some ⟨1, [[.list false (p.map AmbNode.cells)]]⟩ ∧ ρ 5 = .list true ((kidsFrom p parent p.length).map fun (i : Nat) => [int (i : Int)]) ∧ ρ 7 = int k ∧ ρ 6 = str (Lib.join (((kidsFrom p parent p.length).take k).map fun i => nodeText (p.getD i default) (textIn p d i)) [124])) ?_ ?_)
    · simp [Lib.join]
    · rintro k ρ H n hk ⟨h2, hH2, h5, h7, h6⟩ IH
      refine Runs.seq ?_
      refine Runs.seqE Ty_ok (by decide) fun k' hk' => ?_
      simp [h5, h7]   -- R3
      refine hk' _ _ _ ?_
      refine Runs.ite rfl (fun hc1 => ?_) (fun hc1 => ?_)   -- t14
      · simp at hc1
        have him : (kidsFrom p parent p.length)[k] ∈ kidsFrom p parent p.length := List.getElem_mem hc1
        have hsk : (kidsFrom p parent p.length).take (k + 1) = (kidsFrom p parent p.length).take k ++ [(kidsFrom p parent p.length)[k]] := List.take_succ_eq_append_getElem hc1
        obtain ⟨i, hgk⟩ : ∃ i, (kidsFrom p parent p.length)[k] = i := ⟨_, rfl⟩
        rw [hgk] at him hsk
        obtain ⟨hilt, hip⟩ := kids_mem him
        have hup := hp.up i hilt
        have hkd := hp.kind i hilt
        have hnm := hp.name i hilt
        have htl := textIn_len hp d i
        have hjk := hjl k
        have hntl := nodeText_len (p.getD i default) (textIn p d i) hnm
        refine Runs.skip ?_
        refine Runs.seq ?_
        refine Runs.block ?_
        refine Runs.seq ?_
        refine Runs.seqE Ty_ok (by decide) fun k' hk' => ?_
        simp [h7]   -- R5
        refine hk' _ _ _ ?_
        refine Runs.ite rfl (fun hc2 => ?_) (fun hc2 => ?_)   -- t18
        · simp at hc2
          have hkz : ¬ ((kidsFrom p parent p.length).take k = []) := by
            intro he
            have := congrArg List.length he
            rw [List.length_take] at this
            simp only [List.length_nil] at this
            omega
          have hjs : Lib.join (((kidsFrom p parent p.length).take (k + 1)).map fun i => nodeText (p.getD i default) (textIn p d i)) [124] = Lib.join (((kidsFrom p parent p.length).take k).map fun i => nodeText (p.getD i default) (textIn p d i)) [124] ++ [124] ++ nodeText (p.getD i default) (textIn p d i) := by
            rw [hsk, List.map_append, List.map_singleton, intercalate_snoc _ _ (by simpa using hkz)]
          generalize hj0 : Lib.join (((kidsFrom p parent p.length).take k).map fun i => nodeText (p.getD i default) (textIn p d i)) [124] = s0 at hjk hjs h6
          refine Runs.evalE Ty_ok (by decide) fun k' hk' => ?_
          simp (disch := first | omega | simp) [h6, if_pos]   -- R6
          refine hk' _ _ _ ?_
          refine Runs.evalDE Ty_ok kindOp_ok draws (by decide) (by kernel_rfl) fun k' hk' => ?_
          simp [h2, hH2, h5, h7, hc1, hilt, hgk, AmbNode.cells]   -- R7
          refine RunDK.callA Ty_ok kindOp_ok (l12In_ok hp d i (by omega) (by omega) (by omega) (by omega)) e47 (.cons (ArgOk.encP false p) (.cons (.v _ _ _) .nil)) (by decide) rfl (by simp [encP, AmbNode.cells]) ?_
          simp
          refine RunDK.callA Ty_ok kindOp_ok (l12Around_ok (p.getD i default) (textIn p d i) hkd (by omega) (by omega)) e107 (.cons (ArgOk.node _) (.cons (.v _ _ _) .nil)) (by decide) rfl (by simp [AmbNode.cells, hilt]) ?_
          generalize hnt : nodeText (p.getD i default) (textIn p d i) = t0 at hntl hjs
          simp (disch := first | omega | simp) [if_pos]
          refine hk' _ _ _ ?_
          refine Runs.inBlock ?_
          refine Runs.evalE Ty_ok (by decide) fun k' hk' => ?_
          simp [h7, wrap_succ (show k < 4611686018427387904 by omega)]   -- R4
          refine hk' _ _ _ ?_
          refine IH hc1 _ _ _ ?_
          rw [hjs]
          simp [h2, hH2, h5]
        · simp at hc2
          subst hc2
          simp [Lib.join] at h6
          refine Runs.skip ?_
          refine Runs.evalDE Ty_ok kindOp_ok draws (by decide) (by kernel_rfl) fun k' hk' => ?_
          simp [h2, hH2, h5, h6, h7, hc1, hilt, hgk, AmbNode.cells]   -- R7
          refine RunDK.callA Ty_ok kindOp_ok (l12In_ok hp d i (by omega) (by omega) (by omega) (by omega)) e47 (.cons (ArgOk.encP false p) (.cons (.v _ _ _) .nil)) (by decide) rfl (by simp [encP, AmbNode.cells]) ?_
          simp
          refine RunDK.callA Ty_ok kindOp_ok (l12Around_ok (p.getD i default) (textIn p d i) hkd (by omega) (by omega)) e107 (.cons (ArgOk.node _) (.cons (.v _ _ _) .nil)) (by decide) rfl (by simp [AmbNode.cells, hilt]) ?_
          generalize hnt : nodeText (p.getD i default) (textIn p d i) = t0 at hntl
          simp (disch := first | omega | simp) [if_pos]
          refine hk' _ _ _ ?_
          refine Runs.inBlock ?_
          refine Runs.evalE Ty_ok (by decide) fun k' hk' => ?_
          simp [h7]   -- R4
          refine hk' _ _ _ ?_
          refine IH hc1 _ _ _ ?_
          rw [hsk, List.map_append, List.map_singleton, hnt]
          simp [h2, hH2, h5, Lib.join]
      · simp at hc1
        have hke : k = (kidsFrom p parent p.length).length := by omega
        subst hke
        rw [List.take_length] at h6
        refine Runs.exit rfl ?_
        refine Runs.seq ?_
        refine Runs.seqE Ty_ok (by decide) fun k' hk' => ?_
        simp [h5]   -- R8
        refine hk' _ _ _ ?_
        refine Runs.ite rfl (fun hc3 => ?_) (fun hc3 => ?_)   -- t40
        · simp at hc3
          refine Runs.seqE Ty_ok (by decide) fun k' hk' => ?_
          simp   -- R9
          refine hk' _ _ _ ?_
          exact Runs.ret Tryd.func47 (RetOk.one Tryd.results47) (hQ _ _ _ _ (.v _ _ _) (by simp [textIn, joinTexts, hc3]))
        · simp at hc3
          refine Runs.skip ?_
          refine Runs.seqE Ty_ok (by decide) fun k' hk' => ?_
          simp [h6]   -- R10
          refine hk' _ _ _ ?_
          exact Runs.ret Tryd.func47 (RetOk.one Tryd.results47) (hQ _ _ _ _ (.v _ _ _) (by simp [textIn, joinTexts, hc3]))

theorem specProcessText_ok (p : Proc) (hp : p.length ≤ 1048576) (hn : ∀ i, i < p.length → (p.getD i default).name.length ≤ 1048576) : PureC Tryd.prog 10 [encP false p] (fun r => r = .tup [str (processText p).1, bool (processText p).2]) := by
  refine PureC.of Tryd.func10 rfl Tryd.ntmps10 (by simp) fun Q hQ => ?_
  refine Runs.seqE Ty_ok (by decide) fun k' hk' => ?_
  simp [encP]   -- R0
  refine hk' _ _ _ ?_
  refine Runs.seq ?_
  refine Runs.seqE Ty_ok (by decide) fun k' hk' => ?_
  simp   -- R1
  refine RunK.callA Ty_ok (l12Good_ok p hp hn) e46 (.cons (ArgOk.encP false p) .nil) (by decide) (by decide) rfl (by simp [encP]) ?_
  rintro _ rfl
  cases hg : goodP p
  · simp
    refine hk' _ _ _ ?_
    refine Runs.ite rfl (fun _ => ?_) (fun h => by simp at h)
    refine Runs.seqE Ty_ok (by decide) fun k' hk' => ?_
    simp   -- R2
    refine hk' _ _ _ ?_
    exact Runs.ret Tryd.func10 (RetOk.two Tryd.results10) (hQ _ _ _ _ (.of (Ret.fresh (by simp))) (by simp [processText, hg]))
  · simp
    refine hk' _ _ _ ?_
    refine Runs.ite rfl (fun h => by simp at h) (fun _ => ?_)
    refine Runs.skip ?_
    refine Runs.seqE Ty_ok (by decide) fun k' hk' => ?_
    simp   -- R3
    have hv := goodP_valid hg
    have := hv.len
    refine RunK.callA Ty_ok (l12In_ok hv (p.length + 1) (-1) (by omega) (by omega) (by omega) (by omega)) e47 (.cons (ArgOk.encP false p) (.cons (.v _ _ _) .nil)) (by decide) (by decide) rfl (by simp [encP]) ?_
    rintro _ rfl
    simp
    refine hk' _ _ _ ?_
    exact Runs.ret Tryd.func10 (RetOk.two Tryd.results10) (hQ _ _ _ _ (.of (Ret.fresh (by simp))) (by simp [processText, hg]))
end Go.Ab

/- Contracts of laws.szAmbNode, laws.szAmbNodeS and laws.szProcess. -/
namespace Go.Ab
open Go.Proofs
set_option linter.unusedSimpArgs false
theorem e9 : Ent Tryd.prog 9 := Ent.of Tryd.func9 (by kernel_rfl) rfl
theorem e11 : Ent Tryd.prog 11 := Ent.of Tryd.func11 (by kernel_rfl) rfl
theorem e13 : Ent Tryd.prog 13 := Ent.of Tryd.func13 (by kernel_rfl) rfl
theorem e45 : Ent Tryd.prog 45 := Ent.of Tryd.func45 (by kernel_rfl) rfl
theorem e48 : Ent Tryd.prog 48 := Ent.of Tryd.func48 (by kernel_rfl) rfl
theorem e51 : Ent Tryd.prog 51 := Ent.of Tryd.func51 (by kernel_rfl) rfl
theorem e103 : Ent Tryd.prog 103 := Ent.of Tryd.func103 (by kernel_rfl) rfl
theorem e108 : Ent Tryd.prog 108 := Ent.of Tryd.func108 (by kernel_rfl) rfl
theorem e113 : Ent Tryd.prog 113 := Ent.of Tryd.func113 (by kernel_rfl) rfl

def szStr (s : Str) (left : Int) : Int := if left - s.length < 0 then -1 else left - s.length
def szNodes : Proc → Int → Int
  | [], left => left
  | x :: r, left => if szStr x.name left < 0 then -1 else szNodes r (szStr x.name left)
def szProc (p : Proc) (left : Int) : Int := if left - p.length < 0 then -1 else szNodes p (left - p.length)
def Small (p : Proc) : Prop := p.length ≤ 9223372036854775807 ∧ ∀ x ∈ p, x.name.length ≤ 9223372036854775807

theorem szAmbNode_ok (x : AmbNode) (left : Int) (h0 : 0 ≤ left) (h1 : left ≤ 1048576) (hn : x.name.length ≤ 9223372036854775807) : PureC Tryd.prog 103 [.agg x.cells, int left] (fun r => r = int (szStr x.name left)) := by
  refine PureC.of Tryd.func103 rfl Tryd.ntmps103 (by simp) fun Q hQ => ?_
  refine Runs.seqE Ty_ok (by decide) fun k' hk' => ?_
  simp   -- R0
  refine hk' _ _ _ ?_
  refine Runs.seqE Ty_ok (by decide) fun k' hk' => ?_
  simp [AmbNode.cells, show -9223372036854775808 ≤ left - x.name.length by omega, show left - x.name.length ≤ 9223372036854775807 by omega]   -- R1
  refine hk' _ _ _ ?_
  refine Runs.seq ?_
  refine Runs.seqE Ty_ok (by decide) fun k' hk' => ?_
  simp   -- R2
  refine hk' _ _ _ ?_
  refine Runs.ite rfl (fun hc1 => ?_) (fun hc1 => ?_)   -- t11
  · simp only [decide_eq_true_eq] at hc1
    refine Runs.seqE Ty_ok (by decide) fun k' hk' => ?_
    simp   -- R3
    refine hk' _ _ _ ?_
    refine Runs.ret Tryd.func103 (RetOk.one Tryd.results103) (hQ _ _ _ _ (.v _ _ _) ?_)
    rw [szStr, if_pos hc1]
  · simp only [decide_eq_false_iff_not] at hc1
    refine Runs.skip ?_
    refine Runs.seqE Ty_ok (by decide) fun k' hk' => ?_
    simp   -- R4
    refine hk' _ _ _ ?_
    refine Runs.ret Tryd.func103 (RetOk.one Tryd.results103) (hQ _ _ _ _ (.v _ _ _) ?_)
    rw [szStr, if_neg hc1]

theorem szAmbNodeS_ok (p : Proc) (left : Int) (h0 : 0 ≤ left) (h1 : left ≤ 1048576) (hp : Small p) : PureC Tryd.prog 45 [.list false (p.map AmbNode.cells), int left] (fun r => r = int (szProc p left)) := by
  obtain ⟨hp1, hp2⟩ := hp
  refine PureC.of Tryd.func45 rfl Tryd.ntmps45 (by simp) fun Q hQ => ?_
  refine Runs.seqE Ty_ok (by decide) fun k' hk' => ?_
  simp   -- R0
  refine hk' _ _ _ ?_
  refine Runs.seqE Ty_ok (by decide) fun k' hk' => ?_
  simp [show -9223372036854775808 ≤ left - p.length by omega, show left - p.length ≤ 9223372036854775807 by omega]   -- R1
  refine hk' _ _ _ ?_
  refine Runs.seq ?_
  refine Runs.seqE Ty_ok (by decide) fun k' hk' => ?_
  simp   -- R2
  refine hk' _ _ _ ?_
  refine Runs.ite rfl (fun hc1 => ?_) (fun hc1 => ?_)   -- t11
  · simp only [decide_eq_true_eq] at hc1
    refine Runs.seqE Ty_ok (by decide) fun k' hk' => ?_
    simp   -- R3
    refine hk' _ _ _ ?_
    refine Runs.ret Tryd.func45 (RetOk.one Tryd.results45) (hQ _ _ _ _ (.v _ _ _) ?_)
    rw [szProc, if_pos hc1]
  · simp only [decide_eq_false_iff_not] at hc1
    refine Runs.skip ?_
    refine Runs.seq ?_
    refine Runs.seqE Ty_ok (by decide) fun k' hk' => ?_
    simp   -- R4
    refine hk' _ _ _ ?_
    refine Runs.block (Runs.loopUp p.length (fun k ρ H n => ρ 0 = .list false (p.map AmbNode.cells) ∧ ρ 5 = int k ∧ ∃ cur : Int, ρ 1 = int cur ∧ 0 ≤ cur ∧ cur ≤ left ∧ szNodes (p.drop k) cur = szProc p left) ?_ ?_)
    · simp [szProc, hc1]
      omega
    · rintro k ρ H n hk ⟨h0, h5, cur, h1', hcur, hcl, hsz⟩ IH
      refine Runs.seq ?_
      refine Runs.seqE Ty_ok (by decide) fun k' hk' => ?_
      simp [h0, h5]   -- R5
      refine hk' _ _ _ ?_
      refine Runs.ite rfl (fun hc2 => ?_) (fun hc2 => ?_)   -- t15
      · simp at hc2
        refine Runs.skip ?_
        refine Runs.seq ?_
        refine Runs.block ?_
        refine Runs.seqE Ty_ok (by decide) fun k' hk' => ?_
        simp [h0, h5, h1', hc2, AmbNode.cells]   -- R7
        refine RunK.callA Ty_ok (szAmbNode_ok p[k] cur hcur (by omega) (hp2 _ (List.getElem_mem hc2))) e103 (.cons (ArgOk.node _) (.cons (.v _ _ _) .nil)) (by decide) (by decide) rfl (by simp [AmbNode.cells, h1']) ?_
        rintro _ rfl
        simp
        refine hk' _ _ _ ?_
        rw [List.drop_eq_getElem_cons hc2, szNodes] at hsz
        refine Runs.seqE Ty_ok (by decide) fun k' hk' => ?_
        simp   -- R8
        refine hk' _ _ _ ?_
        refine Runs.ite rfl (fun hc3 => ?_) (fun hc3 => ?_)   -- t25
        · simp only [decide_eq_true_eq] at hc3
          rw [if_pos hc3] at hsz
          refine Runs.seqE Ty_ok (by decide) fun k' hk' => ?_
          simp   -- R9
          refine hk' _ _ _ ?_
          exact Runs.ret Tryd.func45 (RetOk.one Tryd.results45) (hQ _ _ _ _ (.v _ _ _) (by rw [← hsz]))
        · simp only [decide_eq_false_iff_not] at hc3
          rw [if_neg hc3] at hsz
          refine Runs.skip ?_
          refine Runs.inBlock ?_
          refine Runs.evalE Ty_ok (by decide) fun k' hk' => ?_
          simp [h5, wrap_succ (show k < 4611686018427387904 by omega)]   -- R6
          refine hk' _ _ _ ?_
          refine IH hc2 _ _ _ ?_
          have hle : szStr p[k].name cur ≤ left := by
            unfold szStr
            split <;> omega
          exact ⟨by simp [h0], by simp, szStr p[k].name cur, by simp, by omega, hle, hsz⟩
      · simp at hc2
        have hke : k = p.length := by omega
        subst hke
        rw [List.drop_length, szNodes] at hsz
        refine Runs.exit rfl ?_
        refine Runs.seqE Ty_ok (by decide) fun k' hk' => ?_
        simp [h1']   -- R10
        refine hk' _ _ _ ?_
        exact Runs.ret Tryd.func45 (RetOk.one Tryd.results45) (hQ _ _ _ _ (.v _ _ _) (by rw [hsz]))

theorem szProcess_ok (p : Proc) (left : Int) (h0 : 0 ≤ left) (h1 : left ≤ 1048576) (hp : Small p) : PureC Tryd.prog 9 [encP false p, int left] (fun r => r = int (if szProc p left < 0 then -1 else szProc p left)) := by
  refine PureC.of Tryd.func9 rfl Tryd.ntmps9 (by simp) fun Q hQ => ?_
  refine Runs.seqE Ty_ok (by decide) fun k' hk' => ?_
  simp [encP]   -- R0
  refine hk' _ _ _ ?_
  refine Runs.seqE Ty_ok (by decide) fun k' hk' => ?_
  simp   -- R1
  refine RunK.callA Ty_ok (szAmbNodeS_ok p left h0 h1 hp) e45 (.cons (.listF (fr := false) (by simp [AmbNode.cells])) (.cons (.v _ _ _) .nil)) (by decide) (by decide) rfl (by simp) ?_
  rintro _ rfl
  simp
  refine hk' _ _ _ ?_
  refine Runs.seq ?_
  refine Runs.seqE Ty_ok (by decide) fun k' hk' => ?_
  simp   -- R2
  refine hk' _ _ _ ?_
  refine Runs.ite rfl (fun hc1 => ?_) (fun hc1 => ?_)   -- t10
  · simp only [decide_eq_true_eq] at hc1
    refine Runs.seqE Ty_ok (by decide) fun k' hk' => ?_
    simp   -- R3
    refine hk' _ _ _ ?_
    exact Runs.ret Tryd.func9 (RetOk.one Tryd.results9) (hQ _ _ _ _ (.v _ _ _) (by rw [if_pos hc1]))
  · simp only [decide_eq_false_iff_not] at hc1
    refine Runs.skip ?_
    refine Runs.seqE Ty_ok (by decide) fun k' hk' => ?_
    simp   -- R4
    refine hk' _ _ _ ?_
    exact Runs.ret Tryd.func9 (RetOk.one Tryd.results9) (hQ _ _ _ _ (.v _ _ _) (by rw [if_neg hc1]))

theorem szNodes_le : ∀ (p : Proc) (left : Int), 0 ≤ szNodes p left → ∀ x ∈ p, (x.name.length : Int) ≤ left
  | [], _, _, x, hx => by simp at hx
  | y :: r, left, h, x, hx => by
    rw [szNodes] at h
    split at h
    · omega
    · rename_i h2
      have h3 : szStr y.name left = left - y.name.length := by
        unfold szStr at h2 ⊢
        split <;> rename_i h4
        · rw [if_pos h4] at h2; omega
        · rfl
      rcases List.mem_cons.1 hx with rfl | hx
      · rw [h3] at h2; omega
      · have := szNodes_le r _ h x hx
        rw [h3] at this
        omega

theorem szProc_le {p : Proc} {left : Int} (h : 0 ≤ szProc p left) : (p.length : Int) ≤ left ∧ ∀ x ∈ p, (x.name.length : Int) ≤ left := by
  unfold szProc at h
  split at h
  · omega
  · exact ⟨by omega, fun x hx => by have := szNodes_le p _ h x hx; omega⟩
end Go.Ab

/- Contracts of the laws' sz.. functions of bigraphs. By program. -/
namespace Go.Ab
open Go.Proofs
set_option linter.unusedSimpArgs false

def szL {α : Type} (f : α → Int → Int) : List α → Int → Int
  | [], left => left
  | x :: r, left => if f x left < 0 then -1 else szL f r (f x left)
def szS {α : Type} (f : α → Int → Int) (l : List α) (left : Int) : Int := if left - l.length < 0 then -1 else szL f l (left - l.length)
def szI (l : List Int) (left : Int) : Int := if left - l.length < 0 then -1 else left - l.length
def szC (x : Control) (left : Int) : Int := szStr x.name left
def szW (x : Wire) (left : Int) : Int := szStr x.name left
def szN (x : GNode) (left : Int) : Int := szI x.links left
class SzF {α : Type} (f : α → Int → Int) : Prop where
  le : ∀ x left, 0 ≤ left → f x left ≤ left
theorem f_le {α : Type} (f : α → Int → Int) [SzF f] (x : α) (left : Int) (h : 0 ≤ left) : f x left ≤ left := SzF.le x left h
instance : SzF szStr := ⟨fun x left h => by unfold szStr; split <;> omega⟩
instance : SzF szI := ⟨fun x left h => by unfold szI; split <;> omega⟩
instance : SzF szC := ⟨fun x left h => by unfold szC szStr; split <;> omega⟩
instance : SzF szW := ⟨fun x left h => by unfold szW szStr; split <;> omega⟩
instance : SzF szN := ⟨fun x left h => by unfold szN szI; split <;> omega⟩

theorem e85 : Ent Tryd.prog 85 := Ent.of Tryd.func85 (by kernel_rfl) rfl
theorem szControl_ok (x : Control) (left : Int) (h0 : 0 ≤ left) (h1 : left ≤ 1048576) (hn : x.name.length ≤ 9223372036854775807) : PureC Tryd.prog 85 [.agg x.cells, int left] (fun r => r = int (szC x left)) := by
  refine PureC.of Tryd.func85 rfl Tryd.ntmps85 (by simp) fun Q hQ => ?_
  refine Runs.seqE Ty_ok (by decide) fun k' hk' => ?_
  simp [Control.cells]   -- R0
  refine hk' _ _ _ ?_
  refine Runs.seqE Ty_ok (by decide) fun k' hk' => ?_
  simp [show -9223372036854775808 ≤ left - (x.name.length : Int) by omega, show left - (x.name.length : Int) ≤ 9223372036854775807 by omega]
  refine hk' _ _ _ ?_
  refine Runs.seq ?_
  refine Runs.seqE Ty_ok (by decide) fun k' hk' => ?_
  simp   -- R2
  refine hk' _ _ _ ?_
  refine Runs.ite rfl (fun hc1 => ?_) (fun hc1 => ?_)
  · simp only [decide_eq_true_eq] at hc1
    refine Runs.seqE Ty_ok (by decide) fun k' hk' => ?_
    simp   -- R3
    refine hk' _ _ _ ?_
    refine Runs.ret Tryd.func85 (RetOk.one Tryd.results85) (hQ _ _ _ _ (.v _ _ _) ?_)
    rw [szC, szStr, if_pos hc1]
  · simp only [decide_eq_false_iff_not] at hc1
    refine Runs.skip ?_
    refine Runs.seqE Ty_ok (by decide) fun k' hk' => ?_
    simp   -- R4
    refine hk' _ _ _ ?_
    refine Runs.ret Tryd.func85 (RetOk.one Tryd.results85) (hQ _ _ _ _ (.v _ _ _) ?_)
    rw [szC, szStr, if_neg hc1]

theorem e139 : Ent Tryd.prog 139 := Ent.of Tryd.func139 (by kernel_rfl) rfl
theorem szWire_ok (x : Wire) (left : Int) (h0 : 0 ≤ left) (h1 : left ≤ 1048576) (hn : x.name.length ≤ 9223372036854775807) : PureC Tryd.prog 139 [.agg x.cells, int left] (fun r => r = int (szW x left)) := by
  refine PureC.of Tryd.func139 rfl Tryd.ntmps139 (by simp) fun Q hQ => ?_
  refine Runs.seqE Ty_ok (by decide) fun k' hk' => ?_
  simp [Wire.cells]   -- R0
  refine hk' _ _ _ ?_
  refine Runs.seqE Ty_ok (by decide) fun k' hk' => ?_
  simp [show -9223372036854775808 ≤ left - (x.name.length : Int) by omega, show left - (x.name.length : Int) ≤ 9223372036854775807 by omega]
  refine hk' _ _ _ ?_
  refine Runs.seq ?_
  refine Runs.seqE Ty_ok (by decide) fun k' hk' => ?_
  simp   -- R2
  refine hk' _ _ _ ?_
  refine Runs.ite rfl (fun hc1 => ?_) (fun hc1 => ?_)
  · simp only [decide_eq_true_eq] at hc1
    refine Runs.seqE Ty_ok (by decide) fun k' hk' => ?_
    simp   -- R3
    refine hk' _ _ _ ?_
    refine Runs.ret Tryd.func139 (RetOk.one Tryd.results139) (hQ _ _ _ _ (.v _ _ _) ?_)
    rw [szW, szStr, if_pos hc1]
  · simp only [decide_eq_false_iff_not] at hc1
    refine Runs.skip ?_
    refine Runs.seqE Ty_ok (by decide) fun k' hk' => ?_
    simp   -- R4
    refine hk' _ _ _ ?_
    refine Runs.ret Tryd.func139 (RetOk.one Tryd.results139) (hQ _ _ _ _ (.v _ _ _) ?_)
    rw [szW, szStr, if_neg hc1]

theorem e87 : Ent Tryd.prog 87 := Ent.of Tryd.func87 (by kernel_rfl) rfl
theorem szIntS_ok (x : List Int) (left : Int) (h0 : 0 ≤ left) (h1 : left ≤ 1048576) (hn : x.length ≤ 9223372036854775807) : PureC Tryd.prog 87 [encI false x, int left] (fun r => r = int (szI x left)) := by
  refine PureC.of Tryd.func87 rfl Tryd.ntmps87 (by simp) fun Q hQ => ?_
  refine Runs.seqE Ty_ok (by decide) fun k' hk' => ?_
  simp [encI]   -- R0
  refine hk' _ _ _ ?_
  refine Runs.seqE Ty_ok (by decide) fun k' hk' => ?_
  simp [show -9223372036854775808 ≤ left - (x.length : Int) by omega, show left - (x.length : Int) ≤ 9223372036854775807 by omega]
  refine hk' _ _ _ ?_
  refine Runs.seq ?_
  refine Runs.seqE Ty_ok (by decide) fun k' hk' => ?_
  simp   -- R2
  refine hk' _ _ _ ?_
  refine Runs.ite rfl (fun hc1 => ?_) (fun hc1 => ?_)
  · simp only [decide_eq_true_eq] at hc1
    refine Runs.seqE Ty_ok (by decide) fun k' hk' => ?_
    simp   -- R3
    refine hk' _ _ _ ?_
    refine Runs.ret Tryd.func87 (RetOk.one Tryd.results87) (hQ _ _ _ _ (.v _ _ _) ?_)
    rw [szI, if_pos hc1]
  · simp only [decide_eq_false_iff_not] at hc1
    refine Runs.skip ?_
    refine Runs.seqE Ty_ok (by decide) fun k' hk' => ?_
    simp   -- R4
    refine hk' _ _ _ ?_
    refine Runs.ret Tryd.func87 (RetOk.one Tryd.results87) (hQ _ _ _ _ (.v _ _ _) ?_)
    rw [szI, if_neg hc1]

theorem e138 : Ent Tryd.prog 138 := Ent.of Tryd.func138 (by kernel_rfl) rfl
theorem szNode_ok (x : GNode) (left : Int) (h0 : 0 ≤ left) (h1 : left ≤ 1048576) (hn : x.links.length ≤ 9223372036854775807) : PureC Tryd.prog 138 [.agg (x.cells false), int left] (fun r => r = int (szN x left)) := by
  refine PureC.of Tryd.func138 rfl Tryd.ntmps138 (by simp) fun Q hQ => ?_
  refine Runs.seqE Ty_ok (by decide) fun k' hk' => ?_
  simp [GNode.cells]   -- R0
  refine hk' _ _ _ ?_
  refine Runs.seqE Ty_ok (by decide) fun k' hk' => ?_
  simp
  refine RunK.callA Ty_ok (szIntS_ok x.links left h0 h1 hn) e87 (.cons (ArgOk.encI false x.links) (.cons (.v _ _ _) .nil)) (by decide) (by decide) rfl (by simp [encI]) ?_
  rintro _ rfl
  simp
  refine hk' _ _ _ ?_
  refine Runs.seq ?_
  refine Runs.seqE Ty_ok (by decide) fun k' hk' => ?_
  simp   -- R2
  refine hk' _ _ _ ?_
  refine Runs.ite rfl (fun hc1 => ?_) (fun hc1 => ?_)
  · simp only [decide_eq_true_eq] at hc1
    refine Runs.seqE Ty_ok (by decide) fun k' hk' => ?_
    simp   -- R3
    refine hk' _ _ _ ?_
    refine Runs.ret Tryd.func138 (RetOk.one Tryd.results138) (hQ _ _ _ _ (.v _ _ _) ?_)
    simp only [Env.put]
    have : szI x.links left = -1 := by
      unfold szI at hc1 ⊢
      split <;> rename_i h
      · rfl
      · rw [if_neg h] at hc1; omega
    simp [szN, this]
  · simp only [decide_eq_false_iff_not] at hc1
    refine Runs.skip ?_
    refine Runs.seqE Ty_ok (by decide) fun k' hk' => ?_
    simp   -- R4
    refine hk' _ _ _ ?_
    refine Runs.ret Tryd.func138 (RetOk.one Tryd.results138) (hQ _ _ _ _ (.v _ _ _) ?_)
    rfl

theorem e34 : Ent Tryd.prog 34 := Ent.of Tryd.func34 (by kernel_rfl) rfl
theorem szControlS_ok (p : List (Control)) (left : Int) (h0 : 0 ≤ left) (h1 : left ≤ 1048576) (hp1 : p.length ≤ 9223372036854775807) (hp2 : ∀ x ∈ p, x.name.length ≤ 9223372036854775807) : PureC Tryd.prog 34 [.list false (p.map Control.cells), int left] (fun r => r = int (szS szC p left)) := by
  refine PureC.of Tryd.func34 rfl Tryd.ntmps34 (by simp) fun Q hQ => ?_
  refine Runs.seqE Ty_ok (by decide) fun k' hk' => ?_
  simp   -- R0
  refine hk' _ _ _ ?_
  refine Runs.seqE Ty_ok (by decide) fun k' hk' => ?_
  simp [show -9223372036854775808 ≤ left - p.length by omega, show left - p.length ≤ 9223372036854775807 by omega]   -- R1
  refine hk' _ _ _ ?_
  refine Runs.seq ?_
  refine Runs.seqE Ty_ok (by decide) fun k' hk' => ?_
  simp   -- R2
  refine hk' _ _ _ ?_
  refine Runs.ite rfl (fun hc1 => ?_) (fun hc1 => ?_)
  · simp only [decide_eq_true_eq] at hc1
    refine Runs.seqE Ty_ok (by decide) fun k' hk' => ?_
    simp   -- R3
    refine hk' _ _ _ ?_
    refine Runs.ret Tryd.func34 (RetOk.one Tryd.results34) (hQ _ _ _ _ (.v _ _ _) ?_)
    rw [szS, if_pos hc1]
  · simp only [decide_eq_false_iff_not] at hc1
    refine Runs.skip ?_
    refine Runs.seq ?_
    refine Runs.seqE Ty_ok (by decide) fun k' hk' => ?_
    simp   -- R4
    refine hk' _ _ _ ?_
    refine Runs.block (Runs.loopUp p.length (fun k ρ H n => ρ 0 = .list false (p.map Control.cells) ∧ ρ 5 = int k ∧ ∃ cur : Int, ρ 1 = int cur ∧ 0 ≤ cur ∧ cur ≤ left ∧ szL szC (p.drop k) cur = szS szC p left) ?_ ?_)
    · refine ⟨by simp, by simp, left - p.length, by simp, by omega, by omega, ?_⟩
      rw [szS, if_neg hc1, List.drop_zero]
    · rintro k ρ H n hk ⟨h0, h5, cur, h1', hcur, hcl, hsz⟩ IH
      refine Runs.seq ?_
      refine Runs.seqE Ty_ok (by decide) fun k' hk' => ?_
      simp [h0, h5]   -- R5
      refine hk' _ _ _ ?_
      refine Runs.ite rfl (fun hc2 => ?_) (fun hc2 => ?_)
      · simp at hc2
        have hel := hp2 _ (List.getElem_mem hc2)
        refine Runs.skip ?_
        refine Runs.seq ?_
        refine Runs.block ?_
        refine Runs.seqE Ty_ok (by decide) fun k' hk' => ?_
        simp [h0, h5, h1', hc2, Control.cells]   -- R7
        refine RunK.callA Ty_ok (szControl_ok p[k] cur hcur (by omega) hel) e85 (.cons (ArgOk.ctlB _) (.cons (.v _ _ _) .nil)) (by decide) (by decide) rfl (by simp [Control.cells, h1']) ?_
        rintro _ rfl
        simp
        refine hk' _ _ _ ?_
        rw [List.drop_eq_getElem_cons hc2, szL] at hsz
        refine Runs.seqE Ty_ok (by decide) fun k' hk' => ?_
        simp   -- R8
        refine hk' _ _ _ ?_
        refine Runs.ite rfl (fun hc3 => ?_) (fun hc3 => ?_)
        · simp only [decide_eq_true_eq] at hc3
          refine Runs.seqE Ty_ok (by decide) fun k' hk' => ?_
          simp   -- R9
          refine hk' _ _ _ ?_
          refine Runs.ret Tryd.func34 (RetOk.one Tryd.results34) (hQ _ _ _ _ (.v _ _ _) ?_)
          rw [← hsz]
          rw [if_pos hc3]
        · simp only [decide_eq_false_iff_not] at hc3
          refine Runs.skip ?_
          refine Runs.inBlock ?_
          refine Runs.evalE Ty_ok (by decide) fun k' hk' => ?_
          simp [h5, wrap_succ (show k < 4611686018427387904 by omega)]   -- R6
          refine hk' _ _ _ ?_
          refine IH hc2 _ _ _ ?_
          have hle := f_le szC p[k] cur hcur
          rw [if_neg hc3] at hsz
          exact ⟨by simp [h0, Control.cells], by simp, szC p[k] cur, by simp, by omega, by omega, hsz⟩
      · simp at hc2
        have hke : k = p.length := by omega
        subst hke
        rw [List.drop_length, szL] at hsz
        refine Runs.exit rfl ?_
        refine Runs.seqE Ty_ok (by decide) fun k' hk' => ?_
        simp [h1']   -- R10
        refine hk' _ _ _ ?_
        exact Runs.ret Tryd.func34 (RetOk.one Tryd.results34) (hQ _ _ _ _ (.v _ _ _) (by rw [hsz]))

theorem e89 : Ent Tryd.prog 89 := Ent.of Tryd.func89 (by kernel_rfl) rfl
theorem szWireS_ok (p : List (Wire)) (left : Int) (h0 : 0 ≤ left) (h1 : left ≤ 1048576) (hp1 : p.length ≤ 9223372036854775807) (hp2 : ∀ x ∈ p, x.name.length ≤ 9223372036854775807) : PureC Tryd.prog 89 [.list false (p.map Wire.cells), int left] (fun r => r = int (szS szW p left)) := by
  refine PureC.of Tryd.func89 rfl Tryd.ntmps89 (by simp) fun Q hQ => ?_
  refine Runs.seqE Ty_ok (by decide) fun k' hk' => ?_
  simp   -- R0
  refine hk' _ _ _ ?_
  refine Runs.seqE Ty_ok (by decide) fun k' hk' => ?_
  simp [show -9223372036854775808 ≤ left - p.length by omega, show left - p.length ≤ 9223372036854775807 by omega]   -- R1
  refine hk' _ _ _ ?_
  refine Runs.seq ?_
  refine Runs.seqE Ty_ok (by decide) fun k' hk' => ?_
  simp   -- R2
  refine hk' _ _ _ ?_
  refine Runs.ite rfl (fun hc1 => ?_) (fun hc1 => ?_)
  · simp only [decide_eq_true_eq] at hc1
    refine Runs.seqE Ty_ok (by decide) fun k' hk' => ?_
    simp   -- R3
    refine hk' _ _ _ ?_
    refine Runs.ret Tryd.func89 (RetOk.one Tryd.results89) (hQ _ _ _ _ (.v _ _ _) ?_)
    rw [szS, if_pos hc1]
  · simp only [decide_eq_false_iff_not] at hc1
    refine Runs.skip ?_
    refine Runs.seq ?_
    refine Runs.seqE Ty_ok (by decide) fun k' hk' => ?_
    simp   -- R4
    refine hk' _ _ _ ?_
    refine Runs.block (Runs.loopUp p.length (fun k ρ H n => ρ 0 = .list false (p.map Wire.cells) ∧ ρ 5 = int k ∧ ∃ cur : Int, ρ 1 = int cur ∧ 0 ≤ cur ∧ cur ≤ left ∧ szL szW (p.drop k) cur = szS szW p left) ?_ ?_)
    · refine ⟨by simp, by simp, left - p.length, by simp, by omega, by omega, ?_⟩
      rw [szS, if_neg hc1, List.drop_zero]
    · rintro k ρ H n hk ⟨h0, h5, cur, h1', hcur, hcl, hsz⟩ IH
      refine Runs.seq ?_
      refine Runs.seqE Ty_ok (by decide) fun k' hk' => ?_
      simp [h0, h5]   -- R5
      refine hk' _ _ _ ?_
      refine Runs.ite rfl (fun hc2 => ?_) (fun hc2 => ?_)
      · simp at hc2
        have hel := hp2 _ (List.getElem_mem hc2)
        refine Runs.skip ?_
        refine Runs.seq ?_
        refine Runs.block ?_
        refine Runs.seqE Ty_ok (by decide) fun k' hk' => ?_
        simp [h0, h5, h1', hc2, Wire.cells]   -- R7
        refine RunK.callA Ty_ok (szWire_ok p[k] cur hcur (by omega) hel) e139 (.cons (ArgOk.wireB _) (.cons (.v _ _ _) .nil)) (by decide) (by decide) rfl (by simp [Wire.cells, h1']) ?_
        rintro _ rfl
        simp
        refine hk' _ _ _ ?_
        rw [List.drop_eq_getElem_cons hc2, szL] at hsz
        refine Runs.seqE Ty_ok (by decide) fun k' hk' => ?_
        simp   -- R8
        refine hk' _ _ _ ?_
        refine Runs.ite rfl (fun hc3 => ?_) (fun hc3 => ?_)
        · simp only [decide_eq_true_eq] at hc3
          refine Runs.seqE Ty_ok (by decide) fun k' hk' => ?_
          simp   -- R9
          refine hk' _ _ _ ?_
          refine Runs.ret Tryd.func89 (RetOk.one Tryd.results89) (hQ _ _ _ _ (.v _ _ _) ?_)
          rw [← hsz]
          rw [if_pos hc3]
        · simp only [decide_eq_false_iff_not] at hc3
          refine Runs.skip ?_
          refine Runs.inBlock ?_
          refine Runs.evalE Ty_ok (by decide) fun k' hk' => ?_
          simp [h5, wrap_succ (show k < 4611686018427387904 by omega)]   -- R6
          refine hk' _ _ _ ?_
          refine IH hc2 _ _ _ ?_
          have hle := f_le szW p[k] cur hcur
          rw [if_neg hc3] at hsz
          exact ⟨by simp [h0, Wire.cells], by simp, szW p[k] cur, by simp, by omega, by omega, hsz⟩
      · simp at hc2
        have hke : k = p.length := by omega
        subst hke
        rw [List.drop_length, szL] at hsz
        refine Runs.exit rfl ?_
        refine Runs.seqE Ty_ok (by decide) fun k' hk' => ?_
        simp [h1']   -- R10
        refine hk' _ _ _ ?_
        exact Runs.ret Tryd.func89 (RetOk.one Tryd.results89) (hQ _ _ _ _ (.v _ _ _) (by rw [hsz]))

theorem e86 : Ent Tryd.prog 86 := Ent.of Tryd.func86 (by kernel_rfl) rfl
theorem szNodeS_ok (p : List (GNode)) (left : Int) (h0 : 0 ≤ left) (h1 : left ≤ 1048576) (hp1 : p.length ≤ 9223372036854775807) (hp2 : ∀ x ∈ p, x.links.length ≤ 9223372036854775807) : PureC Tryd.prog 86 [.list false (p.map (GNode.cells false)), int left] (fun r => r = int (szS szN p left)) := by
  refine PureC.of Tryd.func86 rfl Tryd.ntmps86 (by simp) fun Q hQ => ?_
  refine Runs.seqE Ty_ok (by decide) fun k' hk' => ?_
  simp   -- R0
  refine hk' _ _ _ ?_
  refine Runs.seqE Ty_ok (by decide) fun k' hk' => ?_
  simp [show -9223372036854775808 ≤ left - p.length by omega, show left - p.length ≤ 9223372036854775807 by omega]   -- R1
  refine hk' _ _ _ ?_
  refine Runs.seq ?_
  refine Runs.seqE Ty_ok (by decide) fun k' hk' => ?_
  simp   -- R2
  refine hk' _ _ _ ?_
  refine Runs.ite rfl (fun hc1 => ?_) (fun hc1 => ?_)
  · simp only [decide_eq_true_eq] at hc1
    refine Runs.seqE Ty_ok (by decide) fun k' hk' => ?_
    simp   -- R3
    refine hk' _ _ _ ?_
    refine Runs.ret Tryd.func86 (RetOk.one Tryd.results86) (hQ _ _ _ _ (.v _ _ _) ?_)
    rw [szS, if_pos hc1]
  · simp only [decide_eq_false_iff_not] at hc1
    refine Runs.skip ?_
    refine Runs.seq ?_
    refine Runs.seqE Ty_ok (by decide) fun k' hk' => ?_
    simp   -- R4
    refine hk' _ _ _ ?_
    refine Runs.block (Runs.loopUp p.length (fun k ρ H n => ρ 0 = .list false (p.map (GNode.cells false)) ∧ ρ 5 = int k ∧ ∃ cur : Int, ρ 1 = int cur ∧ 0 ≤ cur ∧ cur ≤ left ∧ szL szN (p.drop k) cur = szS szN p left) ?_ ?_)
    · refine ⟨by simp, by simp, left - p.length, by simp, by omega, by omega, ?_⟩
      rw [szS, if_neg hc1, List.drop_zero]
    · rintro k ρ H n hk ⟨h0, h5, cur, h1', hcur, hcl, hsz⟩ IH
      refine Runs.seq ?_
      refine Runs.seqE Ty_ok (by decide) fun k' hk' => ?_
      simp [h0, h5]   -- R5
      refine hk' _ _ _ ?_
      refine Runs.ite rfl (fun hc2 => ?_) (fun hc2 => ?_)
      · simp at hc2
        have hel := hp2 _ (List.getElem_mem hc2)
        refine Runs.skip ?_
        refine Runs.seq ?_
        refine Runs.block ?_
        refine Runs.seqE Ty_ok (by decide) fun k' hk' => ?_
        simp [h0, h5, h1', hc2, GNode.cells]   -- R7
        refine RunK.callA Ty_ok (szNode_ok p[k] cur hcur (by omega) hel) e138 (.cons (ArgOk.nodeB false _) (.cons (.v _ _ _) .nil)) (by decide) (by decide) rfl (by simp [GNode.cells, h1']) ?_
        rintro _ rfl
        simp
        refine hk' _ _ _ ?_
        rw [List.drop_eq_getElem_cons hc2, szL] at hsz
        refine Runs.seqE Ty_ok (by decide) fun k' hk' => ?_
        simp   -- R8
        refine hk' _ _ _ ?_
        refine Runs.ite rfl (fun hc3 => ?_) (fun hc3 => ?_)
        · simp only [decide_eq_true_eq] at hc3
          refine Runs.seqE Ty_ok (by decide) fun k' hk' => ?_
          simp   -- R9
          refine hk' _ _ _ ?_
          refine Runs.ret Tryd.func86 (RetOk.one Tryd.results86) (hQ _ _ _ _ (.v _ _ _) ?_)
          rw [← hsz]
          rw [if_pos hc3]
        · simp only [decide_eq_false_iff_not] at hc3
          refine Runs.skip ?_
          refine Runs.inBlock ?_
          refine Runs.evalE Ty_ok (by decide) fun k' hk' => ?_
          simp [h5, wrap_succ (show k < 4611686018427387904 by omega)]   -- R6
          refine hk' _ _ _ ?_
          refine IH hc2 _ _ _ ?_
          have hle := f_le szN p[k] cur hcur
          rw [if_neg hc3] at hsz
          exact ⟨by simp [h0, GNode.cells], by simp, szN p[k] cur, by simp, by omega, by omega, hsz⟩
      · simp at hc2
        have hke : k = p.length := by omega
        subst hke
        rw [List.drop_length, szL] at hsz
        refine Runs.exit rfl ?_
        refine Runs.seqE Ty_ok (by decide) fun k' hk' => ?_
        simp [h1']   -- R10
        refine hk' _ _ _ ?_
        exact Runs.ret Tryd.func86 (RetOk.one Tryd.results86) (hQ _ _ _ _ (.v _ _ _) (by rw [hsz]))

theorem e88 : Ent Tryd.prog 88 := Ent.of Tryd.func88 (by kernel_rfl) rfl
theorem szStringS_ok (p : List (Str)) (left : Int) (h0 : 0 ≤ left) (h1 : left ≤ 1048576) (hp1 : p.length ≤ 9223372036854775807) (hp2 : ∀ x ∈ p, x.length ≤ 9223372036854775807) : PureC Tryd.prog 88 [.list false (p.map strC), int left] (fun r => r = int (szS szStr p left)) := by
  refine PureC.of Tryd.func88 rfl Tryd.ntmps88 (by simp) fun Q hQ => ?_
  refine Runs.seqE Ty_ok (by decide) fun k' hk' => ?_
  simp   -- R0
  refine hk' _ _ _ ?_
  refine Runs.seqE Ty_ok (by decide) fun k' hk' => ?_
  simp [show -9223372036854775808 ≤ left - p.length by omega, show left - p.length ≤ 9223372036854775807 by omega]   -- R1
  refine hk' _ _ _ ?_
  refine Runs.seq ?_
  refine Runs.seqE Ty_ok (by decide) fun k' hk' => ?_
  simp   -- R2
  refine hk' _ _ _ ?_
  refine Runs.ite rfl (fun hc1 => ?_) (fun hc1 => ?_)
  · simp only [decide_eq_true_eq] at hc1
    refine Runs.seqE Ty_ok (by decide) fun k' hk' => ?_
    simp   -- R3
    refine hk' _ _ _ ?_
    refine Runs.ret Tryd.func88 (RetOk.one Tryd.results88) (hQ _ _ _ _ (.v _ _ _) ?_)
    rw [szS, if_pos hc1]
  · simp only [decide_eq_false_iff_not] at hc1
    refine Runs.skip ?_
    refine Runs.seq ?_
    refine Runs.seqE Ty_ok (by decide) fun k' hk' => ?_
    simp   -- R4
    refine hk' _ _ _ ?_
    refine Runs.block (Runs.loopUp p.length (fun k ρ H n => ρ 0 = .list false (p.map strC) ∧ ρ 5 = int k ∧ ∃ cur : Int, ρ 1 = int cur ∧ 0 ≤ cur ∧ cur ≤ left ∧ szL szStr (p.drop k) cur = szS szStr p left) ?_ ?_)
    · refine ⟨by simp, by simp, left - p.length, by simp, by omega, by omega, ?_⟩
      rw [szS, if_neg hc1, List.drop_zero]
    · rintro k ρ H n hk ⟨h0, h5, cur, h1', hcur, hcl, hsz⟩ IH
      refine Runs.seq ?_
      refine Runs.seqE Ty_ok (by decide) fun k' hk' => ?_
      simp [h0, h5]   -- R5
      refine hk' _ _ _ ?_
      refine Runs.ite rfl (fun hc2 => ?_) (fun hc2 => ?_)
      · simp at hc2
        have hel := hp2 _ (List.getElem_mem hc2)
        refine Runs.skip ?_
        refine Runs.seq ?_
        refine Runs.block ?_
        refine Runs.seqE Ty_ok (by decide) fun k' hk' => ?_
        simp [h0, h5, h1', hc2, strC, show -9223372036854775808 ≤ cur - (p[k].length : Int) by omega, show cur - (p[k].length : Int) ≤ 9223372036854775807 by omega]   -- R7
        refine hk' _ _ _ ?_
        rw [List.drop_eq_getElem_cons hc2, szL] at hsz
        refine Runs.seqE Ty_ok (by decide) fun k' hk' => ?_
        simp   -- R8
        refine hk' _ _ _ ?_
        refine Runs.ite rfl (fun hc3 => ?_) (fun hc3 => ?_)
        · simp only [decide_eq_true_eq] at hc3
          refine Runs.seqE Ty_ok (by decide) fun k' hk' => ?_
          simp   -- R9
          refine hk' _ _ _ ?_
          refine Runs.ret Tryd.func88 (RetOk.one Tryd.results88) (hQ _ _ _ _ (.v _ _ _) ?_)
          rw [← hsz]
          rw [if_pos (by unfold szStr; rw [if_pos hc3]; omega)]
        · simp only [decide_eq_false_iff_not] at hc3
          refine Runs.skip ?_
          refine Runs.inBlock ?_
          refine Runs.evalE Ty_ok (by decide) fun k' hk' => ?_
          simp [h5, wrap_succ (show k < 4611686018427387904 by omega)]   -- R6
          refine hk' _ _ _ ?_
          refine IH hc2 _ _ _ ?_
          have hse : szStr p[k] cur = cur - p[k].length := by unfold szStr; rw [if_neg hc3]
          rw [if_neg (by rw [hse]; exact hc3), hse] at hsz
          exact ⟨by simp [h0, strC], by simp, cur - p[k].length, by simp, by omega, by omega, hsz⟩
      · simp at hc2
        have hke : k = p.length := by omega
        subst hke
        rw [List.drop_length, szL] at hsz
        refine Runs.exit rfl ?_
        refine Runs.seqE Ty_ok (by decide) fun k' hk' => ?_
        simp [h1']   -- R10
        refine hk' _ _ _ ?_
        exact Runs.ret Tryd.func88 (RetOk.one Tryd.results88) (hQ _ _ _ _ (.v _ _ _) (by rw [hsz]))

end Go.Ab

/- Contract of laws.szBigraph; what the sizes bound. -/
namespace Go.Ab
open Go.Proofs
set_option linter.unusedSimpArgs false
theorem e35 : Ent Tryd.prog 35 := Ent.of Tryd.func35 (by kernel_rfl) rfl

def szB (b : Big) (left : Int) : Int :=
  if szS szN b.nodes left < 0 then -1 else if szI b.sites (szS szN b.nodes left) < 0 then -1 else
  if szS szStr b.outer (szI b.sites (szS szN b.nodes left)) < 0 then -1 else
  if szS szW b.inner (szS szStr b.outer (szI b.sites (szS szN b.nodes left))) < 0 then -1 else szS szW b.inner (szS szStr b.outer (szI b.sites (szS szN b.nodes left)))

/-- What a reader tells of a bigraph. -/
structure HugeB (b : Big) : Prop where
  nodes : b.nodes.length ≤ 9223372036854775807
  links : ∀ x ∈ b.nodes, x.links.length ≤ 9223372036854775807
  sites : b.sites.length ≤ 9223372036854775807
  outer : b.outer.length ≤ 9223372036854775807
  names : ∀ x ∈ b.outer, x.length ≤ 9223372036854775807
  inner : b.inner.length ≤ 9223372036854775807
  wnames : ∀ x ∈ b.inner, x.name.length ≤ 9223372036854775807
  parents : ∀ x ∈ b.nodes, I64 x.parent
  sites64 : ∀ p ∈ b.sites, I64 p

theorem szL_le {α : Type} (f : α → Int → Int) [SzF f] : ∀ (l : List α) (left : Int), 0 ≤ left → szL f l left ≤ left
  | [], _, _ => Int.le_refl _
  | x :: r, left, h => by
    rw [szL]
    have := f_le f x left h
    split
    · omega
    · have := szL_le f r (f x left) (by omega)
      omega
theorem szS_le {α : Type} (f : α → Int → Int) [SzF f] (l : List α) (left : Int) (h : 0 ≤ left) : szS f l left ≤ left := by
  unfold szS
  split
  · omega
  · have := szL_le f l (left - l.length) (by omega)
    omega
theorem szL_mem {α : Type} (f : α → Int → Int) [SzF f] : ∀ (l : List α) (left : Int), 0 ≤ left → 0 ≤ szL f l left → ∀ x ∈ l, ∃ c, 0 ≤ c ∧ c ≤ left ∧ 0 ≤ f x c
  | [], _, _, _, x, hx => by cases hx
  | y :: r, left, h, h2, x, hx => by
    rw [szL] at h2
    have hle := f_le f y left h
    split at h2
    · omega
    · rcases List.mem_cons.1 hx with rfl | hx
      · exact ⟨left, h, Int.le_refl _, by omega⟩
      · obtain ⟨c, h3, h4, h5⟩ := szL_mem f r (f y left) (by omega) h2 x hx
        exact ⟨c, h3, by omega, h5⟩
theorem szS_mem {α : Type} (f : α → Int → Int) [SzF f] (l : List α) (left : Int) (h : 0 ≤ left) (h2 : 0 ≤ szS f l left) : (l.length : Int) ≤ left ∧ ∀ x ∈ l, ∃ c, 0 ≤ c ∧ c ≤ left ∧ 0 ≤ f x c := by
  unfold szS at h2
  split at h2
  · omega
  · refine ⟨by omega, fun x hx => ?_⟩
    obtain ⟨c, h3, h4, h5⟩ := szL_mem f l _ (by omega) h2 x hx
    exact ⟨c, h3, by omega, h5⟩
theorem szStr_len {s : Str} {c : Int} (h : 0 ≤ szStr s c) : (s.length : Int) ≤ c := by
  unfold szStr at h
  split at h <;> omega
theorem szI_len {s : List Int} {c : Int} (h : 0 ≤ szI s c) : (s.length : Int) ≤ c := by
  unfold szI at h
  split at h <;> omega

theorem szBigraph_ok (b : Big) (left : Int) (h0 : 0 ≤ left) (h1 : left ≤ 1048576) (hb : HugeB b) : PureC Tryd.prog 35 [encB false b, int left] (fun r => r = int (szB b left)) := by
  have le1 := szS_le szN b.nodes left h0
  refine PureC.of Tryd.func35 rfl Tryd.ntmps35 (by simp) fun Q hQ => ?_
  refine Runs.seqE Ty_ok (by decide) fun k' hk' => ?_
  simp [encB, Big.cells, encN, encI, encS, encW]   -- R0
  refine hk' _ _ _ ?_
  refine Runs.seqE Ty_ok (by decide) fun k' hk' => ?_
  simp
  refine RunK.callA Ty_ok (szNodeS_ok b.nodes left h0 h1 hb.nodes hb.links) e86 (.cons (ArgOk.encN false b.nodes) (.cons (.v _ _ _) .nil)) (by decide) (by decide) rfl (by simp [encN, encI, encS, encW]) ?_
  rintro _ rfl
  simp
  refine hk' _ _ _ ?_
  refine Runs.seq ?_
  refine Runs.seqE Ty_ok (by decide) fun k' hk' => ?_
  simp
  refine hk' _ _ _ ?_
  refine Runs.ite rfl (fun hc => ?_) (fun hd0 => ?_)
  · simp only [decide_eq_true_eq] at hc
    refine Runs.seqE Ty_ok (by decide) fun k' hk' => ?_
    simp
    refine hk' _ _ _ ?_
    exact Runs.ret Tryd.func35 (RetOk.one Tryd.results35) (hQ _ _ _ _ (.v _ _ _) (by rw [szB, if_pos hc]))
  simp only [decide_eq_false_iff_not] at hd0
  have le2 := f_le szI b.sites (szS szN b.nodes left) (by omega)
  refine Runs.skip ?_
  refine Runs.seqE Ty_ok (by decide) fun k' hk' => ?_
  simp
  refine RunK.callA Ty_ok (szIntS_ok b.sites (szS szN b.nodes left) (by omega) (by omega) hb.sites) e87 (.cons (ArgOk.encI false b.sites) (.cons (.v _ _ _) .nil)) (by decide) (by decide) rfl (by simp [encN, encI, encS, encW]) ?_
  rintro _ rfl
  simp
  refine hk' _ _ _ ?_
  refine Runs.seq ?_
  refine Runs.seqE Ty_ok (by decide) fun k' hk' => ?_
  simp
  refine hk' _ _ _ ?_
  refine Runs.ite rfl (fun hc => ?_) (fun hd1 => ?_)
  · simp only [decide_eq_true_eq] at hc
    refine Runs.seqE Ty_ok (by decide) fun k' hk' => ?_
    simp
    refine hk' _ _ _ ?_
    exact Runs.ret Tryd.func35 (RetOk.one Tryd.results35) (hQ _ _ _ _ (.v _ _ _) (by rw [szB, if_neg hd0, if_pos hc]))
  simp only [decide_eq_false_iff_not] at hd1
  have le3 := szS_le szStr b.outer (szI b.sites (szS szN b.nodes left)) (by omega)
  refine Runs.skip ?_
  refine Runs.seqE Ty_ok (by decide) fun k' hk' => ?_
  simp
  refine RunK.callA Ty_ok (szStringS_ok b.outer (szI b.sites (szS szN b.nodes left)) (by omega) (by omega) hb.outer hb.names) e88 (.cons (ArgOk.encS false b.outer) (.cons (.v _ _ _) .nil)) (by decide) (by decide) rfl (by simp [encN, encI, encS, encW]) ?_
  rintro _ rfl
  simp
  refine hk' _ _ _ ?_
  refine Runs.seq ?_
  refine Runs.seqE Ty_ok (by decide) fun k' hk' => ?_
  simp
  refine hk' _ _ _ ?_
  refine Runs.ite rfl (fun hc => ?_) (fun hd2 => ?_)
  · simp only [decide_eq_true_eq] at hc
    refine Runs.seqE Ty_ok (by decide) fun k' hk' => ?_
    simp
    refine hk' _ _ _ ?_
    exact Runs.ret Tryd.func35 (RetOk.one Tryd.results35) (hQ _ _ _ _ (.v _ _ _) (by rw [szB, if_neg hd0, if_neg hd1, if_pos hc]))
  simp only [decide_eq_false_iff_not] at hd2
  refine Runs.skip ?_
  refine Runs.seqE Ty_ok (by decide) fun k' hk' => ?_
  simp
  refine RunK.callA Ty_ok (szWireS_ok b.inner (szS szStr b.outer (szI b.sites (szS szN b.nodes left))) (by omega) (by omega) hb.inner hb.wnames) e89 (.cons (ArgOk.encW false b.inner) (.cons (.v _ _ _) .nil)) (by decide) (by decide) rfl (by simp [encN, encI, encS, encW]) ?_
  rintro _ rfl
  simp
  refine hk' _ _ _ ?_
  refine Runs.seq ?_
  refine Runs.seqE Ty_ok (by decide) fun k' hk' => ?_
  simp
  refine hk' _ _ _ ?_
  refine Runs.ite rfl (fun hc => ?_) (fun hd3 => ?_)
  · simp only [decide_eq_true_eq] at hc
    refine Runs.seqE Ty_ok (by decide) fun k' hk' => ?_
    simp
    refine hk' _ _ _ ?_
    exact Runs.ret Tryd.func35 (RetOk.one Tryd.results35) (hQ _ _ _ _ (.v _ _ _) (by rw [szB, if_neg hd0, if_neg hd1, if_neg hd2, if_pos hc]))
  simp only [decide_eq_false_iff_not] at hd3
  refine Runs.skip ?_
  refine Runs.seqE Ty_ok (by decide) fun k' hk' => ?_
  simp
  refine hk' _ _ _ ?_
  exact Runs.ret Tryd.func35 (RetOk.one Tryd.results35) (hQ _ _ _ _ (.v _ _ _) (by rw [szB, if_neg hd0, if_neg hd1, if_neg hd2, if_neg hd3]))

theorem smallB {sig : Sig} {b : Big} {left : Int} (h0 : 0 ≤ left) (h1 : left ≤ 1048576) (hs : 0 ≤ szS szC sig left) (hb : 0 ≤ szB b (szS szC sig left)) (hh : HugeB b) : SmallB sig b := by
  have hle := szS_le szC sig left h0
  obtain ⟨a1, a2⟩ := szS_mem szC sig left h0 hs
  generalize szS szC sig left = l0 at *
  unfold szB at hb
  split at hb
  · omega
  split at hb
  · omega
  split at hb
  · omega
  split at hb
  · omega
  rename_i n1 n2 n3 n4
  have le1 := szS_le szN b.nodes l0 hs
  obtain ⟨b1, b2⟩ := szS_mem szN b.nodes l0 hs (by omega)
  generalize szS szN b.nodes l0 = l1 at *
  have le2 := f_le szI b.sites l1 (by omega)
  have c1 := szI_len (s := b.sites) (c := l1) (by omega)
  generalize szI b.sites l1 = l2 at *
  have le3 := szS_le szStr b.outer l2 (by omega)
  obtain ⟨d1, d2⟩ := szS_mem szStr b.outer l2 (by omega) (by omega)
  generalize szS szStr b.outer l2 = l3 at *
  obtain ⟨f1, f2⟩ := szS_mem szW b.inner l3 (by omega) (by omega)
  refine ⟨by omega, fun c hc => ?_, by omega, by omega, by omega, by omega, fun s hs => ?_, fun w hw => ?_, fun x hx => ?_, hh.parents, hh.sites64⟩
  · obtain ⟨q, _, q2, q3⟩ := a2 c hc
    have := szStr_len q3
    omega
  · obtain ⟨q, _, q2, q3⟩ := d2 s hs
    have := szStr_len q3
    omega
  · obtain ⟨q, _, q2, q3⟩ := f2 w hw
    have := szStr_len q3
    omega
  · obtain ⟨q, _, q2, q3⟩ := b2 x hx
    have := szI_len q3
    omega
end Go.Ab

/- The contract of laws.FnExactCommonPlace: it answers true. -/
namespace Go.Ab
open Go.Proofs
set_option linter.unusedSimpArgs false

structure HugeS (sig : Sig) : Prop where
  len : sig.length ≤ 9223372036854775807
  names : ∀ c ∈ sig, c.name.length ≤ 9223372036854775807

theorem exactCommonPlace_ok (sig : Sig) (b : Big) (x y : Int) (hs : HugeS sig) (hh : HugeB b) : PureC Tryd.prog 7 [encSig false sig, encB false b, int x, int y] (fun r => r = bool true) := by
  refine PureC.of Tryd.func7 rfl Tryd.ntmps7 (by simp) fun Q hQ => ?_
  have yes : ∀ H n, Q (bool true) H n := fun H n => hQ _ _ _ _ (.v _ _ _) rfl
  refine Runs.seqE Ty_ok (by decide) fun k' hk' => ?_
  simp [encSig, encB, Big.cells]   -- R0
  refine hk' _ _ _ ?_
  refine Runs.seqE Ty_ok (by decide) fun k' hk' => ?_
  simp   -- R1
  refine hk' _ _ _ ?_
  refine Runs.cut (fun ρ H n => ρ 0 = encSig false sig ∧ ρ 2 = int x ∧ ρ 3 = int y ∧ ρ 5 = .ptr (0, 5) 1 0 0 ∧ ρ 9 = int 1048576 ∧ H (0, 5) = some ⟨6, [b.cells false]⟩ ∧ n = 1) ⟨by simp [encSig], by simp, by simp, by simp, by simp, by simp [Big.cells], rfl⟩ ?_
  clear hk'
  rintro ρ H n ⟨h0, h2, h3, h5, h9, hm, rfl⟩
  have hm' := hm
  simp only [Big.cells] at hm'
  refine Runs.seqE Ty_ok (by decide) fun k' hk' => ?_
  simp [h0, h9]   -- R2
  refine RunK.callA Ty_ok (szControlS_ok sig 1048576 (by omega) (by omega) hs.len hs.names) e34 (.cons (ArgOk.encSig false sig) (.cons (.v _ _ _) .nil)) (by decide) (by decide) rfl (by simp [h0]) ?_
  rintro _ rfl
  simp
  refine hk' _ _ _ ?_
  refine Runs.seq ?_
  refine Runs.seqE Ty_ok (by decide) fun k' hk' => ?_
  simp   -- R3
  refine hk' _ _ _ ?_
  refine Runs.ite rfl (fun hc1 => ?_) (fun hc1 => ?_)   -- t20
  · refine Runs.seqE Ty_ok (by decide) fun k' hk' => ?_
    simp   -- R4
    refine hk' _ _ _ ?_
    exact Runs.ret Tryd.func7 (RetOk.one Tryd.results7) (yes _ _)
  simp only [decide_eq_false_iff_not] at hc1
  have hz := szS_le szC sig 1048576 (by omega)
  refine Runs.skip ?_
  refine Runs.seqE Ty_ok (by decide) fun k' hk' => ?_
  simp [h5, hm']   -- R5
  refine RunK.callA Ty_ok (szBigraph_ok b (szS szC sig 1048576) (by omega) (by omega) hh) e35 (.cons (ArgOk.encB false b) (.cons (.v _ _ _) .nil)) (by decide) (by decide) rfl (by simp [encB, Big.cells]) ?_
  rintro _ rfl
  simp
  refine hk' _ _ _ ?_
  refine Runs.seq ?_
  refine Runs.seqE Ty_ok (by decide) fun k' hk' => ?_
  simp   -- R6
  refine hk' _ _ _ ?_
  refine Runs.ite rfl (fun hc2 => ?_) (fun hc2 => ?_)   -- t25
  · refine Runs.seqE Ty_ok (by decide) fun k' hk' => ?_
    simp   -- R7
    refine hk' _ _ _ ?_
    exact Runs.ret Tryd.func7 (RetOk.one Tryd.results7) (yes _ _)
  simp only [decide_eq_false_iff_not] at hc2
  have hS : SmallB sig b := smallB (left := 1048576) (by omega) (by omega) (by omega) (by omega) hh
  have hb5 : b.nodes.length ≤ 1048576 ∧ (∀ z ∈ b.nodes, z.links.length ≤ 1048576) ∧ b.sites.length ≤ 1048576 ∧ b.outer.length ≤ 1048576 ∧ b.inner.length ≤ 1048576 := ⟨hS.nodesLen, hS.linksLen, hS.sitesLen, hS.outerLen, hS.innerLen⟩
  have toS := toControlS_ok sig hS.sigLen
  have toB := toBigraph_ok b hb5
  refine Runs.skip ?_
  refine Runs.seqD Ty_ok kindOp_ok draws (by decide) (by kernel_rfl) fun k' hk' => ?_
  simp [h0, h2, h3, h5, hm']   -- R8
  refine RunDK.callA Ty_ok kindOp_ok toS e36 (.cons (ArgOk.encSig false sig) .nil) (by decide) rfl (by simp [h0]) ?_
  simp [h2, h3, h5, hm']
  refine RunDK.callA Ty_ok kindOp_ok toB e37 (.cons (ArgOk.encB false b) .nil) (by decide) rfl (by simp [encB, Big.cells]) ?_
  simp [h2, h3]
  refine RunDK.callA Ty_ok kindOp_ok (specCommonPlace_ok sig b x y hS) e26 (.cons (ArgOk.encSig true sig) (.cons (ArgOk.encB true b) (.cons (.v _ _ _) (.cons (.v _ _ _) .nil)))) (by decide) rfl (by simp [h2, h3, encSig, encB]) ?_
  simp
  refine hk' _ _ _ ?_
  refine Runs.seqE Ty_ok (by decide) fun k' hk' => ?_
  simp [h0]   -- R9
  refine RunK.callA Ty_ok toS e36 (.cons (ArgOk.encSig false sig) .nil) (by decide) (by decide) rfl (by simp [h0]) ?_
  rintro _ rfl
  simp
  refine hk' _ _ _ ?_
  refine Runs.seqE Ty_ok (by decide) fun k' hk' => ?_
  simp [h5, hm']   -- R10
  refine RunK.callA Ty_ok toB e37 (.cons (ArgOk.encB false b) .nil) (by decide) (by decide) rfl (by simp [encB, Big.cells]) ?_
  rintro _ rfl
  simp [Big.cells, encN, encI, encS, encW]
  refine hk' _ _ _ ?_
  refine Runs.cut (fun ρ H n => ρ 0 = encSig false sig ∧ ρ 2 = int x ∧ ρ 3 = int y ∧ ρ 5 = .ptr (0, 5) 1 0 0 ∧ ρ 10 = int (commonPlace sig b x y).1 ∧ ρ 11 = bool (commonPlace sig b x y).2 ∧ ρ 12 = encSig true sig ∧ ρ 13 = .ptr (1, 13) 1 0 0 ∧
    H (0, 5) = some ⟨6, [b.cells false]⟩ ∧ H (1, 13) = some ⟨6, [b.cells true]⟩) ⟨by simp [h0], by simp [h2], by simp [h3], by simp [h5], by simp, by simp, by simp [encSig], by simp, by simp [hm], by simp [Big.cells, encN, encI, encS, encW]⟩ ?_
  clear hk' h0 h2 h3 h5 h9 hm hm'
  rintro ρ H n ⟨h0, h2, h3, h5, h10, h11, h12, h13, hm, hm13⟩
  have hm' := hm
  simp only [Big.cells] at hm'
  have hm13' := hm13
  simp only [Big.cells] at hm13'
  refine Runs.seqE Ty_ok (by decide) fun k' hk' => ?_
  simp [h2, h3, h12, h13, hm13']   -- R11
  refine RunK.callA Ty_ok (CommonPlace_ok sig b x y hS) e25 (.cons (ArgOk.encSig true sig) (.cons (ArgOk.encB true b) (.cons (.v _ _ _) (.cons (.v _ _ _) .nil)))) (by decide) (by decide) rfl (by simp [h2, h3, h12, encB, Big.cells]) ?_
  rintro _ rfl
  simp
  refine hk' _ _ _ ?_
  refine Runs.seq ?_
  refine Runs.seqE Ty_ok (by decide) fun k' hk' => ?_
  simp [h10, h11, guardOf]   -- R12
  refine hk' _ _ _ ?_
  refine Runs.ite rfl (fun hc3 => by simp at hc3) (fun hc3 => ?_)   -- t55
  refine Runs.skip ?_
  refine Runs.seq ?_
  refine Runs.seqE Ty_ok (by decide) fun k' hk' => ?_
  simp [h0, h12]   -- R14
  refine RunK.callA Ty_ok toS e36 (.cons (ArgOk.encSig false sig) .nil) (by decide) (by decide) rfl (by simp [h0]) ?_
  rintro _ rfl
  simp
  refine RunK.callA Ty_ok (eqControlS_ok sig sig hS.sigLen) e38 (.cons (ArgOk.encSig true sig) (.cons (ArgOk.encSig true sig) .nil)) (by decide) (by decide) rfl (by simp [h12, encSig]) ?_
  rintro _ rfl
  simp
  refine hk' _ _ _ ?_
  refine Runs.ite rfl (fun hc4 => by simp at hc4) (fun hc4 => ?_)   -- t60
  refine Runs.skip ?_
  refine Runs.seq ?_
  refine Runs.seqD Ty_ok kindOp_ok draws (by decide) (by kernel_rfl) fun k' hk' => ?_
  simp [h5, h13, hm', hm13']   -- R16
  refine RunDK.callA Ty_ok kindOp_ok toB e37 (.cons (ArgOk.encB false b) .nil) (by decide) rfl (by simp [encB, Big.cells]) ?_
  simp
  refine RunDK.callA Ty_ok kindOp_ok (eqBigraph_ok b b hb5) e39 (.cons (ArgOk.encB true b) (.cons (ArgOk.encB true b) .nil)) (by decide) rfl (by simp [encB, Big.cells]) ?_
  simp
  refine hk' _ _ _ ?_
  refine Runs.ite rfl (fun hc5 => by simp at hc5) (fun hc5 => ?_)   -- t65
  refine Runs.skip ?_
  refine Runs.seqE Ty_ok (by decide) fun k' hk' => ?_
  simp   -- R18
  refine hk' _ _ _ ?_
  exact Runs.ret Tryd.func7 (RetOk.one Tryd.results7) (yes _ _)
end Go.Ab

/- Contracts of the laws' mark.. and held.. functions of bigraphs' flat slices. By program. -/
namespace Go.Ab
open Go.Proofs
set_option linter.unusedSimpArgs false
def markInt (k i : Nat) : Int := ((k + i : Nat) : Int)
def markInts (k c : Nat) : List (Int) := (List.range c).map (markInt k)
def markStr (k i : Nat) : Str := markTextL (k + i)
def markStrs (k c : Nat) : List (Str) := (List.range c).map (markStr k)
def markWire (k i : Nat) : Wire := ⟨markTextL (k + 2 * i), ((k + 2 * i + 1 : Nat) : Int)⟩
def markWires (k c : Nat) : List (Wire) := (List.range c).map (markWire k)
def markCtl (k i : Nat) : Control := ⟨markTextL (k + 3 * i), ((k + 3 * i + 1 : Nat) : Int), ((k + 3 * i + 2 : Nat) : Int)⟩
def markCtls (k c : Nat) : List (Control) := (List.range c).map (markCtl k)
theorem e43 : Ent Tryd.prog 43 := Ent.of Tryd.func43 (by kernel_rfl) rfl

theorem markIntS_ok {H : Heap} {n : Nat} {v : AVal} {S : List Id} (p : List (Int)) (hO : Own H 1 v (.list true (p.map intC)) S) (k : Nat) (hk : k + p.length ≤ 1152921504606846976) :
    CallsA Tryd.prog 43 [v, int k] H n (fun r H1 n1 => r = int ((k + p.length : Nat) : Int) ∧ n1 = n ∧ Own H1 1 v (.list true ((markInts k p.length).map intC)) S ∧ ∀ i, i ∉ S → H1 i = H i) := by
  refine CallsA.sized fun hsz => ?_
  rcases hO.flatS with ⟨rfl, hp, rfl⟩ | ⟨id, sz, rfl, hid, rfl⟩
  · have hp0 : p = [] := by simpa using hp
    subst hp0
    refine CallsA.of Tryd.func43 rfl Tryd.ntmps43 (by simp) fun Q hQ => ?_
    refine Runs.seqE Ty_ok (by decide) fun k' hk' => ?_
    simp   -- R0
    refine hk' _ _ _ ?_
    refine Runs.seq ?_
    refine Runs.seqE Ty_ok (by decide) fun k' hk' => ?_
    simp   -- R1
    refine hk' _ _ _ ?_
    refine Runs.block (Runs.loop ?_)
    refine Runs.seq ?_
    refine Runs.seqE Ty_ok (by decide) fun k' hk' => ?_
    simp   -- R2
    refine hk' _ _ _ ?_
    refine Runs.ite rfl (fun hc1 => by simp at hc1) (fun hc1 => ?_)
    refine Runs.exit rfl ?_
    refine Runs.seqE Ty_ok (by decide) fun k' hk' => ?_
    simp
    refine hk' _ _ _ ?_
    refine Runs.ret Tryd.func43 (RetOk.one Tryd.results43) (hQ _ _ _ ⟨by simp, rfl, ?_, fun _ _ => rfl⟩)
    simpa [markInts] using Own.nilS
  · have hs3 : p ≠ [] → sz = 1 := by
      intro hne
      obtain ⟨x, r, rfl⟩ := List.exists_cons_of_ne_nil hne
      have := (hsz id _ hid).2 (intC x) (by simp)
      simpa [intC] using this.symm
    simp only [List.length_map]
    have hlen : ∀ j, j ≤ p.length → (partm (fun i => intC (markInt k i)) (p.map intC) j).length = p.length := fun j hj => by rw [partm_len (by simpa using hj)]; simp
    refine CallsA.of Tryd.func43 rfl Tryd.ntmps43 (by simp) fun Q hQ => ?_
    refine Runs.seqE Ty_ok (by decide) fun k' hk' => ?_
    simp   -- R0
    refine hk' _ _ _ ?_
    refine Runs.seq ?_
    refine Runs.seqE Ty_ok (by decide) fun k' hk' => ?_
    simp   -- R1
    refine hk' _ _ _ ?_
    refine Runs.block (Runs.loopUp p.length (fun j ρ H' n' => ρ 0 = .arr id p.length 0 p.length ∧ ρ 5 = int j ∧ ρ 1 = int ((k + j : Nat) : Int) ∧ n' = n ∧ H' = H.set id ⟨sz, partm (fun i => intC (markInt k i)) (p.map intC) j⟩) ?_ ?_)
    · refine ⟨by simp, by simp, by simp, rfl, ?_⟩
      rw [partm_zero]
      exact (Heap.set_same hid).symm
    · rintro j ρ H' n' hj ⟨h0, h5, h1, rfl, rfl⟩ IH
      refine Runs.seq ?_
      refine Runs.seqE Ty_ok (by decide) fun k' hk' => ?_
      simp [h0, h5, live, Heap.get_set_self, hlen j hj]   -- R2
      refine hk' _ _ _ ?_
      refine Runs.ite rfl (fun hc1 => ?_) (fun hc1 => ?_)
      · simp at hc1
        obtain rfl := hs3 (by intro h; subst h; simp at hc1)
        obtain ⟨els, hels, hl, hgj, hset⟩ := partm_step (row := fun i => intC (markInt k i)) (els := p.map intC) (k := j) (by simpa using hc1)
        rw [hels]
        simp only [List.length_map] at hl
        simp [hl, hc1, intC] at hgj
        have w1 := wrap_one (a := k + j) rfl (by omega)
        refine Runs.skip ?_
        refine Runs.seq ?_
        refine Runs.block ?_
        refine Runs.seqE Ty_ok (by decide) fun k' hk' => ?_
        simp [h0, h5, h1, live, Heap.get_set_self, hl, hc1, hgj, -Int.natCast_add]
        refine hk' _ _ _ ?_
        refine Runs.evalE Ty_ok (by decide) fun k' hk' => ?_
        simp [h1, w1, -Int.natCast_add]
        refine hk' _ _ _ ?_
        refine Runs.inBlock ?_
        refine Runs.evalE Ty_ok (by decide) fun k' hk' => ?_
        simp [h5, wrap_succ (show j < 4611686018427387904 by omega), -Int.natCast_add]
        refine hk' _ _ _ ?_
        refine IH hc1 _ _ _ ?_
        rw [← hset]
        simp [h0, markInt, intC,  Heap.set_set, -Int.natCast_add]
        omega
      · simp at hc1
        have hje : j = p.length := by omega
        subst hje
        refine Runs.exit rfl ?_
        refine Runs.seqE Ty_ok (by decide) fun k' hk' => ?_
        simp [h1, -Int.natCast_add]
        refine hk' _ _ _ ?_
        refine Runs.ret Tryd.func43 (RetOk.one Tryd.results43) (hQ _ _ _ ⟨by simp, rfl, ?_, fun i hi => ?_⟩)
        · refine Own.arrF (sz := sz) ?_ (by simp [markInts]) (by simp [intC])
          have he := partm_end (row := fun i => intC (markInt k i)) (els := p.map intC)
          simp only [List.length_map] at he
          rw [Heap.get_set_self, he]
          simp [markInts]
        · exact Heap.get_set_ne _ _ (by simpa using hi)

theorem e44 : Ent Tryd.prog 44 := Ent.of Tryd.func44 (by kernel_rfl) rfl

theorem heldIntS_ok (k c : Nat) (hk : k + c ≤ 1152921504606846976) : PureC Tryd.prog 44 [.list false ((markInts k c).map intC), int k] (fun r => r = int ((k + c : Nat) : Int)) := by
  have hlen : (markInts k c).length = c := by simp [markInts]
  refine PureC.of Tryd.func44 rfl Tryd.ntmps44 (by simp) fun Q hQ => ?_
  refine Runs.seqE Ty_ok (by decide) fun k' hk' => ?_
  simp   -- R0
  refine hk' _ _ _ ?_
  refine Runs.seq ?_
  refine Runs.seqE Ty_ok (by decide) fun k' hk' => ?_
  simp   -- R1
  refine hk' _ _ _ ?_
  refine Runs.block (Runs.loopUp c (fun j ρ H n => ρ 0 = .list false ((markInts k c).map intC) ∧ ρ 5 = int j ∧ ρ 1 = int ((k + j : Nat) : Int)) ?_ ?_)
  · simp
  · rintro j ρ H n hj ⟨h0, h5, h1⟩ IH
    refine Runs.seq ?_
    refine Runs.seqE Ty_ok (by decide) fun k' hk' => ?_
    simp [h0, h5, hlen]   -- R2
    refine hk' _ _ _ ?_
    refine Runs.ite rfl (fun hc1 => ?_) (fun hc1 => ?_)
    · simp at hc1
      have hg : (markInts k c)[j]? = some (markInt k j) := by simp [markInts, hc1]
      have hg' : ∀ h : j < (markInts k c).length, (markInts k c)[j] = markInt k j := fun h => by simp [markInts]
      have w1 := wrap_one (a := k + j) rfl (by omega)
      refine Runs.skip ?_
      refine Runs.seq ?_
      refine Runs.block ?_
      refine Runs.seq ?_
      refine Runs.seqE Ty_ok (by decide) fun k' hk' => ?_
      simp [h0, h5, h1, hlen, hc1, hg, hg', intC, markInt, -Int.natCast_add]
      refine hk' _ _ _ ?_
      refine Runs.ite rfl (fun hc => by simp at hc) (fun _ => ?_)
      refine Runs.skip ?_
      refine Runs.evalE Ty_ok (by decide) fun k' hk' => ?_
      simp [h1, w1, -Int.natCast_add]
      refine hk' _ _ _ ?_
      refine Runs.inBlock ?_
      refine Runs.evalE Ty_ok (by decide) fun k' hk' => ?_
      simp [h5, wrap_succ (show j < 4611686018427387904 by omega), -Int.natCast_add]
      refine hk' _ _ _ ?_
      refine IH hc1 _ _ _ ?_
      simp [h0, -Int.natCast_add]
      omega
    · simp at hc1
      have hje : j = c := by omega
      subst hje
      refine Runs.exit rfl ?_
      refine Runs.seqE Ty_ok (by decide) fun k' hk' => ?_
      simp [h1, -Int.natCast_add]
      refine hk' _ _ _ ?_
      exact Runs.ret Tryd.func44 (RetOk.one Tryd.results44) (hQ _ _ _ _ (.v _ _ _) rfl)

theorem e101 : Ent Tryd.prog 101 := Ent.of Tryd.func101 (by kernel_rfl) rfl

theorem markStringS_ok {H : Heap} {n : Nat} {v : AVal} {S : List Id} (p : List (Str)) (hO : Own H 1 v (.list true (p.map strC)) S) (k : Nat) (hk : k + p.length ≤ 1152921504606846976) :
    CallsA Tryd.prog 101 [v, int k] H n (fun r H1 n1 => r = int ((k + p.length : Nat) : Int) ∧ n1 = n ∧ Own H1 1 v (.list true ((markStrs k p.length).map strC)) S ∧ ∀ i, i ∉ S → H1 i = H i) := by
  refine CallsA.sized fun hsz => ?_
  rcases hO.flatS with ⟨rfl, hp, rfl⟩ | ⟨id, sz, rfl, hid, rfl⟩
  · have hp0 : p = [] := by simpa using hp
    subst hp0
    refine CallsA.of Tryd.func101 rfl Tryd.ntmps101 (by simp) fun Q hQ => ?_
    refine Runs.seqE Ty_ok (by decide) fun k' hk' => ?_
    simp   -- R0
    refine hk' _ _ _ ?_
    refine Runs.seq ?_
    refine Runs.seqE Ty_ok (by decide) fun k' hk' => ?_
    simp   -- R1
    refine hk' _ _ _ ?_
    refine Runs.block (Runs.loop ?_)
    refine Runs.seq ?_
    refine Runs.seqE Ty_ok (by decide) fun k' hk' => ?_
    simp   -- R2
    refine hk' _ _ _ ?_
    refine Runs.ite rfl (fun hc1 => by simp at hc1) (fun hc1 => ?_)
    refine Runs.exit rfl ?_
    refine Runs.seqE Ty_ok (by decide) fun k' hk' => ?_
    simp
    refine hk' _ _ _ ?_
    refine Runs.ret Tryd.func101 (RetOk.one Tryd.results101) (hQ _ _ _ ⟨by simp, rfl, ?_, fun _ _ => rfl⟩)
    simpa [markStrs] using Own.nilS
  · have hs3 : p ≠ [] → sz = 1 := by
      intro hne
      obtain ⟨x, r, rfl⟩ := List.exists_cons_of_ne_nil hne
      have := (hsz id _ hid).2 (strC x) (by simp)
      simpa [strC] using this.symm
    simp only [List.length_map]
    have hlen : ∀ j, j ≤ p.length → (partm (fun i => strC (markStr k i)) (p.map strC) j).length = p.length := fun j hj => by rw [partm_len (by simpa using hj)]; simp
    refine CallsA.of Tryd.func101 rfl Tryd.ntmps101 (by simp) fun Q hQ => ?_
    refine Runs.seqE Ty_ok (by decide) fun k' hk' => ?_
    simp   -- R0
    refine hk' _ _ _ ?_
    refine Runs.seq ?_
    refine Runs.seqE Ty_ok (by decide) fun k' hk' => ?_
    simp   -- R1
    refine hk' _ _ _ ?_
    refine Runs.block (Runs.loopUp p.length (fun j ρ H' n' => ρ 0 = .arr id p.length 0 p.length ∧ ρ 5 = int j ∧ ρ 1 = int ((k + j : Nat) : Int) ∧ n' = n ∧ H' = H.set id ⟨sz, partm (fun i => strC (markStr k i)) (p.map strC) j⟩) ?_ ?_)
    · refine ⟨by simp, by simp, by simp, rfl, ?_⟩
      rw [partm_zero]
      exact (Heap.set_same hid).symm
    · rintro j ρ H' n' hj ⟨h0, h5, h1, rfl, rfl⟩ IH
      refine Runs.seq ?_
      refine Runs.seqE Ty_ok (by decide) fun k' hk' => ?_
      simp [h0, h5, live, Heap.get_set_self, hlen j hj]   -- R2
      refine hk' _ _ _ ?_
      refine Runs.ite rfl (fun hc1 => ?_) (fun hc1 => ?_)
      · simp at hc1
        obtain rfl := hs3 (by intro h; subst h; simp at hc1)
        obtain ⟨els, hels, hl, hgj, hset⟩ := partm_step (row := fun i => strC (markStr k i)) (els := p.map strC) (k := j) (by simpa using hc1)
        rw [hels]
        simp only [List.length_map] at hl
        simp [hl, hc1, strC] at hgj
        have w1 := wrap_one (a := k + j) rfl (by omega)
        refine Runs.skip ?_
        refine Runs.seq ?_
        refine Runs.block ?_
        refine Runs.seqE Ty_ok (by decide) fun k' hk' => ?_
        simp [h0, h5, h1, live, Heap.get_set_self, hl, hc1, hgj, -Int.natCast_add]
        refine RunK.callA Ty_ok (markText_ok (k + j) (by omega)) e99 (.cons (.v _ _ _) .nil) (by decide) (by decide) rfl (by simp [h1, -Int.natCast_add]) ?_
        rintro _ rfl
        simp [h0, h5, h1, live, Heap.get_set_self, hl, hc1, hgj, -Int.natCast_add]
        refine hk' _ _ _ ?_
        refine Runs.evalE Ty_ok (by decide) fun k' hk' => ?_
        simp [h1, w1, -Int.natCast_add]
        refine hk' _ _ _ ?_
        refine Runs.inBlock ?_
        refine Runs.evalE Ty_ok (by decide) fun k' hk' => ?_
        simp [h5, wrap_succ (show j < 4611686018427387904 by omega), -Int.natCast_add]
        refine hk' _ _ _ ?_
        refine IH hc1 _ _ _ ?_
        rw [← hset]
        simp [h0, markStr, strC,  Heap.set_set, -Int.natCast_add]
        omega
      · simp at hc1
        have hje : j = p.length := by omega
        subst hje
        refine Runs.exit rfl ?_
        refine Runs.seqE Ty_ok (by decide) fun k' hk' => ?_
        simp [h1, -Int.natCast_add]
        refine hk' _ _ _ ?_
        refine Runs.ret Tryd.func101 (RetOk.one Tryd.results101) (hQ _ _ _ ⟨by simp, rfl, ?_, fun i hi => ?_⟩)
        · refine Own.arrF (sz := sz) ?_ (by simp [markStrs]) (by simp [strC])
          have he := partm_end (row := fun i => strC (markStr k i)) (els := p.map strC)
          simp only [List.length_map] at he
          rw [Heap.get_set_self, he]
          simp [markStrs]
        · exact Heap.get_set_ne _ _ (by simpa using hi)

theorem e102 : Ent Tryd.prog 102 := Ent.of Tryd.func102 (by kernel_rfl) rfl

theorem markWireS_ok {H : Heap} {n : Nat} {v : AVal} {S : List Id} (p : List (Wire)) (hO : Own H 1 v (.list true (p.map Wire.cells)) S) (k : Nat) (hk : k + 2 * p.length ≤ 1152921504606846976) :
    CallsA Tryd.prog 102 [v, int k] H n (fun r H1 n1 => r = int ((k + 2 * p.length : Nat) : Int) ∧ n1 = n ∧ Own H1 1 v (.list true ((markWires k p.length).map Wire.cells)) S ∧ ∀ i, i ∉ S → H1 i = H i) := by
  refine CallsA.sized fun hsz => ?_
  rcases hO.flatS with ⟨rfl, hp, rfl⟩ | ⟨id, sz, rfl, hid, rfl⟩
  · have hp0 : p = [] := by simpa using hp
    subst hp0
    refine CallsA.of Tryd.func102 rfl Tryd.ntmps102 (by simp) fun Q hQ => ?_
    refine Runs.seqE Ty_ok (by decide) fun k' hk' => ?_
    simp   -- R0
    refine hk' _ _ _ ?_
    refine Runs.seq ?_
    refine Runs.seqE Ty_ok (by decide) fun k' hk' => ?_
    simp   -- R1
    refine hk' _ _ _ ?_
    refine Runs.block (Runs.loop ?_)
    refine Runs.seq ?_
    refine Runs.seqE Ty_ok (by decide) fun k' hk' => ?_
    simp   -- R2
    refine hk' _ _ _ ?_
    refine Runs.ite rfl (fun hc1 => by simp at hc1) (fun hc1 => ?_)
    refine Runs.exit rfl ?_
    refine Runs.seqE Ty_ok (by decide) fun k' hk' => ?_
    simp
    refine hk' _ _ _ ?_
    refine Runs.ret Tryd.func102 (RetOk.one Tryd.results102) (hQ _ _ _ ⟨by simp, rfl, ?_, fun _ _ => rfl⟩)
    simpa [markWires] using Own.nilS
  · have hs3 : p ≠ [] → sz = 2 := by
      intro hne
      obtain ⟨x, r, rfl⟩ := List.exists_cons_of_ne_nil hne
      have := (hsz id _ hid).2 (Wire.cells x) (by simp)
      simpa [Wire.cells] using this.symm
    simp only [List.length_map]
    have hlen : ∀ j, j ≤ p.length → (partm (fun i => Wire.cells (markWire k i)) (p.map Wire.cells) j).length = p.length := fun j hj => by rw [partm_len (by simpa using hj)]; simp
    refine CallsA.of Tryd.func102 rfl Tryd.ntmps102 (by simp) fun Q hQ => ?_
    refine Runs.seqE Ty_ok (by decide) fun k' hk' => ?_
    simp   -- R0
    refine hk' _ _ _ ?_
    refine Runs.seq ?_
    refine Runs.seqE Ty_ok (by decide) fun k' hk' => ?_
    simp   -- R1
    refine hk' _ _ _ ?_
    refine Runs.block (Runs.loopUp p.length (fun j ρ H' n' => ρ 0 = .arr id p.length 0 p.length ∧ ρ 5 = int j ∧ ρ 1 = int ((k + 2 * j : Nat) : Int) ∧ n' = n ∧ H' = H.set id ⟨sz, partm (fun i => Wire.cells (markWire k i)) (p.map Wire.cells) j⟩) ?_ ?_)
    · refine ⟨by simp, by simp, by simp, rfl, ?_⟩
      rw [partm_zero]
      exact (Heap.set_same hid).symm
    · rintro j ρ H' n' hj ⟨h0, h5, h1, rfl, rfl⟩ IH
      refine Runs.seq ?_
      refine Runs.seqE Ty_ok (by decide) fun k' hk' => ?_
      simp [h0, h5, live, Heap.get_set_self, hlen j hj]   -- R2
      refine hk' _ _ _ ?_
      refine Runs.ite rfl (fun hc1 => ?_) (fun hc1 => ?_)
      · simp at hc1
        obtain rfl := hs3 (by intro h; subst h; simp at hc1)
        obtain ⟨els, hels, hl, hgj, hset⟩ := partm_step (row := fun i => Wire.cells (markWire k i)) (els := p.map Wire.cells) (k := j) (by simpa using hc1)
        rw [hels]
        simp only [List.length_map] at hl
        simp [hl, hc1, Wire.cells] at hgj
        have w1 := wrap_one (a := k + 2 * j) rfl (by omega)
        have w2 := wrap_one (a := k + 2 * j + 1) rfl (by omega)
        refine Runs.skip ?_
        refine Runs.seq ?_
        refine Runs.block ?_
        refine Runs.seqE Ty_ok (by decide) fun k' hk' => ?_
        simp [h0, h5, h1, live, Heap.get_set_self, hl, hc1, hgj, -Int.natCast_add]
        refine RunK.callA Ty_ok (markText_ok (k + 2 * j) (by omega)) e99 (.cons (.v _ _ _) .nil) (by decide) (by decide) rfl (by simp [h1, -Int.natCast_add]) ?_
        rintro _ rfl
        simp [h0, h5, h1, live, Heap.get_set_self, hl, hc1, hgj, -Int.natCast_add]
        refine hk' _ _ _ ?_
        refine Runs.seqE Ty_ok (by decide) fun k' hk' => ?_
        simp [h1, w1, -Int.natCast_add]
        refine hk' _ _ _ ?_
        refine Runs.seqE Ty_ok (by decide) fun k' hk' => ?_
        simp [h0, h5, h1, live, Heap.get_set_self, hl, hc1, hgj, -Int.natCast_add]
        refine hk' _ _ _ ?_
        refine Runs.evalE Ty_ok (by decide) fun k' hk' => ?_
        simp [h1, w2, -Int.natCast_add]
        refine hk' _ _ _ ?_
        refine Runs.inBlock ?_
        refine Runs.evalE Ty_ok (by decide) fun k' hk' => ?_
        simp [h5, wrap_succ (show j < 4611686018427387904 by omega), -Int.natCast_add]
        refine hk' _ _ _ ?_
        refine IH hc1 _ _ _ ?_
        rw [← hset]
        simp [h0, markWire, Wire.cells,  Heap.set_set, -Int.natCast_add]
        omega
      · simp at hc1
        have hje : j = p.length := by omega
        subst hje
        refine Runs.exit rfl ?_
        refine Runs.seqE Ty_ok (by decide) fun k' hk' => ?_
        simp [h1, -Int.natCast_add]
        refine hk' _ _ _ ?_
        refine Runs.ret Tryd.func102 (RetOk.one Tryd.results102) (hQ _ _ _ ⟨by simp, rfl, ?_, fun i hi => ?_⟩)
        · refine Own.arrF (sz := sz) ?_ (by simp [markWires]) (by simp [Wire.cells])
          have he := partm_end (row := fun i => Wire.cells (markWire k i)) (els := p.map Wire.cells)
          simp only [List.length_map] at he
          rw [Heap.get_set_self, he]
          simp [markWires]
        · exact Heap.get_set_ne _ _ (by simpa using hi)

theorem e41 : Ent Tryd.prog 41 := Ent.of Tryd.func41 (by kernel_rfl) rfl

theorem markControlS_ok {H : Heap} {n : Nat} {v : AVal} {S : List Id} (p : List (Control)) (hO : Own H 1 v (.list true (p.map Control.cells)) S) (k : Nat) (hk : k + 3 * p.length ≤ 1152921504606846976) :
    CallsA Tryd.prog 41 [v, int k] H n (fun r H1 n1 => r = int ((k + 3 * p.length : Nat) : Int) ∧ n1 = n ∧ Own H1 1 v (.list true ((markCtls k p.length).map Control.cells)) S ∧ ∀ i, i ∉ S → H1 i = H i) := by
  refine CallsA.sized fun hsz => ?_
  rcases hO.flatS with ⟨rfl, hp, rfl⟩ | ⟨id, sz, rfl, hid, rfl⟩
  · have hp0 : p = [] := by simpa using hp
    subst hp0
    refine CallsA.of Tryd.func41 rfl Tryd.ntmps41 (by simp) fun Q hQ => ?_
    refine Runs.seqE Ty_ok (by decide) fun k' hk' => ?_
    simp   -- R0
    refine hk' _ _ _ ?_
    refine Runs.seq ?_
    refine Runs.seqE Ty_ok (by decide) fun k' hk' => ?_
    simp   -- R1
    refine hk' _ _ _ ?_
    refine Runs.block (Runs.loop ?_)
    refine Runs.seq ?_
    refine Runs.seqE Ty_ok (by decide) fun k' hk' => ?_
    simp   -- R2
    refine hk' _ _ _ ?_
    refine Runs.ite rfl (fun hc1 => by simp at hc1) (fun hc1 => ?_)
    refine Runs.exit rfl ?_
    refine Runs.seqE Ty_ok (by decide) fun k' hk' => ?_
    simp
    refine hk' _ _ _ ?_
    refine Runs.ret Tryd.func41 (RetOk.one Tryd.results41) (hQ _ _ _ ⟨by simp, rfl, ?_, fun _ _ => rfl⟩)
    simpa [markCtls] using Own.nilS
  · have hs3 : p ≠ [] → sz = 3 := by
      intro hne
      obtain ⟨x, r, rfl⟩ := List.exists_cons_of_ne_nil hne
      have := (hsz id _ hid).2 (Control.cells x) (by simp)
      simpa [Control.cells] using this.symm
    simp only [List.length_map]
    have hlen : ∀ j, j ≤ p.length → (partm (fun i => Control.cells (markCtl k i)) (p.map Control.cells) j).length = p.length := fun j hj => by rw [partm_len (by simpa using hj)]; simp
    refine CallsA.of Tryd.func41 rfl Tryd.ntmps41 (by simp) fun Q hQ => ?_
    refine Runs.seqE Ty_ok (by decide) fun k' hk' => ?_
    simp   -- R0
    refine hk' _ _ _ ?_
    refine Runs.seq ?_
    refine Runs.seqE Ty_ok (by decide) fun k' hk' => ?_
    simp   -- R1
    refine hk' _ _ _ ?_
    refine Runs.block (Runs.loopUp p.length (fun j ρ H' n' => ρ 0 = .arr id p.length 0 p.length ∧ ρ 5 = int j ∧ ρ 1 = int ((k + 3 * j : Nat) : Int) ∧ n' = n ∧ H' = H.set id ⟨sz, partm (fun i => Control.cells (markCtl k i)) (p.map Control.cells) j⟩) ?_ ?_)
    · refine ⟨by simp, by simp, by simp, rfl, ?_⟩
      rw [partm_zero]
      exact (Heap.set_same hid).symm
    · rintro j ρ H' n' hj ⟨h0, h5, h1, rfl, rfl⟩ IH
      refine Runs.seq ?_
      refine Runs.seqE Ty_ok (by decide) fun k' hk' => ?_
      simp [h0, h5, live, Heap.get_set_self, hlen j hj]   -- R2
      refine hk' _ _ _ ?_
      refine Runs.ite rfl (fun hc1 => ?_) (fun hc1 => ?_)
      · simp at hc1
        obtain rfl := hs3 (by intro h; subst h; simp at hc1)
        obtain ⟨els, hels, hl, hgj, hset⟩ := partm_step (row := fun i => Control.cells (markCtl k i)) (els := p.map Control.cells) (k := j) (by simpa using hc1)
        rw [hels]
        simp only [List.length_map] at hl
        simp [hl, hc1, Control.cells] at hgj
        have w1 := wrap_one (a := k + 3 * j) rfl (by omega)
        have w2 := wrap_one (a := k + 3 * j + 1) rfl (by omega)
        have w3 := wrap_one (a := k + 3 * j + 2) rfl (by omega)
        refine Runs.skip ?_
        refine Runs.seq ?_
        refine Runs.block ?_
        refine Runs.seqE Ty_ok (by decide) fun k' hk' => ?_
        simp [h0, h5, h1, live, Heap.get_set_self, hl, hc1, hgj, -Int.natCast_add]
        refine RunK.callA Ty_ok (markText_ok (k + 3 * j) (by omega)) e99 (.cons (.v _ _ _) .nil) (by decide) (by decide) rfl (by simp [h1, -Int.natCast_add]) ?_
        rintro _ rfl
        simp [h0, h5, h1, live, Heap.get_set_self, hl, hc1, hgj, -Int.natCast_add]
        refine hk' _ _ _ ?_
        refine Runs.seqE Ty_ok (by decide) fun k' hk' => ?_
        simp [h1, w1, -Int.natCast_add]
        refine hk' _ _ _ ?_
        refine Runs.seqE Ty_ok (by decide) fun k' hk' => ?_
        simp [h0, h5, h1, live, Heap.get_set_self, hl, hc1, hgj, -Int.natCast_add]
        refine hk' _ _ _ ?_
        refine Runs.seqE Ty_ok (by decide) fun k' hk' => ?_
        simp [h1, w2, -Int.natCast_add]
        refine hk' _ _ _ ?_
        refine Runs.seqE Ty_ok (by decide) fun k' hk' => ?_
        simp [h0, h5, h1, live, Heap.get_set_self, hl, hc1, hgj, -Int.natCast_add]
        refine hk' _ _ _ ?_
        refine Runs.evalE Ty_ok (by decide) fun k' hk' => ?_
        simp [h1, w3, -Int.natCast_add]
        refine hk' _ _ _ ?_
        refine Runs.inBlock ?_
        refine Runs.evalE Ty_ok (by decide) fun k' hk' => ?_
        simp [h5, wrap_succ (show j < 4611686018427387904 by omega), -Int.natCast_add]
        refine hk' _ _ _ ?_
        refine IH hc1 _ _ _ ?_
        rw [← hset]
        simp [h0, markCtl, Control.cells,  Heap.set_set, -Int.natCast_add]
        omega
      · simp at hc1
        have hje : j = p.length := by omega
        subst hje
        refine Runs.exit rfl ?_
        refine Runs.seqE Ty_ok (by decide) fun k' hk' => ?_
        simp [h1, -Int.natCast_add]
        refine hk' _ _ _ ?_
        refine Runs.ret Tryd.func41 (RetOk.one Tryd.results41) (hQ _ _ _ ⟨by simp, rfl, ?_, fun i hi => ?_⟩)
        · refine Own.arrF (sz := sz) ?_ (by simp [markCtls]) (by simp [Control.cells])
          have he := partm_end (row := fun i => Control.cells (markCtl k i)) (els := p.map Control.cells)
          simp only [List.length_map] at he
          rw [Heap.get_set_self, he]
          simp [markCtls]
        · exact Heap.get_set_ne _ _ (by simpa using hi)

end Go.Ab

/- Contracts of laws.markNodeS and laws.markBigraph. -/
namespace Go.Ab
open Go.Proofs
set_option linter.unusedSimpArgs false
theorem e100 : Ent Tryd.prog 100 := Ent.of Tryd.func100 (by kernel_rfl) rfl
theorem e42 : Ent Tryd.prog 42 := Ent.of Tryd.func42 (by kernel_rfl) rfl

/-- Nodes in memory. -/
def NodesOwn (H : Heap) : List GNode → List (List AVal) → List Id → Prop
  | [], [], T => T = []
  | x :: l, e :: els, T => ∃ (a b : Int) (lv : AVal) (T1 T2 : List Id), e = [int a, int b, lv] ∧ Own H 1 lv (encI true x.links) T1 ∧ NodesOwn H l els T2 ∧ T = T1 ++ T2 ∧ ∀ i ∈ T1, i ∉ T2
  | _, _, _ => False

theorem NodesOwn.len {H : Heap} : ∀ {l : List GNode} {els : List (List AVal)} {T : List Id}, NodesOwn H l els T → els.length = l.length
  | [], [], _, _ => rfl
  | _ :: _, _ :: _, _, ⟨_, _, _, _, _, _, _, h, _⟩ => by simp [h.len]
  | [], _ :: _, _, h => h.elim
  | _ :: _, [], _, h => h.elim

theorem NodesOwn.frame {H H' : Heap} : ∀ {l : List GNode} {els : List (List AVal)} {T : List Id}, NodesOwn H l els T → (∀ i ∈ T, H' i = H i) → NodesOwn H' l els T
  | [], [], _, h, _ => h
  | _ :: _, _ :: _, _, ⟨a, b, lv, T1, T2, h1, h2, h3, h4, h5⟩, hf => ⟨a, b, lv, T1, T2, h1, h2.frame fun i hi => hf i (by simp [h4, hi]), h3.frame fun i hi => hf i (by simp [h4, hi]), h4, h5⟩
  | [], _ :: _, _, h, _ => h.elim
  | _ :: _, [], _, h, _ => h.elim

theorem Own.vInv {H : Heap} {d : Nat} {v : AVal} {x : Value} {S : List Id} (h : Own H d v (.v x) S) : v = .v x ∧ S = [] := by
  cases d with
  | zero => obtain ⟨⟨y, h1, h2⟩, h3⟩ := h; cases h2; exact ⟨h1, h3⟩
  | succ d =>
    rcases h with ⟨⟨y, h1, h2⟩, h3⟩ | ⟨cs, ds, _, h2, _⟩ | ⟨cs, ds, _, h2, _⟩ | ⟨_, h2, _⟩ | ⟨id, o, els', T, _, h2, _⟩
    · cases h2; exact ⟨h1, h3⟩
    all_goals cases h2

theorem NodesOwn.of {H : Heap} : ∀ {l : List GNode} {els : List (List AVal)} {T : List Id}, OwnLL (Own H 1) els (l.map (GNode.cells true)) T → NodesOwn H l els T
  | [], [], _, h => h
  | x :: l, e :: els, T, h => by
    obtain ⟨S1, S2, h1, h2, h3, h4⟩ := h
    match e, h1 with
    | [a, b, lv], ⟨A1, A2, p1, ⟨B1, B2, q1, ⟨C1, C2, r1, r2, r3, _⟩, q3, _⟩, p3, _⟩ =>
      obtain ⟨rfl, rfl⟩ := p1.vInv
      obtain ⟨rfl, rfl⟩ := q1.vInv
      have r2' : C2 = [] := r2
      subst r2' r3 q3 p3
      exact ⟨x.control, x.parent, lv, C1, S2, rfl, r1, NodesOwn.of h2, by simpa using h3, fun i hi => h4 i (by simpa using hi)⟩
  | [], _ :: _, _, h => h.elim
  | _ :: _, [], _, h => h.elim

/-- A slice of nodes: nil, or an array. -/
theorem Own.nodes {H : Heap} {v : AVal} {l : List GNode} {S : List Id} (h : Own H 2 v (encN true l) S) :
    (v = .v (.slice none 0 0) ∧ l = [] ∧ S = []) ∨ ∃ id sz els T, v = .arr id l.length 0 l.length ∧ H id = some ⟨sz, els⟩ ∧ NodesOwn H l els T ∧ id ∉ T ∧ S = id :: T := by
  rcases h with ⟨⟨x, _, hx⟩, _⟩ | ⟨cs, ds, _, hx, _⟩ | ⟨cs, ds, _, hx, _⟩ | ⟨rfl, h2, rfl⟩ | ⟨id, o, els', T, rfl, hx, ho, h, hn, rfl⟩
  · cases hx
  · cases hx
  · cases hx
  · simp only [encN] at h2
    injection h2 with _ h2
    exact .inl ⟨rfl, by simpa using h2, rfl⟩
  · simp only [encN] at hx
    injection hx with _ hx
    subst hx
    have h2 := NodesOwn.of h
    obtain ⟨sz, els⟩ := o
    exact .inr ⟨id, sz, els, T, by rw [h2.len], ho, h2, hn, rfl⟩

def cntN (l : List GNode) : Nat := (l.map fun x => 2 + x.links.length).sum

theorem markNodeS_ok {H : Heap} {n : Nat} {v : AVal} {S : List Id} (l : List GNode) (hO : Own H 2 v (encN true l) S) (k : Nat) (hl : l.length ≤ 1048576) (hk : k + cntN l ≤ 1152921504606846976) :
    CallsA Tryd.prog 100 [v, int k] H n (fun r H1 n1 => r = int ((k + cntN l : Nat) : Int) ∧ n1 = n ∧ ∀ i, i ∉ S → H1 i = H i) := by
  refine CallsA.sized fun hsz => ?_
  rcases hO.nodes with ⟨rfl, rfl, rfl⟩ | ⟨id, sz, els, T, rfl, hid, hN, hnT, rfl⟩
  · refine CallsA.of Tryd.func100 rfl Tryd.ntmps100 (by simp) fun Q hQ => ?_
    refine Runs.seqE Ty_ok (by decide) fun k' hk' => ?_
    simp   -- R0
    refine hk' _ _ _ ?_
    refine Runs.seq ?_
    refine Runs.seqE Ty_ok (by decide) fun k' hk' => ?_
    simp   -- R1
    refine hk' _ _ _ ?_
    refine Runs.block (Runs.loop ?_)
    refine Runs.seq ?_
    refine Runs.seqE Ty_ok (by decide) fun k' hk' => ?_
    simp   -- R2
    refine hk' _ _ _ ?_
    refine Runs.ite rfl (fun hc1 => by simp at hc1) (fun hc1 => ?_)
    refine Runs.exit rfl ?_
    refine Runs.seqE Ty_ok (by decide) fun k' hk' => ?_
    simp
    refine hk' _ _ _ ?_
    exact Runs.ret Tryd.func100 (RetOk.one Tryd.results100) (hQ _ _ _ ⟨by simp [cntN], rfl, fun _ _ => rfl⟩)
  · have hels := hN.len
    have hs3 : l ≠ [] → sz = 3 := by
      intro hne
      obtain ⟨x, r, rfl⟩ := List.exists_cons_of_ne_nil hne
      match els, hN with
      | e :: es, ⟨a, b, lv, T1, T2, he, _⟩ =>
        have := (hsz id _ hid).2 e (by simp)
        rw [he] at this
        simpa using this.symm
    refine CallsA.of Tryd.func100 rfl Tryd.ntmps100 (by simp) fun Q hQ => ?_
    refine Runs.seqE Ty_ok (by decide) fun k' hk' => ?_
    simp   -- R0
    refine hk' _ _ _ ?_
    refine Runs.seq ?_
    refine Runs.seqE Ty_ok (by decide) fun k' hk' => ?_
    simp   -- R1
    refine hk' _ _ _ ?_
    refine Runs.block (Runs.loopUp l.length (fun j ρ H' n' => ρ 0 = .arr id l.length 0 l.length ∧ ρ 5 = int j ∧ n' = n ∧ (∀ i, i ≠ id → i ∉ T → H' i = H i) ∧
      ∃ (pre suf : List (List AVal)) (Tj : List Id) (c : Nat), ρ 1 = int ((k + c : Nat) : Int) ∧ c + cntN (l.drop j) = cntN l ∧ H' id = some ⟨sz, pre ++ suf⟩ ∧ pre.length = j ∧ NodesOwn H' (l.drop j) suf Tj ∧ (∀ i ∈ Tj, i ∈ T)) ?_ ?_)
    · exact ⟨by simp, by simp, rfl, fun i h1 h2 => rfl, [], els, T, 0, by simp, by simp, by simpa using hid, rfl, by simpa using hN, fun i hi => hi⟩
    · rintro j ρ H' n' hj ⟨h0, h5, rfl, hfr, pre, suf, Tj, c, h1, hcnt, hid', hpre, hN', hTj⟩ IH
      have hlen : (pre ++ suf).length = l.length := by
        have := hN'.len
        simp at this
        simp
        omega
      refine Runs.seq ?_
      refine Runs.seqE Ty_ok (by decide) fun k' hk' => ?_
      simp only [List.length_append] at hlen
      simp [h0, h5, live, hid', hlen]   -- R2
      refine hk' _ _ _ ?_
      refine Runs.ite rfl (fun hc1 => ?_) (fun hc1 => ?_)
      · have hc1 : j < l.length := by simpa using hc1
        obtain rfl := hs3 (by intro h; subst h; simp at hc1)
        rw [List.drop_eq_getElem_cons hc1] at hN' hcnt
        match suf, hN' with
        | e :: suf', ⟨a, b, lv, T1, T2, he, hO1, hN2, hT, hdis⟩ =>
        subst he hT
        have hc3 : cntN (l[j] :: l.drop (j + 1)) = 2 + l[j].links.length + cntN (l.drop (j + 1)) := by simp only [cntN, List.map_cons, List.sum_cons]
        rw [hc3] at hcnt
        have w1 := wrap_one (a := k + c) rfl (by omega)
        have w2 := wrap_one (a := k + c + 1) rfl (by omega)
        have hone := hO1.one1
        refine Runs.skip ?_
        refine Runs.seq ?_
        refine Runs.block ?_
        have hidT1 : id ∉ T1 := fun h => hnT (hTj id (by simp [h]))
        have hidT2 : id ∉ T2 := fun h => hnT (hTj id (by simp [h]))
        have hset : ∀ e' : List AVal, (pre ++ [int a, int b, lv] :: suf').set j e' = pre ++ e' :: suf' := fun e' => by
          rw [List.set_append_right _ _ (by omega), hpre, Nat.sub_self]
          rfl
        have hget : ∀ h : j < (pre ++ [int a, int b, lv] :: suf').length, (pre ++ [int a, int b, lv] :: suf')[j] = [int a, int b, lv] := fun h => by
          rw [List.getElem_append_right (by omega)]
          simp [hpre]
        have hll : (pre ++ [int a, int b, lv] :: suf').length = l.length := by rw [List.length_append]; exact hlen
        have hl2 : pre.length + (suf'.length + 1) = l.length := by simpa using hlen
        have hgetX : ∀ (X : List AVal) (h : j < (pre ++ X :: suf').length), (pre ++ X :: suf')[j] = X := fun X h => by
          rw [List.getElem_append_right (by omega)]
          simp [hpre]
        generalize hels' : pre ++ [int a, int b, lv] :: suf' = es at hid' hset hget hll
        refine Runs.seqE Ty_ok (by decide) fun k' hk' => ?_
        simp [h0, h5, h1, live, hid', hll, hc1, hget, -Int.natCast_add]   -- R4
        refine hk' _ _ _ ?_
        refine Runs.seqE Ty_ok (by decide) fun k' hk' => ?_
        simp [h1, w1, -Int.natCast_add]   -- R5
        refine hk' _ _ _ ?_
        refine Runs.seqE Ty_ok (by decide) fun k' hk' => ?_
        simp [h0, h5, live, hll, hc1, hget, -Int.natCast_add]   -- R6
        refine hk' _ _ _ ?_
        refine Runs.seqE Ty_ok (by decide) fun k' hk' => ?_
        simp [w2, -Int.natCast_add]   -- R7
        refine hk' _ _ _ ?_
        refine Runs.evalE Ty_ok (by decide) fun k' hk' => ?_
        simp [h0, h5, live, hll, hc1, hget, hset, hl2, hgetX, -Int.natCast_add]   -- R8
        have hO1' : Own (H'.set id ⟨3, pre ++ [int ((k + c : Nat) : Int), int ((k + c + 1 : Nat) : Int), lv] :: suf'⟩) 1 lv (encI true l[j].links) T1 := hO1.frame fun i hi => Heap.get_set_ne _ _ (fun h => hidT1 (h ▸ hi))
        refine RunK.callS Ty_ok (markIntS_ok l[j].links hO1' (k + c + 1 + 1) (by omega)) e43 (by decide) (by decide) rfl (by simp) ?_
        rintro v H1 n1 ⟨rfl, rfl, _, hfr1⟩
        simp [-Int.natCast_add]
        refine hk' _ _ _ ?_
        refine Runs.inBlock ?_
        refine Runs.evalE Ty_ok (by decide) fun k' hk' => ?_
        simp [h5, wrap_succ (show j < 4611686018427387904 by omega), -Int.natCast_add]
        refine hk' _ _ _ ?_
        refine IH hc1 _ _ _ ⟨by simp [h0], by simp, rfl, fun i hi hiT => ?_, pre ++ [[int ((k + c : Nat) : Int), int ((k + c + 1 : Nat) : Int), lv]], suf', T2, c + 2 + l[j].links.length, ?_, by omega, ?_, by simp [hpre], hN2.frame fun i hi => ?_, fun i hi => hTj i (by simp [hi])⟩
        · rw [hfr1 i (fun h => hiT (hTj i (by simp [h]))), Heap.get_set_ne _ _ hi, hfr i hi hiT]
        · simp [-Int.natCast_add]
          omega
        · rw [hfr1 id hidT1]
          simp
        · rw [hfr1 i (fun h => hdis i h hi), Heap.get_set_ne _ _ (by rintro rfl; exact hidT2 hi)]
      · have hc1 : ¬ j < l.length := by simpa using hc1
        have hje : j = l.length := by omega
        subst hje
        rw [List.drop_length] at hcnt
        have hc0 : c = cntN l := by simpa [cntN] using hcnt
        subst hc0
        refine Runs.exit rfl ?_
        refine Runs.seqE Ty_ok (by decide) fun k' hk' => ?_
        simp [h1, -Int.natCast_add]
        refine hk' _ _ _ ?_
        exact Runs.ret Tryd.func100 (RetOk.one Tryd.results100) (hQ _ _ _ ⟨by simp, rfl, fun i hi => hfr i (fun h => hi (by simp [h])) (fun h => hi (by simp [h]))⟩)
end Go.Ab

/- What walks by program lean on: the text of a mark, nested slices handed over, and marks of nodes that are left for lost. -/
namespace Go.Ab.Vg
open Go.Proofs
theorem markTxt_ok (k : Int) (h : markTxt_pre k) : PureC Tryd.prog 99 [int k] (fun r => r = str (markTxt k)) := by
  have := markText_ok k.toNat (by omega)
  rwa [Int.toNat_of_nonneg h.1] at this
theorem ArgOk.nest_Node {H : Heap} {n : Nat} (t : Bool) (l : List GNode) : ArgOk H n (.list t (l.map (GNode.cells t))) (.list false (l.map (GNode.cells false))) := Go.Ab.ArgOk.encN t l
theorem old_nest_Node (t : Bool) (l : List GNode) : old (.list t (l.map (GNode.cells t))) = .list false (l.map (GNode.cells false)) := old_encN t l
def markNn (l : List GNode) (k : Int) : Int := k + (cntN l : Int)
abbrev markNn_pre (l : List GNode) (k : Int) : Prop := 0 ≤ k ∧ l.length ≤ 1048576 ∧ k + cntN l ≤ 1152921504606846976
theorem markNodeS_eat (l : List GNode) (k : Int) (h : markNn_pre l k) : EatS Tryd.prog 100 (fun v => [v, int k]) (.s [.c, .c, .s [.c]]) (.list true (l.map (GNode.cells true))) (fun r => r = int (markNn l k)) := by
  refine EatS.ofOwn (d := 2) (by simp [Sh.dep, Sh.depL]) fun H n v S hO => ?_
  obtain ⟨q, rfl⟩ : ∃ q : Nat, k = q := ⟨k.toNat, by omega⟩
  refine CallsA.mono (markNodeS_ok l hO q h.2.1 (by omega)) ?_
  rintro r H1 n1 ⟨rfl, rfl, h3⟩
  exact ⟨by simp [markNn], rfl, h3⟩
end Go.Ab.Vg

/- AncestorsOf: pure conditions of the functions that the law reaches, and of the law. -/
namespace Go.Ab.Vg
set_option linter.unusedSimpArgs false
set_option linter.unusedVariables false
abbrev ancestorsOf_pre (b : Big) (node : Int) : Prop := Down b ∧ node < b.nodes.length
abbrev ancestorsOf (b : Big) (node : Int) := above b node
def ancestorsOf_wp (b : Big) (node : Int) (Z : (List Int) → Prop) : Prop :=
  loopW (σ := Int × (List Int)) (fun (node14, l15) K18 => ∀ c19 : Bool, c19 = decide (0 ≤ node14) → ((c19 = true → (0 ≤ node14 ∧ node14 < b.nodes.length) ∧ ∀ x22 : GNode, x22 = at' b.nodes node14 → (l15.length + 1 ≤ 1073741824) ∧ ∀ l25 : List Int, l25 = l15 ++ [x22.parent] → K18 (x22.parent, l25)) ∧ (c19 = false → Z l15))) (node, ([] : List Int))
theorem ancestorsOf_vc (b : Big) (node : Int) (h : ancestorsOf_pre b node) : ancestorsOf_wp b node (fun y => y = ancestorsOf b node) := by
  unfold ancestorsOf_wp
  obtain ⟨⟨hd8, hd⟩, hn⟩ := h
  refine loopW.byM (fun s => ∃ m : Nat, s.1 + 1 ≤ m ∧ s.1 < b.nodes.length ∧ s.2 ++ aboveF b m s.1 = above b node ∧ s.2.length + m ≤ b.nodes.length + 1) (fun s => (s.1 + 1).toNat) ⟨b.nodes.length + 1, by simp only; omega, hn, by simp [above], by simp⟩ ?_
  rintro ⟨cur, acc⟩ ⟨m, h1, h2, h3, h4⟩
  simp only at h1 h2 h3 h4
  simp only [forall_eq, decide_eq_true_eq, decide_eq_false_iff_not]
  refine ⟨fun h5 => ⟨by omega, by omega, ?_⟩, fun h5 => ?_⟩
  · obtain ⟨q, rfl⟩ : ∃ q : Nat, cur = q := ⟨cur.toNat, by omega⟩
    obtain ⟨m', rfl⟩ : ∃ m', m = m' + 1 := ⟨m - 1, by omega⟩
    have hp : (at' b.nodes (q : Int)).parent = parentB b q := by simp [at', parentB]
    have := hd q (by omega)
    rw [hp]
    refine ⟨⟨m', by omega, by omega, ?_, by simp; omega⟩, by omega⟩
    rw [← h3, aboveF, if_neg (by omega), Int.toNat_natCast]
    simp
  · rw [ancestorsOf, ← h3]
    cases m with
    | zero => simp [aboveF]
    | succ m => rw [aboveF, if_pos (by omega)]; simp
abbrev l2Above_pre (b : Big) (node : Int) : Prop := Down b ∧ node < b.nodes.length
abbrev l2Above (b : Big) (node : Int) := above b node
def l2Above_wp (b : Big) (node : Int) (Z : (List Int) → Prop) : Prop :=
  loopW (σ := Int × (List Int)) (fun (node14, l15) K18 => ∀ c19 : Bool, c19 = decide (0 ≤ node14) → ((c19 = true → (0 ≤ node14 ∧ node14 < b.nodes.length) ∧ ∀ x22 : GNode, x22 = at' b.nodes node14 → (l15.length + 1 ≤ 1073741824) ∧ ∀ l25 : List Int, l25 = l15 ++ [x22.parent] → K18 (x22.parent, l25)) ∧ (c19 = false → Z l15))) (node, ([] : List Int))
theorem l2Above_vc (b : Big) (node : Int) (h : l2Above_pre b node) : l2Above_wp b node (fun y => y = l2Above b node) := ancestorsOf_vc b node h
def ancestors (sig : Sig) (b : Big) (x : Int) : List Int × Bool := if goodB sig b && isNodeB b x then (above b x, true) else ([], false)
theorem ancestors_len (sig : Sig) (b : Big) (x : Int) : (ancestors sig b x).1.length ≤ 9 := by
  unfold ancestors
  split
  · rename_i h
    have hd := goodB_down (Bool.and_eq_true _ _ ▸ h).1
    have := aboveF_len b (b.nodes.length + 1) x
    have := hd.1
    simp only [above]
    omega
  · simp
abbrev AncestorsOf_pre (sig : Sig) (b : Big) (x : Int) : Prop := SmallB sig b
abbrev AncestorsOf (sig : Sig) (b : Big) (x : Int) := ancestors sig b x
def AncestorsOf_wp (sig : List Control) (b : Big) (node : Int) (Z : ((List Int) × Bool) → Prop) : Prop :=
  joinW (fun (J4 : Bool → Prop) => (SmallB sig b) ∧ ∀ r24 : Bool, r24 = goodB sig b → ((r24 = true → (b.nodes.length ≤ 1048576) ∧ ∀ r26 : Bool, r26 = isNodeB b node → J4 ((!r26))) ∧ (r24 = false → J4 (true)))) (fun b7 => ((b7 = true → Z ([], false)) ∧ (b7 = false → (ancestorsOf_pre b node) ∧ ∀ r13 : List Int, r13 = ancestorsOf b node → Z (r13, true))))
theorem AncestorsOf_vc (sig : Sig) (b : Big) (x : Int) (h : AncestorsOf_pre sig b x) : AncestorsOf_wp sig b x (fun y => y = AncestorsOf sig b x) := by
  unfold AncestorsOf_wp
  refine ⟨fun c => c = !(goodB sig b && isNodeB b x), ?_, ?_⟩
  · simp only [forall_eq]
    refine ⟨h, fun h1 => ⟨h.nodesLen, by rw [h1]; rfl⟩, fun h1 => by rw [h1]; rfl⟩
  · rintro _ rfl
    simp only [forall_eq]
    refine ⟨fun h1 => ?_, fun h1 => ?_⟩
    · rw [Bool.not_eq_true'] at h1
      rw [AncestorsOf, ancestors, h1]; rfl
    · rw [Bool.not_eq_false'] at h1
      have h2 := h1
      simp only [Bool.and_eq_true] at h2
      obtain ⟨h2, h3⟩ := h2
      simp only [isNodeB, within, Bool.and_eq_true, decide_eq_true_eq] at h3
      refine ⟨⟨goodB_down h2, by omega⟩, ?_⟩
      rw [AncestorsOf, ancestors, h1]; rfl
abbrev sAncestorsOf_pre (sig : Sig) (b : Big) (x : Int) : Prop := SmallB sig b
abbrev sAncestorsOf (sig : Sig) (b : Big) (x : Int) := ancestors sig b x
def sAncestorsOf_wp (sig : List Control) (b : Big) (node : Int) (Z : ((List Int) × Bool) → Prop) : Prop :=
  joinW (fun (J4 : Bool → Prop) => (SmallB sig b) ∧ ∀ r26 : Bool, r26 = goodB sig b → ((r26 = true → (b.nodes.length ≤ 1048576) ∧ ∀ r28 : Bool, r28 = isNodeB b node → J4 ((!r28))) ∧ (r26 = false → J4 (true)))) (fun b7 => ((b7 = true → Z (([] : List Int), false)) ∧ (b7 = false → (l2Above_pre b node) ∧ ∀ r15 : List Int, r15 = l2Above b node → Z (r15, true))))
theorem sAncestorsOf_vc (sig : Sig) (b : Big) (x : Int) (h : sAncestorsOf_pre sig b x) : sAncestorsOf_wp sig b x (fun y => y = sAncestorsOf sig b x) := AncestorsOf_vc sig b x h

abbrev EqB (x : Big) : Prop := x.nodes.length ≤ 1048576 ∧ (∀ z ∈ x.nodes, z.links.length ≤ 1048576) ∧ x.sites.length ≤ 1048576 ∧ x.outer.length ≤ 1048576 ∧ x.inner.length ≤ 1048576
theorem cntN_le : ∀ {l : List GNode}, (∀ x ∈ l, x.links.length ≤ 1048576) → cntN l ≤ 1048578 * l.length
  | [], _ => by simp [cntN]
  | x :: l, h => by
    have h1 := cntN_le (l := l) fun y hy => h y (by simp [hy])
    have h2 := h x (by simp)
    simp only [cntN, List.map_cons, List.sum_cons, List.length_cons] at h1 ⊢
    omega
def markBigraph (b : Big) (k : Int) : Int := markNn b.nodes k + b.sites.length + b.outer.length + 2 * b.inner.length
abbrev markBigraph_pre (b : Big) (k : Int) : Prop := EqB b ∧ 0 ≤ k ∧ k ≤ 1125899906842624
def markBigraph_wp (a : Big) (k_ : Int) (Z : Int → Prop) : Prop :=
  (markNn_pre a.nodes k_) ∧ ∀ r25 : Int, r25 = markNn a.nodes k_ → (markIntS_pre a.sites r25) ∧ ∀ r37 : (List Int) × Int, r37 = markIntS a.sites r25 → (markStringS_pre a.outer r37.2) ∧ ∀ r49 : (List Str) × Int, r49 = markStringS a.outer r37.2 → (markWireS_pre a.inner r49.2) ∧ ∀ r61 : (List Wire) × Int, r61 = markWireS a.inner r49.2 → Z r61.2
theorem markBigraph_vc (b : Big) (k : Int) (h : markBigraph_pre b k) : markBigraph_wp b k (fun y => y = markBigraph b k) := by
  unfold markBigraph_wp
  obtain ⟨⟨h1, h2, h3, h4, h5⟩, h6, h7⟩ := h
  have := cntN_le h2
  simp only [forall_eq, markNn_pre, markIntS_pre, markStringS_pre, markWireS_pre, MarkOk, markL, markNn, markBigraph]
  omega
def lawAncestorsOf_wp (aSig : List Control) (aB : Big) (aNode : Int) (Z : Bool → Prop) : Prop :=
  (((0 : Int) ≤ 1048576 ∧ (1048576 : Int) ≤ 1048576) ∧ HugeS aSig) ∧ ∀ r5 : Int, r5 = szS szC aSig 1048576 → ∀ c6 : Bool, c6 = decide (r5 < 0) → ((c6 = true → Z true) ∧ (c6 = false → (((0 : Int) ≤ r5 ∧ (r5 : Int) ≤ 1048576) ∧ HugeB aB) ∧ ∀ r9 : Int, r9 = szB aB r5 → ∀ c10 : Bool, c10 = decide (r9 < 0) → ((c10 = true → Z true) ∧ (c10 = false → (toControlS_pre aSig) ∧ ∀ r13 : List Control, r13 = toControlS aSig → (toBigraph_pre aB) ∧ ∀ r15 : Big, r15 = toBigraph aB → (sAncestorsOf_pre r13 r15 aNode) ∧ ∀ r17 : (List Int) × Bool, r17 = sAncestorsOf r13 r15 aNode → (toControlS_pre aSig) ∧ ∀ r20 : List Control, r20 = toControlS aSig → (toBigraph_pre aB) ∧ ∀ r30 : Big, r30 = toBigraph aB → (AncestorsOf_pre r20 r30 aNode) ∧ ∀ r64 : (List Int) × Bool, r64 = AncestorsOf r20 r30 aNode → joinW (fun (J82 : Bool → Prop) => (r64.1.length ≤ 1048576) ∧ ∀ r200 : Bool, r200 = decide (r64.1 = r17.1) → ((r200 = true → ∀ c201 : Bool, c201 = !(r64.2 == r17.2) → J82 (c201)) ∧ (r200 = false → J82 (true)))) (fun b85 => ((b85 = true → Z false) ∧ (b85 = false → (toControlS_pre aSig) ∧ ∀ r95 : List Control, r95 = toControlS aSig → (r20.length ≤ 1048576) ∧ ∀ r103 : Bool, r103 = decide (r20 = r95) → ((r103 = true → (toBigraph_pre aB) ∧ ∀ r112 : Big, r112 = toBigraph aB → (EqB r30) ∧ ∀ r114 : Bool, r114 = decide (r30 = r112) → ((r114 = true → (markControlS_pre r20 1) ∧ ∀ r116 : (List Control) × Int, r116 = markControlS r20 1 → (markBigraph_pre r30 r116.2) ∧ ∀ r130 : Int, r130 = markBigraph r30 r116.2 → joinW (fun (J145 : Bool → Prop) => ∀ c193 : Bool, c193 = decide (r130 < 0) → ((c193 = true → J145 (true)) ∧ (c193 = false → (r64.1.length ≤ 1048576) ∧ ∀ r196 : Bool, r196 = decide (r64.1 = r17.1) → ((r196 = true → ∀ c197 : Bool, c197 = !(r64.2 == r17.2) → J145 (c197)) ∧ (r196 = false → J145 (true)))))) (fun b148 => ((b148 = true → Z false) ∧ (b148 = false → (markIntS_pre r64.1 1) ∧ ∀ r153 : (List Int) × Int, r153 = markIntS r64.1 1 → (heldIntS_pre r153.1 1) ∧ ∀ r163 : Int, r163 = heldIntS r153.1 1 → ∀ c164 : Bool, c164 = decide (r163 < 0) → ((c164 = true → Z false) ∧ (c164 = false → ∀ c166 : Bool, c166 = decide (r163 ≠ r153.2) → ((c166 = true → Z false) ∧ (c166 = false → (toControlS_pre aSig) ∧ ∀ r169 : List Control, r169 = toControlS aSig → (toBigraph_pre aB) ∧ ∀ r171 : Big, r171 = toBigraph aB → (AncestorsOf_pre r169 r171 aNode) ∧ ∀ r173 : (List Int) × Bool, r173 = AncestorsOf r169 r171 aNode → joinW (fun (J176 : Bool → Prop) => (r173.1.length ≤ 1048576) ∧ ∀ r190 : Bool, r190 = decide (r173.1 = r17.1) → ((r190 = true → ∀ c191 : Bool, c191 = !(r173.2 == r17.2) → J176 (c191)) ∧ (r190 = false → J176 (true)))) (fun b179 => ((b179 = true → Z false) ∧ (b179 = false → (heldIntS_pre r153.1 1) ∧ ∀ r184 : Int, r184 = heldIntS r153.1 1 → ∀ c185 : Bool, c185 = decide (r184 < 0) → ((c185 = true → Z false) ∧ (c185 = false → ∀ c187 : Bool, c187 = decide (r184 ≠ r153.2) → ((c187 = true → Z false) ∧ (c187 = false → Z true))))))))))))))) ∧ (r114 = false → Z false))) ∧ (r103 = false → Z false)))))))))
abbrev lawAncestorsOf (_ : Sig) (_ : Big) (_ : Int) : Bool := true
abbrev lawAncestorsOf_pre (sig : Sig) (b : Big) (_ : Int) : Prop := HugeS sig ∧ HugeB b
theorem lawAncestorsOf_vc (sig : Sig) (b : Big) (x : Int) (h : lawAncestorsOf_pre sig b x) : lawAncestorsOf_wp sig b x (fun y => y = lawAncestorsOf sig b x) := by
  unfold lawAncestorsOf_wp
  simp only [forall_eq, decide_eq_true_eq, decide_eq_false_iff_not, toControlS, toBigraph, AncestorsOf, sAncestorsOf]
  refine ⟨⟨by omega, h.1⟩, fun _ => trivial, fun h1 => ?_⟩
  have hz := szS_le szC sig 1048576 (by omega)
  refine ⟨⟨by omega, h.2⟩, fun _ => trivial, fun h2 => ?_⟩
  have hS : SmallB sig b := smallB (left := 1048576) (by omega) (by omega) (by omega) (by omega) h.2
  have hB : EqB b := ⟨hS.nodesLen, hS.linksLen, hS.sitesLen, hS.outerLen, hS.innerLen⟩
  have hT : toBigraph_pre b := ⟨⟨hS.nodesLen, hS.linksLen⟩, hS.sitesLen, hS.outerLen, hS.innerLen⟩
  have hC := hS.sigLen
  have hL := ancestors_len sig b x
  refine ⟨hC, hT, hS, hC, hT, hS, fun c => c = false, ⟨by omega, fun _ => by simp, fun h => absurd trivial h⟩, ?_⟩
  rintro _ rfl
  refine ⟨fun h => (by cases h), fun _ => ⟨hC, hC, fun _ => ⟨hT, hB, fun _ => ⟨⟨by omega, by omega, by omega⟩, ⟨hB, by simp only [markL]; omega, by simp only [markL]; omega⟩, fun c => c = false, ⟨fun h => ?_, fun _ => ⟨by omega, fun _ => by simp, fun h => absurd trivial h⟩⟩, ?_⟩, fun h => absurd trivial h⟩, fun h => absurd trivial h⟩⟩
  · simp only [markBigraph, markNn, markL] at h
    omega
  rintro _ rfl
  have hm : (markIntS (ancestors sig b x).1 1).2 = 1 + 1 * (ancestors sig b x).1.length := rfl
  have hml : (markIntS (ancestors sig b x).1 1).1.length = (ancestors sig b x).1.length := marked_len _ _ _ _
  have hh := held_mark (ancestors sig b x).1 1
  refine ⟨fun h => (by cases h), fun _ => ⟨⟨by omega, by omega, by omega⟩, ⟨by omega, by omega, by omega⟩, fun h => by omega, fun _ => ⟨fun h => absurd hh h, fun _ => ⟨hC, hT, hS, fun c => c = false, ⟨by omega, fun _ => by simp, fun h => absurd trivial h⟩, ?_⟩⟩⟩⟩
  rintro _ rfl
  exact ⟨fun h => (by cases h), fun _ => ⟨⟨by omega, by omega, by omega⟩, fun h => by omega, fun _ => ⟨fun h => absurd hh h, fun _ => trivial⟩⟩⟩
end Go.Ab.Vg
