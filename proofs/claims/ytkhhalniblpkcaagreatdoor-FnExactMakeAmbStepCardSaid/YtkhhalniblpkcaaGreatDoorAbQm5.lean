/- Merged texts (5 of 11) of the proof that ends in My: V W Wb Wc Y Yb So Co Cg Cp Cq Ga Uj Uk Lm Mp Pa Ca U. -/
import Derived.Test.YtkhhalniblpkcaaGreatDoorAbQm4
import Derived.Shelf.Sort.Plain
import Derived.Laws.BytesString
/- Contracts of impl.isName, impl.IsProcess and impl.ProcessText. -/
namespace Go.Ab
open Go.Proofs
set_option linter.unusedSimpArgs false
theorem e25 : Ent Tryz.prog 25 := Ent.of Tryz.func25 (by kernel_rfl) rfl
theorem e44 : Ent Tryz.prog 44 := Ent.of Tryz.func44 (by kernel_rfl) rfl

def lower (c : UInt8) : Bool := decide (97 ≤ c.toNat) && decide (c.toNat ≤ 122)
def isNm (s : Str) : Bool := within s.length 1 4 && s.all lower
def alpha : Str := [97, 98, 99, 100, 101, 102, 103, 104, 105, 106, 107, 108, 109, 110, 111, 112, 113, 114, 115, 116, 117, 118, 119, 120, 121, 122]

set_option maxRecDepth 10000 in
theorem alpha_lower (c : UInt8) : alpha.contains c = lower c := by
  have h : ∀ n : Fin 256, alpha.contains (UInt8.ofNat n.val) = lower (UInt8.ofNat n.val) := by decide
  have := h ⟨c.toNat, c.toNat_lt⟩
  simpa using this

theorem dropWhile_nil {q : UInt8 → Bool} : ∀ l : Str, l.dropWhile q = [] ↔ l.all q = true
  | [] => by simp
  | a :: l => by
    rw [List.dropWhile_cons]
    cases h : q a <;> simp [h, dropWhile_nil l]

theorem dropWhile_last {q : UInt8 → Bool} : ∀ l : Str, (l.dropWhile q).reverse.all q = true → l.all q = true
  | [], _ => by simp
  | a :: l, h => by
    rw [List.dropWhile_cons] at h
    cases hq : q a
    · simp [hq] at h
    · simp only [hq, if_true] at h
      have := dropWhile_last l h
      simp only [List.all_cons, hq, this, Bool.and_self]

theorem trimS_nil (s : Str) : (Lib.trimS s alpha = []) ↔ s.all lower = true := by
  have he : (fun c => alpha.contains c) = lower := funext alpha_lower
  unfold Lib.trimS Lib.trimLeftS Lib.trimRightS
  rw [he, dropWhile_nil]
  constructor
  · intro h
    have := dropWhile_last _ h
    simpa using this
  · intro h
    have h2 : s.reverse.dropWhile lower = [] := by rw [dropWhile_nil]; simpa using h
    rw [h2]
    rfl

theorem isName_ok (s : Str) (hs : s.length ≤ 4294967296) : PureC Tryz.prog 44 [str s] (fun r => r = bool (isNm s)) := by
  refine PureC.of Tryz.func44 rfl Tryz.ntmps44 (by simp) fun Q hQ => ?_
  refine Runs.seqE Ty_ok (by decide) fun k' hk' => ?_
  simp   -- R0
  refine hk' _ _ _ ?_
  refine Runs.seqE Ty_ok (by decide) fun k' hk' => ?_
  simp   -- R1
  refine RunK.callA Ty_ok (within_ok s.length 1 4) e43 (.cons (.v _ _ _) (.cons (.v _ _ _) (.cons (.v _ _ _) .nil))) (by decide) (by decide) rfl (by simp) ?_
  rintro _ rfl
  cases hw : within s.length 1 4
  · simp [hw]
    refine hk' _ _ _ ?_
    exact Runs.ret Tryz.func44 (RetOk.one Tryz.results44) (hQ _ _ _ _ (.v _ _ _) (by simp [isNm, hw]))
  · simp [hw]
    refine RunK.callA Ty_ok (trim_ok s alpha (by omega) (by decide) (by decide)) e63 (.cons (.v _ _ _) (.cons (.v _ _ _) .nil)) (by decide) (by decide) rfl (by simp [alpha]) ?_
    rintro _ rfl
    simp [hw]
    refine hk' _ _ _ ?_
    refine Runs.ret Tryz.func44 (RetOk.one Tryz.results44) (hQ _ _ _ _ (.v _ _ _) ?_)
    have := trimS_nil s
    cases h : s.all lower <;> simp [h] at this <;> simp [isNm, hw, h, this]

def okNode (p : Proc) (i : Nat) : Bool := within (p.getD i default).kind 0 3 && isNm (p.getD i default).name && within (p.getD i default).parent (-1) ((i : Int) - 1)
def goodP (p : Proc) : Bool := (List.range p.length).all (okNode p) && decide (p.length ≤ 8)

theorem goodP_bad {p : Proc} {k : Nat} (hk : k < p.length) (h : okNode p k = false) : goodP p = false := by
  have : (List.range p.length).all (okNode p) = false := by
    rw [List.all_eq_false]
    exact ⟨k, List.mem_range.2 hk, by simp [h]⟩
  simp [goodP, this]

theorem goodP_end {p : Proc} (h : ∀ i, i < p.length → okNode p i = true) : goodP p = decide (p.length ≤ 8) := by
  have : (List.range p.length).all (okNode p) = true := by
    rw [List.all_eq_true]
    exact fun i hi => h i (List.mem_range.1 hi)
  simp [goodP, this]

theorem IsProcess_ok (p : Proc) (hp : p.length ≤ 1048576) (hn : ∀ i, i < p.length → (p.getD i default).name.length ≤ 4294967296) : PureC Tryz.prog 25 [encP false p] (fun r => r = bool (goodP p)) := by
  refine PureC.of Tryz.func25 rfl Tryz.ntmps25 (by simp) fun Q hQ => ?_
  refine Runs.seqE Ty_ok (by decide) fun k' hk' => ?_
  simp [encP]   -- R0
  refine hk' _ _ _ ?_
  refine Runs.seq ?_
  refine Runs.seqE Ty_ok (by decide) fun k' hk' => ?_
  simp   -- R1
  refine hk' _ _ _ ?_
  refine Runs.block (Runs.loopUp p.length (fun k ρ H n => ρ 1 = .ptr (0, 1) 1 0 0 ∧ H (0, 1) = some ⟨1, [[.list false (p.map AmbNode.cells)]]⟩ ∧ ρ 6 = .list false (p.map AmbNode.cells) ∧ ρ 7 = int p.length ∧ ρ 8 = int k ∧ ∀ i, i < k → okNode p i = true) ?_ ?_)
  · simp
  · rintro k ρ H n hk ⟨h1, hH, h6, h7, h8, hall⟩ IH
    refine Runs.seqE Ty_ok (by decide) fun k' hk' => ?_
    simp [h7, h8]   -- R2
    refine hk' _ _ _ ?_
    refine Runs.seq ?_
    refine Runs.ite rfl (fun hc1 => ?_) (fun hc1 => ?_)   -- t9
    · simp at hc1
      refine Runs.skip ?_
      refine Runs.seq ?_
      refine Runs.block ?_
      refine Runs.seqE Ty_ok (by decide) fun k' hk' => ?_
      simp [h6, h8, hc1, AmbNode.cells]   -- R3
      refine hk' _ _ _ ?_
      refine Runs.seqE Ty_ok (by decide) fun k' hk' => ?_
      simp   -- R4
      have hx : p.getD k default = p[k] := by simp [hc1]
      have hok : okNode p k = (within p[k].kind 0 3 && isNm p[k].name && within p[k].parent (-1) ((k : Int) - 1)) := by rw [okNode, hx]
      have hnm := hn k hc1
      rw [hx] at hnm
      refine RunK.callA Ty_ok (within_ok p[k].kind 0 3) e43 (.cons (.v _ _ _) (.cons (.v _ _ _) (.cons (.v _ _ _) .nil))) (by decide) (by decide) rfl (by simp) ?_
      rintro _ rfl
      cases hw : within p[k].kind 0 3
      · simp [hw]
        refine hk' _ _ _ ?_
        refine Runs.ite rfl (fun _ => ?_) (fun h => by simp at h)
        refine Runs.seqE Ty_ok (by decide) fun k' hk' => ?_
        simp   -- R5
        refine hk' _ _ _ ?_
        refine Runs.ret Tryz.func25 (RetOk.one Tryz.results25) (hQ _ _ _ _ (.v _ _ _) ?_)
        rw [goodP_bad hc1 (by rw [hok]; simp [hw])]
      · simp [hw]
        refine RunK.callA Ty_ok (isName_ok p[k].name hnm) e44 (.cons (.v _ _ _) .nil) (by decide) (by decide) rfl (by simp) ?_
        rintro _ rfl
        cases hs : isNm p[k].name
        · simp [hs]
          refine hk' _ _ _ ?_
          refine Runs.ite rfl (fun _ => ?_) (fun h => by simp at h)
          refine Runs.seqE Ty_ok (by decide) fun k' hk' => ?_
          simp   -- R5
          refine hk' _ _ _ ?_
          refine Runs.ret Tryz.func25 (RetOk.one Tryz.results25) (hQ _ _ _ _ (.v _ _ _) ?_)
          rw [goodP_bad hc1 (by rw [hok]; simp [hw, hs])]
        · simp [hs, show -9223372036854775808 ≤ (k : Int) - 1 by omega, show (k : Int) - 1 ≤ 9223372036854775807 by omega]
          refine RunK.callA Ty_ok (within_ok p[k].parent (-1) ((k : Int) - 1)) e43 (.cons (.v _ _ _) (.cons (.v _ _ _) (.cons (.v _ _ _) .nil))) (by decide) (by decide) rfl (by simp) ?_
          rintro _ rfl
          cases hu : within p[k].parent (-1) ((k : Int) - 1)
          · simp [hu]
            refine hk' _ _ _ ?_
            refine Runs.ite rfl (fun _ => ?_) (fun h => by simp at h)
            refine Runs.seqE Ty_ok (by decide) fun k' hk' => ?_
            simp   -- R5
            refine hk' _ _ _ ?_
            refine Runs.ret Tryz.func25 (RetOk.one Tryz.results25) (hQ _ _ _ _ (.v _ _ _) ?_)
            rw [goodP_bad hc1 (by rw [hok]; simp [hw, hs, hu])]
          · simp [hu]
            refine hk' _ _ _ ?_
            refine Runs.ite rfl (fun h => by simp at h) (fun _ => ?_)
            refine Runs.skip ?_
            refine Runs.inBlock ?_
            refine Runs.evalE Ty_ok (by decide) fun k' hk' => ?_
            simp [h8, wrap_succ (show k < 4611686018427387904 by omega)]   -- R6
            refine hk' _ _ _ ?_
            refine IH hc1 _ _ _ ?_
            simp [h1, hH, h6, h7]
            intro i hi
            by_cases hik : i = k
            · subst hik
              rw [hok]; simp [hw, hs, hu]
            · exact hall i (by omega)
    · simp at hc1
      refine Runs.exit rfl ?_
      refine Runs.seqE Ty_ok (by decide) fun k' hk' => ?_
      simp [h1, hH]   -- R7
      refine hk' _ _ _ ?_
      refine Runs.ret Tryz.func25 (RetOk.one Tryz.results25) (hQ _ _ _ _ (.v _ _ _) ?_)
      rw [goodP_end (by rwa [show k = p.length by omega] at hall)]
      simp
      omega

theorem goodP_valid {p : Proc} (h : goodP p = true) : Valid p := by
  simp only [goodP, Bool.and_eq_true, decide_eq_true_eq, List.all_eq_true, List.mem_range] at h
  obtain ⟨h1, h2⟩ := h
  have h3 : ∀ i, i < p.length → (0 ≤ (p.getD i default).kind ∧ (p.getD i default).kind ≤ 3) ∧ ((p.getD i default).name.length ≤ 4) ∧ (-1 ≤ (p.getD i default).parent ∧ (p.getD i default).parent < i) := by
    intro i hi
    have := h1 i hi
    simp only [okNode, isNm, within, Bool.and_eq_true, decide_eq_true_eq] at this
    obtain ⟨⟨a, b, c⟩, d⟩ := this
    exact ⟨a, by omega, by omega⟩
  exact ⟨h2, fun i hi => (h3 i hi).1, fun i hi => (h3 i hi).2.1, fun i hi => (h3 i hi).2.2⟩

def processText (p : Proc) : Str × Bool := if goodP p then (textIn p (p.length + 1) (-1), true) else ([], false)

end Go.Ab

/- Contracts of spec.l1In, spec.l2Name and spec.l12Good. -/
namespace Go.Ab
open Go.Proofs
set_option linter.unusedSimpArgs false
theorem e22 : Ent Tryz.prog 22 := Ent.of Tryz.func22 (by kernel_rfl) rfl
theorem e56 : Ent Tryz.prog 56 := Ent.of Tryz.func56 (by kernel_rfl) rfl
theorem e38 : Ent Tryz.prog 38 := Ent.of Tryz.func38 (by kernel_rfl) rfl
theorem e39 : Ent Tryz.prog 39 := Ent.of Tryz.func39 (by kernel_rfl) rfl
theorem e68 : Ent Tryz.prog 68 := Ent.of Tryz.func68 (by kernel_rfl) rfl
theorem e67 : Ent Tryz.prog 67 := Ent.of Tryz.func67 (by kernel_rfl) rfl
theorem e87 : Ent Tryz.prog 87 := Ent.of Tryz.func87 (by kernel_rfl) rfl

theorem l1In_ok (n lo hi : Int) : PureC Tryz.prog 38 [int n, int lo, int hi] (fun r => r = bool (within n lo hi)) := by
  refine PureC.of Tryz.func38 rfl Tryz.ntmps38 (by simp) fun Q hQ => ?_
  refine Runs.seqE Ty_ok (by decide) fun k' hk' => ?_
  simp
  refine hk' _ _ _ (Runs.seqE Ty_ok (by decide) fun k' hk' => ?_)
  simp
  by_cases h : lo ≤ n
  all_goals
    simp [h]
    refine hk' _ _ _ (Runs.ret Tryz.func38 (RetOk.one Tryz.results38) (hQ _ _ _ _ (ResOk.v _ _ _) ?_))
    simp [within, h]

theorem isNm_bad {s : Str} {k : Nat} (hk : k < s.length) (h : lower s[k] = false) : isNm s = false := by
  have : s.all lower = false := by
    rw [List.all_eq_false]
    exact ⟨s[k], List.getElem_mem hk, by simp [h]⟩
  simp [isNm, this]

theorem l2Name_ok (s : Str) (hs : s.length ≤ 4294967296) : PureC Tryz.prog 39 [str s] (fun r => r = bool (isNm s)) := by
  refine PureC.of Tryz.func39 rfl Tryz.ntmps39 (by simp) fun Q hQ => ?_
  refine Runs.seqE Ty_ok (by decide) fun k' hk' => ?_
  simp   -- R0
  refine hk' _ _ _ ?_
  refine Runs.seq ?_
  refine Runs.seqE Ty_ok (by decide) fun k' hk' => ?_
  simp   -- R1
  refine hk' _ _ _ ?_
  refine Runs.block (Runs.loopUp s.length (fun k ρ H n => ρ 0 = str s ∧ ρ 3 = int k ∧ (s.take k).all lower = true) ?_ ?_)
  · simp
  · rintro k ρ H n hk ⟨h0, h3, hall⟩ IH
    refine Runs.seq ?_
    refine Runs.seqE Ty_ok (by decide) fun k' hk' => ?_
    simp [h0, h3]   -- R2
    refine hk' _ _ _ ?_
    refine Runs.ite rfl (fun hc1 => ?_) (fun hc1 => ?_)   -- t7
    · simp at hc1
      refine Runs.skip ?_
      refine Runs.seq ?_
      refine Runs.block ?_
      refine Runs.seqE Ty_ok (by decide) fun k' hk' => ?_
      simp [h0, h3, hc1]   -- R4
      by_cases ha : (s[k].toNat : Int) < 97
      · simp [ha]
        refine hk' _ _ _ ?_
        refine Runs.ite rfl (fun _ => ?_) (fun h => by simp at h)
        refine Runs.seqE Ty_ok (by decide) fun k' hk' => ?_
        simp   -- R5
        refine hk' _ _ _ ?_
        refine Runs.ret Tryz.func39 (RetOk.one Tryz.results39) (hQ _ _ _ _ (.v _ _ _) ?_)
        rw [isNm_bad hc1 (by simp [lower]; omega)]
      · by_cases hz : (122 : Int) < s[k].toNat
        · simp [ha, hz, h0, h3, hc1]
          refine hk' _ _ _ ?_
          refine Runs.ite rfl (fun _ => ?_) (fun h => by simp at h)
          refine Runs.seqE Ty_ok (by decide) fun k' hk' => ?_
          simp   -- R5
          refine hk' _ _ _ ?_
          refine Runs.ret Tryz.func39 (RetOk.one Tryz.results39) (hQ _ _ _ _ (.v _ _ _) ?_)
          rw [isNm_bad hc1 (by simp [lower]; omega)]
        · simp [ha, hz, h0, h3, hc1]
          refine hk' _ _ _ ?_
          refine Runs.ite rfl (fun h => by simp at h) (fun _ => ?_)
          refine Runs.skip ?_
          refine Runs.inBlock ?_
          refine Runs.evalE Ty_ok (by decide) fun k' hk' => ?_
          simp [h3, wrap_succ (show k < 4611686018427387904 by omega)]   -- R3
          refine hk' _ _ _ ?_
          refine IH hc1 _ _ _ ?_
          rw [List.take_succ_eq_append_getElem hc1, List.all_append, hall]
          simp [h0, lower]
          omega
    · simp at hc1
      refine Runs.exit rfl ?_
      refine Runs.seqE Ty_ok (by decide) fun k' hk' => ?_
      simp [h0]   -- R6
      refine RunK.callA Ty_ok (l1In_ok s.length 1 4) e38 (.cons (.v _ _ _) (.cons (.v _ _ _) (.cons (.v _ _ _) .nil))) (by decide) (by decide) rfl (by simp) ?_
      rintro _ rfl
      simp
      refine hk' _ _ _ ?_
      refine Runs.ret Tryz.func39 (RetOk.one Tryz.results39) (hQ _ _ _ _ (.v _ _ _) ?_)
      rw [List.take_of_length_le hc1] at hall
      simp only [isNm, hall, Bool.and_true]

theorem l12Good_ok (p : Proc) (hp : p.length ≤ 1048576) (hn : ∀ i, i < p.length → (p.getD i default).name.length ≤ 4294967296) : PureC Tryz.prog 22 [encP false p] (fun r => r = bool (goodP p)) := by
  refine PureC.of Tryz.func22 rfl Tryz.ntmps22 (by simp) fun Q hQ => ?_
  refine Runs.seqE Ty_ok (by decide) fun k' hk' => ?_
  simp [encP]   -- R0
  refine hk' _ _ _ ?_
  refine Runs.seq ?_
  refine Runs.seqE Ty_ok (by decide) fun k' hk' => ?_
  simp   -- R1
  refine hk' _ _ _ ?_
  refine Runs.block (Runs.loopUp p.length (fun k ρ H n => ρ 1 = .ptr (0, 1) 1 0 0 ∧ H (0, 1) = some ⟨1, [[.list false (p.map AmbNode.cells)]]⟩ ∧ ρ 3 = int k ∧ ∀ i, i < k → okNode p i = true) ?_ ?_)
  · simp
  · rintro k ρ H n hk ⟨h1, hH, h3, hall⟩ IH
    refine Runs.seq ?_
    refine Runs.seqE Ty_ok (by decide) fun k' hk' => ?_
    simp [h1, hH, h3]   -- R2
    refine hk' _ _ _ ?_
    refine Runs.ite rfl (fun hc1 => ?_) (fun hc1 => ?_)   -- t9
    · simp at hc1
      refine Runs.skip ?_
      refine Runs.seq ?_
      refine Runs.block ?_
      refine Runs.seqE Ty_ok (by decide) fun k' hk' => ?_
      simp [h1, hH, h3, hc1, AmbNode.cells]   -- R3
      refine hk' _ _ _ ?_
      refine Runs.seqE Ty_ok (by decide) fun k' hk' => ?_
      simp   -- R4
      have hx : p.getD k default = p[k] := by simp [hc1]
      have hok : okNode p k = (within p[k].kind 0 3 && isNm p[k].name && within p[k].parent (-1) ((k : Int) - 1)) := by rw [okNode, hx]
      have hnm := hn k hc1
      rw [hx] at hnm
      refine RunK.callA Ty_ok (l1In_ok p[k].kind 0 3) e38 (.cons (.v _ _ _) (.cons (.v _ _ _) (.cons (.v _ _ _) .nil))) (by decide) (by decide) rfl (by simp) ?_
      rintro _ rfl
      cases hw : within p[k].kind 0 3
      · simp [hw]
        refine hk' _ _ _ ?_
        refine Runs.ite rfl (fun _ => ?_) (fun h => by simp at h)
        refine Runs.seqE Ty_ok (by decide) fun k' hk' => ?_
        simp   -- R5
        refine hk' _ _ _ ?_
        refine Runs.ret Tryz.func22 (RetOk.one Tryz.results22) (hQ _ _ _ _ (.v _ _ _) ?_)
        rw [goodP_bad hc1 (by rw [hok]; simp [hw])]
      · simp [hw]
        refine RunK.callA Ty_ok (l2Name_ok p[k].name hnm) e39 (.cons (.v _ _ _) .nil) (by decide) (by decide) rfl (by simp) ?_
        rintro _ rfl
        cases hs : isNm p[k].name
        · simp [hs]
          refine hk' _ _ _ ?_
          refine Runs.ite rfl (fun _ => ?_) (fun h => by simp at h)
          refine Runs.seqE Ty_ok (by decide) fun k' hk' => ?_
          simp   -- R5
          refine hk' _ _ _ ?_
          refine Runs.ret Tryz.func22 (RetOk.one Tryz.results22) (hQ _ _ _ _ (.v _ _ _) ?_)
          rw [goodP_bad hc1 (by rw [hok]; simp [hw, hs])]
        · simp [hs, h3, show -9223372036854775808 ≤ (k : Int) - 1 by omega, show (k : Int) - 1 ≤ 9223372036854775807 by omega]
          refine RunK.callA Ty_ok (l1In_ok p[k].parent (-1) ((k : Int) - 1)) e38 (.cons (.v _ _ _) (.cons (.v _ _ _) (.cons (.v _ _ _) .nil))) (by decide) (by decide) rfl (by simp) ?_
          rintro _ rfl
          cases hu : within p[k].parent (-1) ((k : Int) - 1)
          · simp [hu]
            refine hk' _ _ _ ?_
            refine Runs.ite rfl (fun _ => ?_) (fun h => by simp at h)
            refine Runs.seqE Ty_ok (by decide) fun k' hk' => ?_
            simp   -- R5
            refine hk' _ _ _ ?_
            refine Runs.ret Tryz.func22 (RetOk.one Tryz.results22) (hQ _ _ _ _ (.v _ _ _) ?_)
            rw [goodP_bad hc1 (by rw [hok]; simp [hw, hs, hu])]
          · simp [hu]
            refine hk' _ _ _ ?_
            refine Runs.ite rfl (fun h => by simp at h) (fun _ => ?_)
            refine Runs.skip ?_
            refine Runs.inBlock ?_
            refine Runs.evalE Ty_ok (by decide) fun k' hk' => ?_
            simp [h3, wrap_succ (show k < 4611686018427387904 by omega)]   -- R6
            refine hk' _ _ _ ?_
            refine IH hc1 _ _ _ ?_
            simp [h1, hH]
            intro i hi
            by_cases hik : i = k
            · subst hik
              rw [hok]; simp [hw, hs, hu]
            · exact hall i (by omega)
    · simp at hc1
      refine Runs.exit rfl ?_
      refine Runs.seqE Ty_ok (by decide) fun k' hk' => ?_
      simp [h1, hH]   -- R7
      refine hk' _ _ _ ?_
      refine Runs.ret Tryz.func22 (RetOk.one Tryz.results22) (hQ _ _ _ _ (.v _ _ _) ?_)
      rw [goodP_end (by rwa [show k = p.length by omega] at hall)]
      simp
      omega
end Go.Ab

/- Contracts of spec.l12Kids, spec.l12Word and spec.l12Around. -/
namespace Go.Ab
open Go.Proofs
set_option linter.unusedSimpArgs false

theorem l12Kids_ok (p : Proc) (parent : Int) (hp : p.length ≤ 1048576) : PureC Tryz.prog 68 [encP false p, int parent] (fun r => r = encNats true (kidsFrom p parent p.length)) := by
  refine PureC.of Tryz.func68 rfl Tryz.ntmps68 (by simp) fun Q hQ => ?_
  refine Runs.seqE Ty_ok (by decide) fun k' hk' => ?_
  simp [encP]   -- R0
  refine hk' _ _ _ ?_
  refine Runs.seqE Ty_ok (by decide) fun k' hk' => ?_
  simp   -- R1
  refine hk' _ _ _ ?_
  refine Runs.seq ?_
  refine Runs.seqE Ty_ok (by decide) fun k' hk' => ?_
  simp   -- R2
  refine hk' _ _ _ ?_
  refine Runs.block (Runs.loopUp p.length (fun k ρ H n => ρ 1 = int parent ∧ ρ 2 = .ptr (0, 2) 1 0 0 ∧ H (0, 2) = some ⟨1, [[.list false (p.map AmbNode.cells)]]⟩ ∧ ρ 6 = int k ∧ ρ 5 = .arr (1, 7) (kidsFrom p parent k).length 0 (kidsFrom p parent k).length ∧ H (1, 7) = some ⟨1, (kidsFrom p parent k).map fun (i : Nat) => [int (i : Int)]⟩) ?_ ?_)
  · simp [kidsFrom]
  · rintro k ρ H n hk ⟨h1, h2, hH2, h6, h5, hH⟩ IH
    refine Runs.seq ?_
    refine Runs.seqE Ty_ok (by decide) fun k' hk' => ?_
    simp [h2, hH2, h6]   -- R3
    refine hk' _ _ _ ?_
    refine Runs.ite rfl (fun hc1 => ?_) (fun hc1 => ?_)   -- t12
    · simp at hc1
      refine Runs.skip ?_
      refine Runs.seq ?_
      refine Runs.block ?_
      refine Runs.seqE Ty_ok (by decide) fun k' hk' => ?_
      simp [h2, hH2, h6, hc1, h1, AmbNode.cells]   -- R5
      refine hk' _ _ _ ?_
      have hks := kids_succ p parent k
      have hkl := kids_len p parent k
      simp [hc1] at hks
      refine Runs.ite rfl (fun hc2 => ?_) (fun hc2 => ?_)   -- t22
      · simp at hc2
        refine Runs.evalE Ty_ok (by decide) fun k' hk' => ?_
        simp [h5, h6, hH, show (kidsFrom p parent k).length ≤ 1073741823 by omega]   -- R6
        refine hk' _ _ _ ?_
        refine Runs.inBlock ?_
        refine Runs.evalE Ty_ok (by decide) fun k' hk' => ?_
        simp [h6, wrap_succ (show k < 4611686018427387904 by omega)]   -- R4
        refine hk' _ _ _ ?_
        refine IH hc1 _ _ _ ?_
        simp [h1, h2, hH2, hks, hc2]
      · simp at hc2
        refine Runs.skip ?_
        refine Runs.inBlock ?_
        refine Runs.evalE Ty_ok (by decide) fun k' hk' => ?_
        simp [h6, wrap_succ (show k < 4611686018427387904 by omega)]   -- R4
        refine hk' _ _ _ ?_
        refine IH hc1 _ _ _ ?_
        simp [h1, h2, hH2, hks, hc2, h5, hH]
    · simp at hc1
      have hke : k = p.length := by omega
      subst hke
      refine Runs.exit rfl ?_
      refine Runs.seqE Ty_ok (by decide) fun k' hk' => ?_
      simp [h5]   -- R7
      refine hk' _ _ _ ?_
      exact Runs.ret Tryz.func68 (RetOk.one Tryz.results68) (hQ _ _ _ _ (.of (Ret.arrF (by simp [hH]; rfl) (by simp))) rfl)

theorem l12Word_ok (k : Int) (hk : 1 ≤ k ∧ k ≤ 3) : PureC Tryz.prog 87 [int k] (fun r => r = str (word (k - 1).toNat)) := by
  refine PureC.of Tryz.func87 rfl Tryz.ntmps87 (by simp) fun Q hQ => ?_
  refine Runs.seqE Ty_ok (by decide) fun k' hk' => ?_
  simp   -- R0
  refine hk' _ _ _ ?_
  refine Runs.seq ?_
  refine Runs.seqE Ty_ok (by decide) fun k' hk' => ?_
  simp   -- R1
  refine hk' _ _ _ ?_
  refine Runs.block ?_
  have : k = 1 ∨ k = 2 ∨ k = 3 := by omega
  refine Runs.seqE Ty_ok (by decide) fun k' hk' => ?_
  simp
  refine hk' _ _ _ ?_
  refine Runs.ite rfl (fun hc1 => ?_) (fun hc1 => ?_)
  · simp at hc1
    subst hc1
    refine Runs.seqE Ty_ok (by decide) fun k' hk' => ?_
    simp
    refine hk' _ _ _ ?_
    exact Runs.ret Tryz.func87 (RetOk.one Tryz.results87) (hQ _ _ _ _ (.v _ _ _) (by simp [word]))
  · simp at hc1
    refine Runs.seqE Ty_ok (by decide) fun k' hk' => ?_
    simp
    refine hk' _ _ _ ?_
    refine Runs.ite rfl (fun hc2 => ?_) (fun hc2 => ?_)
    · simp at hc2
      subst hc2
      refine Runs.seqE Ty_ok (by decide) fun k' hk' => ?_
      simp
      refine hk' _ _ _ ?_
      exact Runs.ret Tryz.func87 (RetOk.one Tryz.results87) (hQ _ _ _ _ (.v _ _ _) (by simp [word]))
    · simp at hc2
      have : k = 3 := by omega
      subst this
      refine Runs.seqE Ty_ok (by decide) fun k' hk' => ?_
      simp
      refine hk' _ _ _ ?_
      refine Runs.ite rfl (fun _ => ?_) (fun h => by simp at h)
      refine Runs.seqE Ty_ok (by decide) fun k' hk' => ?_
      simp
      refine hk' _ _ _ ?_
      exact Runs.ret Tryz.func87 (RetOk.one Tryz.results87) (hQ _ _ _ _ (.v _ _ _) (by simp [word]))

theorem l12Around_ok (x : AmbNode) (s : Str) (hk : 0 ≤ x.kind ∧ x.kind ≤ 3) (hn : x.name.length ≤ 1073741824) (hs : s.length ≤ 1152921504606846976) : PureC Tryz.prog 67 [.agg x.cells, str s] (fun r => r = str (nodeText x s)) := by
  have hwl := word_len (x.kind - 1).toNat
  refine PureC.of Tryz.func67 rfl Tryz.ntmps67 (by simp) fun Q hQ => ?_
  refine Runs.seqE Ty_ok (by decide) fun k' hk' => ?_
  simp   -- R0
  refine hk' _ _ _ ?_
  refine Runs.seq ?_
  refine Runs.seqE Ty_ok (by decide) fun k' hk' => ?_
  simp [AmbNode.cells]   -- R1
  refine hk' _ _ _ ?_
  refine Runs.ite rfl (fun hc1 => ?_) (fun hc1 => ?_)   -- t7
  · simp at hc1
    refine Runs.seqE Ty_ok (by decide) fun k' hk' => ?_
    simp (disch := first | omega | simp) [if_pos]   -- R2
    refine hk' _ _ _ ?_
    exact Runs.ret Tryz.func67 (RetOk.one Tryz.results67) (hQ _ _ _ _ (.v _ _ _) (by simp [nodeText, hc1]))
  · simp at hc1
    refine Runs.skip ?_
    refine Runs.seqD Ty_ok kindOp_ok draws (by decide) (by kernel_rfl) fun k' hk' => ?_
    simp   -- R3
    refine RunDK.callA Ty_ok kindOp_ok (l12Word_ok x.kind (by omega)) e87 (.cons (.v _ _ _) .nil) (by decide) rfl (by simp) ?_
    generalize hw : word (x.kind - 1).toNat = w at hwl
    simp (disch := first | omega | simp) [if_pos]
    refine hk' _ _ _ ?_
    refine Runs.ret Tryz.func67 (RetOk.one Tryz.results67) (hQ _ _ _ _ (.v _ _ _) ?_)
    unfold nodeText
    rw [if_neg hc1, hw]
    simp

theorem intercalate_snoc (l : List Str) (a : Str) (h : l ≠ []) : Lib.join (l ++ [a]) [124] = Lib.join l [124] ++ [124] ++ a := by
  induction l with
  | nil => exact absurd rfl h
  | cons b l ih =>
    cases l with
    | nil => simp [Lib.join, List.intercalate]
    | cons c l =>
      have := ih (by simp)
      simp [Lib.join, List.intercalate] at this ⊢
      rw [this]
end Go.Ab

/- Contracts of spec.l12In and spec.ProcessText. -/
namespace Go.Ab
open Go.Proofs
set_option linter.unusedSimpArgs false

theorem l12In_ok {p : Proc} (hp : Valid p) : ∀ (d : Nat) (parent : Int), -1 ≤ parent → parent < p.length → (p.length : Int) - parent ≤ d → d ≤ 9 →
    PureC Tryz.prog 56 [encP false p, int parent] (fun r => r = str (textIn p d parent))
  | 0, parent, _, h1, h2, _ => by omega
  | d + 1, parent, h0, h1, h2, hd => by
    have hp8 := hp.len
    have hkl := kids_len p parent p.length
    have hpd : 8 ^ d ≤ 8 ^ 8 := Nat.pow_le_pow_right (by omega) (by omega)
    have hjl : ∀ j, (Lib.join (((kidsFrom p parent p.length).take j).map fun k => nodeText (p.getD k default) (textIn p d k)) [124]).length ≤ 4294967296 := by
      intro j
      have := join_len (((kidsFrom p parent p.length).take j).map fun k => nodeText (p.getD k default) (textIn p d k)) [124] (16 * 8 ^ d - 15 + 12) (fun s hs => by
        simp only [List.mem_map] at hs
        obtain ⟨k, hk, rfl⟩ := hs
        have h1 := nodeText_len (p.getD k default) (textIn p d k) (hp.name k (kids_mem (List.mem_of_mem_take hk)).1)
        have h2 := textIn_len hp d k
        omega)
      simp only [List.length_map, List.length_singleton, List.length_take] at this
      have hm : min j (kidsFrom p parent p.length).length * (16 * 8 ^ d - 15 + 12 + 1) ≤ 8 * (16 * 8 ^ d - 15 + 12 + 1) := Nat.mul_le_mul_right _ (by omega)
      omega
    refine PureC.of Tryz.func56 rfl Tryz.ntmps56 (by simp) fun Q hQ => ?_
    refine Runs.seqE Ty_ok (by decide) fun k' hk' => ?_
    simp [encP]   -- R0
    refine hk' _ _ _ ?_
    refine Runs.seqE Ty_ok (by decide) fun k' hk' => ?_
    simp   -- R1
    refine RunK.callA Ty_ok (l12Kids_ok p parent (by omega)) e68 (.cons (ArgOk.encP false p) (.cons (.v _ _ _) .nil)) (by decide) (by decide) rfl (by simp [encP]) ?_
    rintro _ rfl
    simp [encNats]
    refine hk' _ _ _ ?_
    refine Runs.seq ?_
    refine Runs.seqE Ty_ok (by decide) fun k' hk' => ?_
    simp   -- R2
    refine hk' _ _ _ ?_
    refine Runs.block (Runs.loopUp (kidsFrom p parent p.length).length (fun k ρ H n => ρ 2 = .ptr (0, 2) 1 0 0 ∧ H (0, 2) = some ⟨1, [[.list false (p.map AmbNode.cells)]]⟩ ∧ ρ 5 = .list true ((kidsFrom p parent p.length).map fun (i : Nat) => [int (i : Int)]) ∧ ρ 7 = int k ∧ ρ 6 = str (Lib.join (((kidsFrom p parent p.length).take k).map fun i => nodeText (p.getD i default) (textIn p d i)) [124])) ?_ ?_)
    · simp [Lib.join]
    · rintro k ρ H n hk ⟨h2, hH2, h5, h7, h6⟩ IH
      refine Runs.seq ?_
      refine Runs.seqE Ty_ok (by decide) fun k' hk' => ?_
      simp [h5, h7]   -- R3
      refine hk' _ _ _ ?_
      refine Runs.ite rfl (fun hc1 => ?_) (fun hc1 => ?_)   -- t14
      · simp at hc1
        have him : (kidsFrom p parent p.length)[k] ∈ kidsFrom p parent p.length := List.getElem_mem hc1
        have hsk : (kidsFrom p parent p.length).take (k + 1) = (kidsFrom p parent p.length).take k ++ [(kidsFrom p parent p.length)[k]] := List.take_succ_eq_append_getElem hc1
        obtain ⟨i, hgk⟩ : ∃ i, (kidsFrom p parent p.length)[k] = i := ⟨_, rfl⟩
        rw [hgk] at him hsk
        obtain ⟨hilt, hip⟩ := kids_mem him
        have hup := hp.up i hilt
        have hkd := hp.kind i hilt
        have hnm := hp.name i hilt
        have htl := textIn_len hp d i
        have hjk := hjl k
        have hntl := nodeText_len (p.getD i default) (textIn p d i) hnm
        refine Runs.skip ?_
        refine Runs.seq ?_
        refine Runs.block ?_
        refine Runs.seq ?_
        refine Runs.seqE Ty_ok (by decide) fun k' hk' => ?_
        simp [h7]   -- R5
        refine hk' _ _ _ ?_
        refine Runs.ite rfl (fun hc2 => ?_) (fun hc2 => ?_)   -- t18
        · simp at hc2
          have hkz : ¬ ((kidsFrom p parent p.length).take k = []) := by
            intro he
            have := congrArg List.length he
            rw [List.length_take] at this
            simp only [List.length_nil] at this
            omega
          have hjs : Lib.join (((kidsFrom p parent p.length).take (k + 1)).map fun i => nodeText (p.getD i default) (textIn p d i)) [124] = Lib.join (((kidsFrom p parent p.length).take k).map fun i => nodeText (p.getD i default) (textIn p d i)) [124] ++ [124] ++ nodeText (p.getD i default) (textIn p d i) := by
            rw [hsk, List.map_append, List.map_singleton, intercalate_snoc _ _ (by simpa using hkz)]
          generalize hj0 : Lib.join (((kidsFrom p parent p.length).take k).map fun i => nodeText (p.getD i default) (textIn p d i)) [124] = s0 at hjk hjs h6
          refine Runs.evalE Ty_ok (by decide) fun k' hk' => ?_
          simp (disch := first | omega | simp) [h6, if_pos]   -- R6
          refine hk' _ _ _ ?_
          refine Runs.evalDE Ty_ok kindOp_ok draws (by decide) (by kernel_rfl) fun k' hk' => ?_
          simp [h2, hH2, h5, h7, hc1, hilt, hgk, AmbNode.cells]   -- R7
          refine RunDK.callA Ty_ok kindOp_ok (l12In_ok hp d i (by omega) (by omega) (by omega) (by omega)) e56 (.cons (ArgOk.encP false p) (.cons (.v _ _ _) .nil)) (by decide) rfl (by simp [encP, AmbNode.cells]) ?_
          simp
          refine RunDK.callA Ty_ok kindOp_ok (l12Around_ok (p.getD i default) (textIn p d i) hkd (by omega) (by omega)) e67 (.cons (ArgOk.node _) (.cons (.v _ _ _) .nil)) (by decide) rfl (by simp [AmbNode.cells, hilt]) ?_
          generalize hnt : nodeText (p.getD i default) (textIn p d i) = t0 at hntl hjs
          simp (disch := first | omega | simp) [if_pos]
          refine hk' _ _ _ ?_
          refine Runs.inBlock ?_
          refine Runs.evalE Ty_ok (by decide) fun k' hk' => ?_
          simp [h7, wrap_succ (show k < 4611686018427387904 by omega)]   -- R4
          refine hk' _ _ _ ?_
          refine IH hc1 _ _ _ ?_
          rw [hjs]
          simp [h2, hH2, h5]
        · simp at hc2
          subst hc2
          simp [Lib.join] at h6
          refine Runs.skip ?_
          refine Runs.evalDE Ty_ok kindOp_ok draws (by decide) (by kernel_rfl) fun k' hk' => ?_
          simp [h2, hH2, h5, h6, h7, hc1, hilt, hgk, AmbNode.cells]   -- R7
          refine RunDK.callA Ty_ok kindOp_ok (l12In_ok hp d i (by omega) (by omega) (by omega) (by omega)) e56 (.cons (ArgOk.encP false p) (.cons (.v _ _ _) .nil)) (by decide) rfl (by simp [encP, AmbNode.cells]) ?_
          simp
          refine RunDK.callA Ty_ok kindOp_ok (l12Around_ok (p.getD i default) (textIn p d i) hkd (by omega) (by omega)) e67 (.cons (ArgOk.node _) (.cons (.v _ _ _) .nil)) (by decide) rfl (by simp [AmbNode.cells, hilt]) ?_
          generalize hnt : nodeText (p.getD i default) (textIn p d i) = t0 at hntl
          simp (disch := first | omega | simp) [if_pos]
          refine hk' _ _ _ ?_
          refine Runs.inBlock ?_
          refine Runs.evalE Ty_ok (by decide) fun k' hk' => ?_
          simp [h7]   -- R4
          refine hk' _ _ _ ?_
          refine IH hc1 _ _ _ ?_
          rw [hsk, List.map_append, List.map_singleton, hnt]
          simp [h2, hH2, h5, Lib.join]
      · simp at hc1
        have hke : k = (kidsFrom p parent p.length).length := by omega
        subst hke
        rw [List.take_length] at h6
        refine Runs.exit rfl ?_
        refine Runs.seq ?_
        refine Runs.seqE Ty_ok (by decide) fun k' hk' => ?_
        simp [h5]   -- R8
        refine hk' _ _ _ ?_
        refine Runs.ite rfl (fun hc3 => ?_) (fun hc3 => ?_)   -- t40
        · simp at hc3
          refine Runs.seqE Ty_ok (by decide) fun k' hk' => ?_
          simp   -- R9
          refine hk' _ _ _ ?_
          exact Runs.ret Tryz.func56 (RetOk.one Tryz.results56) (hQ _ _ _ _ (.v _ _ _) (by simp [textIn, joinTexts, hc3]))
        · simp at hc3
          refine Runs.skip ?_
          refine Runs.seqE Ty_ok (by decide) fun k' hk' => ?_
          simp [h6]   -- R10
          refine hk' _ _ _ ?_
          exact Runs.ret Tryz.func56 (RetOk.one Tryz.results56) (hQ _ _ _ _ (.v _ _ _) (by simp [textIn, joinTexts, hc3]))

end Go.Ab

/- Contracts of laws.szAmbNode, laws.szAmbNodeS and laws.szProcess. -/
namespace Go.Ab
open Go.Proofs
set_option linter.unusedSimpArgs false
theorem e6 : Ent Tryz.prog 6 := Ent.of Tryz.func6 (by kernel_rfl) rfl
theorem e8 : Ent Tryz.prog 8 := Ent.of Tryz.func8 (by kernel_rfl) rfl
theorem e10 : Ent Tryz.prog 10 := Ent.of Tryz.func10 (by kernel_rfl) rfl
theorem e21 : Ent Tryz.prog 21 := Ent.of Tryz.func21 (by kernel_rfl) rfl
theorem e24 : Ent Tryz.prog 24 := Ent.of Tryz.func24 (by kernel_rfl) rfl
theorem e27 : Ent Tryz.prog 27 := Ent.of Tryz.func27 (by kernel_rfl) rfl
theorem e37 : Ent Tryz.prog 37 := Ent.of Tryz.func37 (by kernel_rfl) rfl
theorem e42 : Ent Tryz.prog 42 := Ent.of Tryz.func42 (by kernel_rfl) rfl
theorem e46 : Ent Tryz.prog 46 := Ent.of Tryz.func46 (by kernel_rfl) rfl

def szStr (s : Str) (left : Int) : Int := if left - s.length < 0 then -1 else left - s.length
def szNodes : Proc → Int → Int
  | [], left => left
  | x :: r, left => if szStr x.name left < 0 then -1 else szNodes r (szStr x.name left)
def szProc (p : Proc) (left : Int) : Int := if left - p.length < 0 then -1 else szNodes p (left - p.length)
def Small (p : Proc) : Prop := p.length ≤ 9223372036854775807 ∧ ∀ x ∈ p, x.name.length ≤ 9223372036854775807

theorem szAmbNode_ok (x : AmbNode) (left : Int) (h0 : 0 ≤ left) (h1 : left ≤ 1048576) (hn : x.name.length ≤ 9223372036854775807) : PureC Tryz.prog 37 [.agg x.cells, int left] (fun r => r = int (szStr x.name left)) := by
  refine PureC.of Tryz.func37 rfl Tryz.ntmps37 (by simp) fun Q hQ => ?_
  refine Runs.seqE Ty_ok (by decide) fun k' hk' => ?_
  simp   -- R0
  refine hk' _ _ _ ?_
  refine Runs.seqE Ty_ok (by decide) fun k' hk' => ?_
  simp [AmbNode.cells, show -9223372036854775808 ≤ left - x.name.length by omega, show left - x.name.length ≤ 9223372036854775807 by omega]   -- R1
  refine hk' _ _ _ ?_
  refine Runs.seq ?_
  refine Runs.seqE Ty_ok (by decide) fun k' hk' => ?_
  simp   -- R2
  refine hk' _ _ _ ?_
  refine Runs.ite rfl (fun hc1 => ?_) (fun hc1 => ?_)   -- t11
  · simp only [decide_eq_true_eq] at hc1
    refine Runs.seqE Ty_ok (by decide) fun k' hk' => ?_
    simp   -- R3
    refine hk' _ _ _ ?_
    refine Runs.ret Tryz.func37 (RetOk.one Tryz.results37) (hQ _ _ _ _ (.v _ _ _) ?_)
    rw [szStr, if_pos hc1]
  · simp only [decide_eq_false_iff_not] at hc1
    refine Runs.skip ?_
    refine Runs.seqE Ty_ok (by decide) fun k' hk' => ?_
    simp   -- R4
    refine hk' _ _ _ ?_
    refine Runs.ret Tryz.func37 (RetOk.one Tryz.results37) (hQ _ _ _ _ (.v _ _ _) ?_)
    rw [szStr, if_neg hc1]

theorem szAmbNodeS_ok (p : Proc) (left : Int) (h0 : 0 ≤ left) (h1 : left ≤ 1048576) (hp : Small p) : PureC Tryz.prog 21 [.list false (p.map AmbNode.cells), int left] (fun r => r = int (szProc p left)) := by
  obtain ⟨hp1, hp2⟩ := hp
  refine PureC.of Tryz.func21 rfl Tryz.ntmps21 (by simp) fun Q hQ => ?_
  refine Runs.seqE Ty_ok (by decide) fun k' hk' => ?_
  simp   -- R0
  refine hk' _ _ _ ?_
  refine Runs.seqE Ty_ok (by decide) fun k' hk' => ?_
  simp [show -9223372036854775808 ≤ left - p.length by omega, show left - p.length ≤ 9223372036854775807 by omega]   -- R1
  refine hk' _ _ _ ?_
  refine Runs.seq ?_
  refine Runs.seqE Ty_ok (by decide) fun k' hk' => ?_
  simp   -- R2
  refine hk' _ _ _ ?_
  refine Runs.ite rfl (fun hc1 => ?_) (fun hc1 => ?_)   -- t11
  · simp only [decide_eq_true_eq] at hc1
    refine Runs.seqE Ty_ok (by decide) fun k' hk' => ?_
    simp   -- R3
    refine hk' _ _ _ ?_
    refine Runs.ret Tryz.func21 (RetOk.one Tryz.results21) (hQ _ _ _ _ (.v _ _ _) ?_)
    rw [szProc, if_pos hc1]
  · simp only [decide_eq_false_iff_not] at hc1
    refine Runs.skip ?_
    refine Runs.seq ?_
    refine Runs.seqE Ty_ok (by decide) fun k' hk' => ?_
    simp   -- R4
    refine hk' _ _ _ ?_
    refine Runs.block (Runs.loopUp p.length (fun k ρ H n => ρ 0 = .list false (p.map AmbNode.cells) ∧ ρ 5 = int k ∧ ∃ cur : Int, ρ 1 = int cur ∧ 0 ≤ cur ∧ cur ≤ left ∧ szNodes (p.drop k) cur = szProc p left) ?_ ?_)
    · simp [szProc, hc1]
      omega
    · rintro k ρ H n hk ⟨h0, h5, cur, h1', hcur, hcl, hsz⟩ IH
      refine Runs.seq ?_
      refine Runs.seqE Ty_ok (by decide) fun k' hk' => ?_
      simp [h0, h5]   -- R5
      refine hk' _ _ _ ?_
      refine Runs.ite rfl (fun hc2 => ?_) (fun hc2 => ?_)   -- t15
      · simp at hc2
        refine Runs.skip ?_
        refine Runs.seq ?_
        refine Runs.block ?_
        refine Runs.seqE Ty_ok (by decide) fun k' hk' => ?_
        simp [h0, h5, h1', hc2, AmbNode.cells]   -- R7
        refine RunK.callA Ty_ok (szAmbNode_ok p[k] cur hcur (by omega) (hp2 _ (List.getElem_mem hc2))) e37 (.cons (ArgOk.node _) (.cons (.v _ _ _) .nil)) (by decide) (by decide) rfl (by simp [AmbNode.cells, h1']) ?_
        rintro _ rfl
        simp
        refine hk' _ _ _ ?_
        rw [List.drop_eq_getElem_cons hc2, szNodes] at hsz
        refine Runs.seqE Ty_ok (by decide) fun k' hk' => ?_
        simp   -- R8
        refine hk' _ _ _ ?_
        refine Runs.ite rfl (fun hc3 => ?_) (fun hc3 => ?_)   -- t25
        · simp only [decide_eq_true_eq] at hc3
          rw [if_pos hc3] at hsz
          refine Runs.seqE Ty_ok (by decide) fun k' hk' => ?_
          simp   -- R9
          refine hk' _ _ _ ?_
          exact Runs.ret Tryz.func21 (RetOk.one Tryz.results21) (hQ _ _ _ _ (.v _ _ _) (by rw [← hsz]))
        · simp only [decide_eq_false_iff_not] at hc3
          rw [if_neg hc3] at hsz
          refine Runs.skip ?_
          refine Runs.inBlock ?_
          refine Runs.evalE Ty_ok (by decide) fun k' hk' => ?_
          simp [h5, wrap_succ (show k < 4611686018427387904 by omega)]   -- R6
          refine hk' _ _ _ ?_
          refine IH hc2 _ _ _ ?_
          have hle : szStr p[k].name cur ≤ left := by
            unfold szStr
            split <;> omega
          exact ⟨by simp [h0], by simp, szStr p[k].name cur, by simp, by omega, hle, hsz⟩
      · simp at hc2
        have hke : k = p.length := by omega
        subst hke
        rw [List.drop_length, szNodes] at hsz
        refine Runs.exit rfl ?_
        refine Runs.seqE Ty_ok (by decide) fun k' hk' => ?_
        simp [h1']   -- R10
        refine hk' _ _ _ ?_
        exact Runs.ret Tryz.func21 (RetOk.one Tryz.results21) (hQ _ _ _ _ (.v _ _ _) (by rw [hsz]))

theorem szProcess_ok (p : Proc) (left : Int) (h0 : 0 ≤ left) (h1 : left ≤ 1048576) (hp : Small p) : PureC Tryz.prog 6 [encP false p, int left] (fun r => r = int (if szProc p left < 0 then -1 else szProc p left)) := by
  refine PureC.of Tryz.func6 rfl Tryz.ntmps6 (by simp) fun Q hQ => ?_
  refine Runs.seqE Ty_ok (by decide) fun k' hk' => ?_
  simp [encP]   -- R0
  refine hk' _ _ _ ?_
  refine Runs.seqE Ty_ok (by decide) fun k' hk' => ?_
  simp   -- R1
  refine RunK.callA Ty_ok (szAmbNodeS_ok p left h0 h1 hp) e21 (.cons (.listF (fr := false) (by simp [AmbNode.cells])) (.cons (.v _ _ _) .nil)) (by decide) (by decide) rfl (by simp) ?_
  rintro _ rfl
  simp
  refine hk' _ _ _ ?_
  refine Runs.seq ?_
  refine Runs.seqE Ty_ok (by decide) fun k' hk' => ?_
  simp   -- R2
  refine hk' _ _ _ ?_
  refine Runs.ite rfl (fun hc1 => ?_) (fun hc1 => ?_)   -- t10
  · simp only [decide_eq_true_eq] at hc1
    refine Runs.seqE Ty_ok (by decide) fun k' hk' => ?_
    simp   -- R3
    refine hk' _ _ _ ?_
    exact Runs.ret Tryz.func6 (RetOk.one Tryz.results6) (hQ _ _ _ _ (.v _ _ _) (by rw [if_pos hc1]))
  · simp only [decide_eq_false_iff_not] at hc1
    refine Runs.skip ?_
    refine Runs.seqE Ty_ok (by decide) fun k' hk' => ?_
    simp   -- R4
    refine hk' _ _ _ ?_
    exact Runs.ret Tryz.func6 (RetOk.one Tryz.results6) (hQ _ _ _ _ (.v _ _ _) (by rw [if_neg hc1]))

theorem szNodes_le : ∀ (p : Proc) (left : Int), 0 ≤ szNodes p left → ∀ x ∈ p, (x.name.length : Int) ≤ left
  | [], _, _, x, hx => by simp at hx
  | y :: r, left, h, x, hx => by
    rw [szNodes] at h
    split at h
    · omega
    · rename_i h2
      have h3 : szStr y.name left = left - y.name.length := by
        unfold szStr at h2 ⊢
        split <;> rename_i h4
        · rw [if_pos h4] at h2; omega
        · rfl
      rcases List.mem_cons.1 hx with rfl | hx
      · rw [h3] at h2; omega
      · have := szNodes_le r _ h x hx
        rw [h3] at this
        omega

theorem szProc_le {p : Proc} {left : Int} (h : 0 ≤ szProc p left) : (p.length : Int) ≤ left ∧ ∀ x ∈ p, (x.name.length : Int) ≤ left := by
  unfold szProc at h
  split at h
  · omega
  · exact ⟨by omega, fun x hx => by have := szNodes_le p _ h x hx; omega⟩
end Go.Ab

/- Contracts of laws.toAmbNode, laws.toProcess, laws.eqAmbNode and laws.eqProcess. -/
namespace Go.Ab
open Go.Proofs
set_option linter.unusedSimpArgs false

theorem toAmbNode_ok (x : AmbNode) : PureC Tryz.prog 42 [.agg x.cells] (fun r => r = .agg x.cells) := by
  refine PureC.of Tryz.func42 rfl Tryz.ntmps42 (by simp) fun Q hQ => ?_
  refine Runs.seqE Ty_ok (by decide) fun k' hk' => ?_
  simp [AmbNode.cells]   -- R0
  refine hk' _ _ _ ?_
  refine Runs.seqE Ty_ok (by decide) fun k' hk' => ?_
  simp   -- R1
  refine hk' _ _ _ ?_
  refine Runs.seqE Ty_ok (by decide) fun k' hk' => ?_
  simp   -- R2
  refine hk' _ _ _ ?_
  refine Runs.seqE Ty_ok (by decide) fun k' hk' => ?_
  simp   -- R3
  refine hk' _ _ _ ?_
  refine Runs.seqE Ty_ok (by decide) fun k' hk' => ?_
  simp   -- R4
  refine hk' _ _ _ ?_
  refine Runs.seqE Ty_ok (by decide) fun k' hk' => ?_
  simp   -- R5
  refine hk' _ _ _ ?_
  exact Runs.ret Tryz.func42 (RetOk.cell (cs := x.cells) (v := .agg x.cells) Ty_ok Tryz.results42 Ty_63 (by simp [AmbNode.cells]) (by simp [loadA, AmbNode.cells])) (hQ _ _ _ _ (.of (Ret.fresh (by simp [AmbNode.cells]))) rfl)

theorem toAmbNodeS_ok (p : Proc) (hp : p.length ≤ 1048576) : PureC Tryz.prog 24 [.list false (p.map AmbNode.cells)] (fun r => r = .list true (p.map AmbNode.cells)) := by
  refine PureC.of Tryz.func24 rfl Tryz.ntmps24 (by simp) fun Q hQ => ?_
  refine Runs.seqE Ty_ok (by decide) fun k' hk' => ?_
  simp   -- R0
  refine hk' _ _ _ ?_
  refine Runs.seqE Ty_ok (by decide) fun k' hk' => ?_
  simp [show (p.length : Int) ≤ 1073741824 by omega]   -- R1
  refine hk' _ _ _ ?_
  refine Runs.seq ?_
  refine Runs.seqE Ty_ok (by decide) fun k' hk' => ?_
  simp   -- R2
  refine hk' _ _ _ ?_
  refine Runs.block (Runs.loopUp p.length (fun k ρ H n => ρ 0 = .list false (p.map AmbNode.cells) ∧ ρ 4 = int k ∧ ρ 3 = .arr (0, 7) p.length 0 p.length ∧ H (0, 7) = some ⟨3, part AmbNode.cells (AmbNode.cells ⟨0, [], 0⟩) p k⟩) ?_ ?_)
  · simp [AmbNode.cells, part_zero]
  · rintro k ρ H n hk ⟨h0, h4, h3, hH⟩ IH
    refine Runs.seq ?_
    refine Runs.seqE Ty_ok (by decide) fun k' hk' => ?_
    simp [h0, h4]   -- R3
    refine hk' _ _ _ ?_
    refine Runs.ite rfl (fun hc1 => ?_) (fun hc1 => ?_)   -- t11
    · simp at hc1
      refine Runs.skip ?_
      refine Runs.seq ?_
      refine Runs.block ?_
      refine Runs.evalE Ty_ok (by decide) fun k' hk' => ?_
      simp [h0, h3, h4, hc1, AmbNode.cells]   -- R5
      refine RunK.callA Ty_ok (toAmbNode_ok p[k]) e42 (.cons (ArgOk.node _) .nil) (by decide) (by decide) rfl (by simp [AmbNode.cells]) ?_
      rintro _ rfl
      simp [h3, h4, hH, hc1, part_len hk, part_get hc1, AmbNode.cells]
      refine hk' _ _ _ ?_
      refine Runs.inBlock ?_
      refine Runs.evalE Ty_ok (by decide) fun k' hk' => ?_
      simp [h4, wrap_succ (show k < 4611686018427387904 by omega)]   -- R4
      refine hk' _ _ _ ?_
      refine IH hc1 _ _ _ ?_
      rw [← part_set hc1]
      simp [h0, h3, AmbNode.cells, part_get' hc1]
    · simp at hc1
      have hke : k = p.length := by omega
      subst hke
      rw [part_end] at hH
      refine Runs.exit rfl ?_
      refine Runs.seqE Ty_ok (by decide) fun k' hk' => ?_
      simp [h3]   -- R6
      refine hk' _ _ _ ?_
      exact Runs.ret Tryz.func24 (RetOk.one Tryz.results24) (hQ _ _ _ _ (.of (Ret.arrF (by simp [hH]; rfl) (by simp [AmbNode.cells]))) rfl)

theorem toProcess_ok (p : Proc) (hp : p.length ≤ 1048576) : PureC Tryz.prog 8 [encP false p] (fun r => r = encP true p) := by
  refine PureC.of Tryz.func8 rfl Tryz.ntmps8 (by simp) fun Q hQ => ?_
  refine Runs.seqE Ty_ok (by decide) fun k' hk' => ?_
  simp [encP]   -- R0
  refine hk' _ _ _ ?_
  refine Runs.seqE Ty_ok (by decide) fun k' hk' => ?_
  simp   -- R1
  refine hk' _ _ _ ?_
  refine Runs.seqE Ty_ok (by decide) fun k' hk' => ?_
  simp   -- R2
  refine RunK.callA Ty_ok (toAmbNodeS_ok p hp) e24 (.cons (.listF (fr := false) (by simp [AmbNode.cells])) .nil) (by decide) (by decide) rfl (by simp) ?_
  rintro _ rfl
  simp
  refine hk' _ _ _ ?_
  refine Runs.seqE Ty_ok (by decide) fun k' hk' => ?_
  simp   -- R3
  refine hk' _ _ _ ?_
  exact Runs.ret Tryz.func8 (RetOk.cell (cs := [.list true (p.map AmbNode.cells)]) (v := encP true p) Ty_ok Tryz.results8 Ty_28 (by simp) (by simp [loadA, encP])) (hQ _ _ _ _ (.of (Ret.fresh (by simp [encP, AmbNode.cells]))) rfl)

theorem eqAmbNode_ok (x y : AmbNode) : PureC Tryz.prog 46 [.agg x.cells, .agg y.cells] (fun r => r = bool (decide (x = y))) := by
  obtain ⟨k1, n1, p1⟩ := x
  obtain ⟨k2, n2, p2⟩ := y
  refine PureC.of Tryz.func46 rfl Tryz.ntmps46 (by simp) fun Q hQ => ?_
  refine Runs.seqE Ty_ok (by decide) fun k' hk' => ?_
  simp [AmbNode.cells]   -- R0
  refine hk' _ _ _ ?_
  refine Runs.seq ?_
  refine Runs.seqE Ty_ok (by decide) fun k' hk' => ?_
  simp   -- R1
  refine hk' _ _ _ ?_
  refine Runs.ite rfl (fun hc1 => ?_) (fun hc1 => ?_)   -- t9
  · simp at hc1
    refine Runs.seqE Ty_ok (by decide) fun k' hk' => ?_
    simp   -- R2
    refine hk' _ _ _ ?_
    exact Runs.ret Tryz.func46 (RetOk.one Tryz.results46) (hQ _ _ _ _ (.v _ _ _) (by simp [hc1]))
  · simp at hc1
    refine Runs.skip ?_
    refine Runs.seq ?_
    refine Runs.seqE Ty_ok (by decide) fun k' hk' => ?_
    simp   -- R3
    refine hk' _ _ _ ?_
    refine Runs.ite rfl (fun hc2 => ?_) (fun hc2 => ?_)   -- t14
    · simp at hc2
      refine Runs.seqE Ty_ok (by decide) fun k' hk' => ?_
      simp   -- R4
      refine hk' _ _ _ ?_
      exact Runs.ret Tryz.func46 (RetOk.one Tryz.results46) (hQ _ _ _ _ (.v _ _ _) (by simp [hc2]))
    · simp at hc2
      refine Runs.skip ?_
      refine Runs.seq ?_
      refine Runs.seqE Ty_ok (by decide) fun k' hk' => ?_
      simp   -- R5
      refine hk' _ _ _ ?_
      refine Runs.ite rfl (fun hc3 => ?_) (fun hc3 => ?_)   -- t19
      · simp at hc3
        refine Runs.seqE Ty_ok (by decide) fun k' hk' => ?_
        simp   -- R6
        refine hk' _ _ _ ?_
        exact Runs.ret Tryz.func46 (RetOk.one Tryz.results46) (hQ _ _ _ _ (.v _ _ _) (by simp [hc3]))
      · simp at hc3
        refine Runs.skip ?_
        refine Runs.seqE Ty_ok (by decide) fun k' hk' => ?_
        simp   -- R7
        refine hk' _ _ _ ?_
        exact Runs.ret Tryz.func46 (RetOk.one Tryz.results46) (hQ _ _ _ _ (.v _ _ _) (by simp [hc1, hc2, hc3]))

theorem eqAmbNodeS_ok (p q : Proc) (hp : p.length ≤ 1048576) : PureC Tryz.prog 27 [.list false (p.map AmbNode.cells), .list false (q.map AmbNode.cells)] (fun r => r = bool (decide (p = q))) := by
  refine PureC.of Tryz.func27 rfl Tryz.ntmps27 (by simp) fun Q hQ => ?_
  refine Runs.seqE Ty_ok (by decide) fun k' hk' => ?_
  simp   -- R0
  refine hk' _ _ _ ?_
  refine Runs.seq ?_
  refine Runs.seqE Ty_ok (by decide) fun k' hk' => ?_
  simp   -- R1
  refine hk' _ _ _ ?_
  refine Runs.ite rfl (fun hc1 => ?_) (fun hc1 => ?_)   -- t10
  · simp at hc1
    refine Runs.seqE Ty_ok (by decide) fun k' hk' => ?_
    simp   -- R2
    refine hk' _ _ _ ?_
    refine Runs.ret Tryz.func27 (RetOk.one Tryz.results27) (hQ _ _ _ _ (.v _ _ _) ?_)
    have : p ≠ q := by intro h; subst h; omega
    simp [this]
  · simp at hc1
    have hlen : p.length = q.length := by omega
    refine Runs.skip ?_
    refine Runs.seq ?_
    refine Runs.seqE Ty_ok (by decide) fun k' hk' => ?_
    simp   -- R3
    refine hk' _ _ _ ?_
    refine Runs.block (Runs.loopUp p.length (fun k ρ H n => ρ 0 = .list false (p.map AmbNode.cells) ∧ ρ 1 = .list false (q.map AmbNode.cells) ∧ ρ 5 = int k ∧ p.take k = q.take k) ?_ ?_)
    · simp
    · rintro k ρ H n hk ⟨h0, h1, h5, heq⟩ IH
      refine Runs.seq ?_
      refine Runs.seqE Ty_ok (by decide) fun k' hk' => ?_
      simp [h0, h5]   -- R4
      refine hk' _ _ _ ?_
      refine Runs.ite rfl (fun hc2 => ?_) (fun hc2 => ?_)   -- t14
      · simp at hc2
        have hq2 : k < q.length := by omega
        refine Runs.skip ?_
        refine Runs.seq ?_
        refine Runs.block ?_
        refine Runs.seqD Ty_ok kindOp_ok draws (by decide) (by kernel_rfl) fun k' hk' => ?_
        simp [h0, h1, h5, hc2, hq2, AmbNode.cells]   -- R6
        refine RunDK.callA Ty_ok kindOp_ok (eqAmbNode_ok p[k] q[k]) e46 (.cons (ArgOk.node _) (.cons (ArgOk.node _) .nil)) (by decide) rfl (by simp [AmbNode.cells]) ?_
        simp
        refine hk' _ _ _ ?_
        refine Runs.ite rfl (fun hc3 => ?_) (fun hc3 => ?_)   -- t26
        · simp at hc3
          refine Runs.seqE Ty_ok (by decide) fun k' hk' => ?_
          simp   -- R7
          refine hk' _ _ _ ?_
          refine Runs.ret Tryz.func27 (RetOk.one Tryz.results27) (hQ _ _ _ _ (.v _ _ _) ?_)
          have : p ≠ q := by intro h; subst h; exact hc3 rfl
          simp [this]
        · simp at hc3
          refine Runs.skip ?_
          refine Runs.inBlock ?_
          refine Runs.evalE Ty_ok (by decide) fun k' hk' => ?_
          simp [h5, wrap_succ (show k < 4611686018427387904 by omega)]   -- R5
          refine hk' _ _ _ ?_
          refine IH hc2 _ _ _ ?_
          refine ⟨by simp [h0], by simp [h1], by simp, ?_⟩
          rw [List.take_succ_eq_append_getElem hc2, List.take_succ_eq_append_getElem hq2, heq, hc3]
      · simp at hc2
        refine Runs.exit rfl ?_
        refine Runs.seqE Ty_ok (by decide) fun k' hk' => ?_
        simp   -- R8
        refine hk' _ _ _ ?_
        refine Runs.ret Tryz.func27 (RetOk.one Tryz.results27) (hQ _ _ _ _ (.v _ _ _) ?_)
        rw [List.take_of_length_le hc2, List.take_of_length_le (by omega)] at heq
        simp [heq]

theorem eqProcess_ok (p q : Proc) (hp : p.length ≤ 1048576) : PureC Tryz.prog 10 [encP false p, encP false q] (fun r => r = bool (decide (p = q))) := by
  refine PureC.of Tryz.func10 rfl Tryz.ntmps10 (by simp) fun Q hQ => ?_
  refine Runs.seqE Ty_ok (by decide) fun k' hk' => ?_
  simp [encP]   -- R0
  refine hk' _ _ _ ?_
  refine Runs.seq ?_
  refine Runs.seqE Ty_ok (by decide) fun k' hk' => ?_
  simp   -- R1
  refine RunK.callA Ty_ok (eqAmbNodeS_ok p q hp) e27 (.cons (.listF (fr := false) (by simp [AmbNode.cells])) (.cons (.listF (fr := false) (by simp [AmbNode.cells])) .nil)) (by decide) (by decide) rfl (by simp) ?_
  rintro _ rfl
  simp
  refine hk' _ _ _ ?_
  refine Runs.ite rfl (fun hc1 => ?_) (fun hc1 => ?_)   -- t10
  · simp at hc1
    refine Runs.seqE Ty_ok (by decide) fun k' hk' => ?_
    simp   -- R2
    refine hk' _ _ _ ?_
    exact Runs.ret Tryz.func10 (RetOk.one Tryz.results10) (hQ _ _ _ _ (.v _ _ _) (by simp [hc1]))
  · simp at hc1
    refine Runs.skip ?_
    refine Runs.seqE Ty_ok (by decide) fun k' hk' => ?_
    simp   -- R3
    refine hk' _ _ _ ?_
    exact Runs.ret Tryz.func10 (RetOk.one Tryz.results10) (hQ _ _ _ _ (.v _ _ _) (by simp [hc1]))
end Go.Ab

/- The abstract machine, part So: the library's sort of strings, laid on a slice of the caller's own. -/
namespace Go.Ab
open Go.Proofs Go.RowKit
set_option linter.unusedSectionVars false

theorem putCells_get {α : Type} {enc : α → Value} [Inhabited α] {off : Nat} {d : Array α} {cl : Array Value} (k : Nat) :
    (Sort.putCells enc off d cl)[k]? = (cl[k]?).map fun x => if off ≤ k ∧ k < off + d.size then enc d[k - off]! else x := by
  simp only [Sort.putCells, Array.getElem?_mapIdx]

/-- The world behind a sort. -/
theorem sort_world {c : Ctx} (g : Good c) {id : Id} {ss ss' : List Str} (ho : c.H id = some ⟨1, ss.map fun s => [str s]⟩) (hl : ss'.length = ss.length) (off : Nat) (hoff : off = 0 ∨ ss' = []) (m : Nat) (os : Array Obj) :
    let c' : Ctx := { c with H := c.H.set id ⟨1, ss'.map fun s => [str s]⟩, w := Sort.grow (Sort.putRow encStr (Sort.ahead c.w m) (c.β id) off ss'.toArray) os }
    Keeps c c' ∧ Good c' := by
  intro c'
  obtain ⟨hB, cl, el, hh, hsz, hel⟩ := g.obj id _ ho
  simp only [List.length_map, Nat.mul_one] at hsz
  have hnew : (Sort.putRow encStr (Sort.ahead c.w m) (c.β id) off ss'.toArray).heap[c.β id]? = some (.cells (Sort.putCells encStr off ss'.toArray cl) el (0, 0)) := by
    simp only [Sort.putRow, Sort.mapBlock, Sort.ahead, Array.getElem?_modify, hh]
    simp [Sort.onCells]
  have hoth : ∀ k, k ≠ c.β id → (Sort.putRow encStr (Sort.ahead c.w m) (c.β id) off ss'.toArray).heap[k]? = c.w.heap[k]? := fun k hk => by
    simp only [Sort.putRow, Sort.mapBlock, Sort.ahead, Array.getElem?_modify]
    rw [if_neg (Ne.symm hk)]
  obtain ⟨k1, g1⟩ := upd_same g ho ⟨1, ss'.map fun s => [str s]⟩ (Sort.putRow encStr (Sort.ahead c.w m) (c.β id) off ss'.toArray) cl (Sort.putCells encStr off ss'.toArray cl) el el ⟨rfl, rfl, rfl⟩ (by simp [Sort.ahead]) hh hoth hnew
    (by simp [Sort.putCells]) rfl (by simp [hl]) (by
      refine ⟨by simp [Sort.putCells]; omega, fun i e he => ?_⟩
      rw [List.getElem?_map] at he
      obtain ⟨s, hs, rfl⟩ := Option.map_eq_some_iff.1 he
      refine ⟨rfl, fun j a ha => ?_⟩
      have hi : i < ss'.length := (List.getElem?_eq_some_iff.1 hs).1
      have ho0 : off = 0 := hoff.elim (fun h => h) fun h => by subst h; simp at hi
      subst ho0
      match j, ha with
      | 0, ha =>
        simp only [List.getElem?_cons_zero, Option.some.injEq] at ha
        subst ha
        refine ⟨encStr s, ?_, .v _⟩
        rw [putCells_get]
        have hic : i < cl.size := by omega
        simp only [Nat.mul_one, Nat.add_zero, Array.getElem?_eq_getElem hic, Option.map_some, Nat.zero_le, true_and, Nat.zero_add, Nat.sub_zero, List.size_toArray, hi, if_true, Option.some.injEq]
        have : ss'.toArray[i]! = s := by
          obtain ⟨h1, h2⟩ := List.getElem?_eq_some_iff.1 hs
          simp [h1, h2]
        rw [this]
      | j + 1, ha => simp at ha)
  obtain ⟨k2, g2⟩ := more_blocks g1 c'.w ⟨rfl, rfl, rfl⟩ (by simp [c']) fun k hk => Sort.heap_grow_old _ _ hk
  exact ⟨k1.trans k2, g2⟩

theorem rows_cells {H : Heap} {l : List Sh} (hf : ∀ t ∈ l, t = .c) : ∀ {as' bs : List (List AVal)} {S : List Id}, rowsP (Row H l) as' bs S → as' = bs ∧ S = [] := by
  intro as'
  induction as' with
  | nil => intro bs S hr; match bs, hr with
    | [], h => exact ⟨rfl, h⟩
    | _ :: _, hr => exact hr.elim
  | cons a _ ih =>
    intro bs S hr
    match bs, hr with
    | b :: bs, ⟨_, _, q1, q2, q3, _⟩ =>
      obtain ⟨rfl, rfl, _⟩ := q1.fill hf
      obtain ⟨rfl, rfl⟩ := ih q2
      exact ⟨rfl, q3⟩
    | [], hr => exact hr.elim

/-- A sort of strings, of a slice of the caller's own. 'hnil' is the call with a nil slice. -/
theorem MutS.sort {P : Program} {f : FuncId} {ss : List Str} (hlen : ss.length < 4611686018427387904)
    (hs : ∀ (blk off cap : Nat) (w : World), Sort.Holds encStr w blk off ss.toArray → blk < w.heap.size → Calls P f #[.slice (some ⟨blk, off, none⟩) ss.length cap] w fun e w' =>
      e = .returned (.tuple #[]) ∧ ∃ n os, w' = Sort.grow (Sort.putRow encStr (Sort.ahead w n) blk off (ss.mergeSort fun x y => decide (x ≤ y)).toArray) os)
    (hnil : ∀ w : World, Calls P f #[.slice none 0 0] w fun e w' => e = .returned (.tuple #[]) ∧ Below w.heap.size w w') :
    MutS P f (fun v => [v]) (.s [.c]) (encStrs true ss) (fun e r => e = encStrs true (ss.mergeSort fun x y => decide (x ≤ y)) ∧ r = .tup []) := by
  intro H n v K ids hsep c xs hH hn g r
  subst hH hn
  obtain ⟨x, rfl, hx⟩ : ∃ x, xs = [x] ∧ Rep c v x := by
    obtain ⟨hl, hr⟩ := r
    match xs, hl with
    | [x], _ => exact ⟨x, rfl, hr 0 v x rfl rfl⟩
  obtain ⟨h0, S, h1, h2⟩ := hsep
  simp only [List.map_cons, Row, Tr] at h1
  obtain ⟨S1, S2, h3, h4, rfl, h5⟩ := h1
  rcases h3 with ⟨rfl, e, rfl⟩ | ⟨id, els, es', T, rfl, he, q3, q4, q5, rfl⟩
  · have hss : ss = [] := by simpa [encStrs] using e
    subst hss
    rw [hx.v_inv]
    refine (hnil c.w).mono ?_
    rintro e w' ⟨rfl, hb⟩
    obtain ⟨hk, hg⟩ := more_blocks g w' ⟨hb.os, hb.tape, hb.output⟩ hb.size hb.block
    refine ⟨_, .tup [], { c with w := w' }, rfl, rfl, ⟨_, ⟨rfl, rfl⟩, ⟨h0, _, ?_, h2⟩, fun _ _ => rfl, Nat.le_refl _⟩, .tup [] [] rfl (by simp), hg, hk⟩
    simp only [List.map_cons, Row, Tr]
    exact ⟨[], S2, .inl (by simp [encStrs]), h4, rfl, by simp⟩
  · simp only [encStrs, AVal.list.injEq, true_and] at he
    subst he
    obtain ⟨rfl, rfl⟩ := rows_cells (by simp) q4
    have hm : (ss.mergeSort fun x y => decide (x ≤ y)).length = ss.length := List.length_mergeSort ss
    have q3' : c.H id = some ⟨1, ss.map fun s => [str s]⟩ := q3
    have hcell : ∀ i s, ss[i]? = some s → c.w.cell? ⟨c.β id, i, none⟩ = some (encStr s) := fun i s hi => by
      obtain ⟨x, h1, h2⟩ := g.cell q3' (i := i) (j := 0) (e := [str s]) (a := str s) (by rw [List.getElem?_map, hi]; rfl) rfl
      rw [h2.v_inv] at h1
      simpa using h1
    cases hx with
    | arr _ _ _ _ _ _ hn hg h =>
      obtain ⟨hle, a, cap, rfl, hab, hsp, hlc, hoff, hcl⟩ := h _ q3' (by simp)
      obtain ⟨bk, off, sp⟩ := a
      simp only at hab hsp
      subst hab hsp
      have hz : off = 0 ∨ ss = [] := by
        rcases hoff with h | h
        · left; simpa using h
        · right; simpa [h] using hlc
      have hz' : off = 0 ∨ (ss.mergeSort fun x y => decide (x ≤ y)) = [] := hz.imp_right fun h => by subst h; simp
      have hbk : c.β id < c.w.heap.size := g.lt q3'
      have key := hs (c.β id) off cap c.w (fun j hj => by
        have hj' : j < ss.length := by simpa using hj
        have h0 : off = 0 := hz.elim (fun h => h) fun h => by subst h; simp at hj'
        subst h0
        refine ⟨?_, g.frozen q3' _⟩
        rw [Nat.zero_add, hcell j ss[j] (List.getElem?_eq_getElem hj')]
        simp [hj']) hbk
      simp only [List.length_map] at *
      refine key.mono ?_
      rintro e w' ⟨rfl, m, os, rfl⟩
      obtain ⟨hk, hg'⟩ := sort_world g q3' hm off hz' m os
      refine ⟨_, .tup [], { c with H := c.H.set id ⟨1, (ss.mergeSort fun x y => decide (x ≤ y)).map fun s => [str s]⟩, w := Sort.grow (Sort.putRow encStr (Sort.ahead c.w m) (c.β id) off (ss.mergeSort fun x y => decide (x ≤ y)).toArray) os }, rfl, rfl, ⟨_, ⟨rfl, rfl⟩, ⟨h0, id :: S2, ?_, ?_⟩, fun i hi => ?_, Nat.le_refl _⟩, .tup [] [] rfl (by simp), hg', hk⟩
      · simp only [List.map_cons, Row, Tr]
        refine ⟨[id], S2, .inr ⟨id, (ss.mergeSort fun x y => decide (x ≤ y)).map fun s => [str s], (ss.mergeSort fun x y => decide (x ≤ y)).map fun s => [str s], [], by simp [hm], rfl, ?_, ?_, by simp, rfl⟩, h4.frame fun i hi => ?_, rfl, ?_⟩
        · exact Heap.get_set_self _ _ _
        · exact rowsP.flats (by simp [str, flat]) (by simp)
        · exact Heap.get_set_ne _ _ (by rintro rfl; exact h5 i (by simp) hi)
        · intro i hi; exact h5 i (by simpa using hi)
      · intro i hi; exact h2 i (by simpa using hi)
      · exact Heap.get_set_ne _ _ (by rintro rfl; exact (h2 i (by simp)).2 hi)
end Go.Ab

/- Congruence of processes (statement 9): pure conditions of the functions that sort texts. -/
namespace Go.Ab.Vg
set_option linter.unusedSimpArgs false
set_option linter.unusedVariables false
abbrev kids_pre (p : Proc) (_ : Int) : Prop := p.length ≤ 1048576
abbrev kids (p : Proc) (a : Int) : List Int := idxs p (fun x => decide (x.parent = a)) p.length
def kids_wp (p : Proc) (parent : Int) (Z : (List Int) → Prop) : Prop :=
  ∀ len7 : Int, len7 = (p.length : Int) → loopW (σ := Int × (List Int)) (fun (v16, l17) K21 => ∀ c22 : Bool, c22 = decide (v16 < len7) → ((c22 = true → (0 ≤ v16 ∧ v16 < p.length) ∧ ∀ x25 : AmbNode, x25 = at' p v16 → ∀ c30 : Bool, c30 = decide (x25.parent = parent) → ((c30 = true → (l17.length + 1 ≤ 1073741824) ∧ ∀ l33 : List Int, l33 = l17 ++ [v16] → (I64 (v16 + 1)) ∧ ∀ v43 : Int, v43 = v16 + 1 → K21 (v43, l33)) ∧ (c30 = false → (I64 (v16 + 1)) ∧ ∀ v46 : Int, v46 = v16 + 1 → K21 (v46, l17)))) ∧ (c22 = false → Z l17))) (0, ([] : List Int))
theorem kids_vc (p : Proc) (a : Int) (h : kids_pre p a) : kids_wp p a (fun y => y = kids p a) := by
  unfold kids_wp
  rintro _ rfl
  refine loopW.upL p.length (fun k out => out = idxs p (fun x => decide (x.parent = a)) k) [] rfl ?_
  rintro k out K hk rfl IH
  have hl := idxs_len p (fun x => decide (x.parent = a)) k
  simp only [kids_pre] at h
  simp only [forall_eq, decide_eq_true_eq, decide_eq_false_iff_not, I64]
  refine ⟨fun h1 => ⟨by omega, fun h2 => ⟨by omega, by omega, ?_⟩, fun h2 => ⟨by omega, ?_⟩⟩, fun h1 => ?_⟩
  · exact IH (by omega) _ (idxs_yes _ _ (by simpa using h2)).symm
  · exact IH (by omega) _ (idxs_no _ _ (by simpa using h2)).symm
  · rw [show k = p.length by omega]

abbrev nodeT_pre (x : AmbNode) (s : Str) : Prop := (0 ≤ x.kind ∧ x.kind ≤ 3) ∧ x.name.length ≤ 1073741824 ∧ s.length ≤ 1152921504606846976
abbrev joinT_pre (l : List Str) : Prop := l.length ≤ 1073741824 ∧ (Lib.join l [124]).length ≤ 140737488355328
abbrev sortT (l : List Str) : List Str × Unit := (l.mergeSort fun x y => decide (x ≤ y), ())
theorem kids_in {p : Proc} {a x : Int} (h : x ∈ kids p a) : ∃ i : Nat, x = i ∧ i < p.length ∧ (p.getD i default).parent = a := by
  simp only [kids, idxs, List.mem_map, List.mem_filter, List.mem_range, decide_eq_true_eq] at h
  obtain ⟨i, ⟨h1, h2⟩, rfl⟩ := h
  exact ⟨i, rfl, h1, by simpa [at'] using h2⟩
def sortedT (p : Proc) : Nat → Int → Str
  | 0, _ => []
  | d + 1, a => joinTexts (sortT ((kids p a).map fun x => nodeText (at' p x) (sortedT p d x))).1
theorem sortedT_fuel {p : Proc} (hp : Valid p) : ∀ (d e : Nat) (x : Int), x < p.length → (p.length : Int) - x ≤ d → (p.length : Int) - x ≤ e → sortedT p d x = sortedT p e x
  | 0, _, _, h1, h2, _ => by omega
  | d + 1, 0, _, h1, _, h3 => by omega
  | d + 1, e + 1, x, h1, h2, h3 => by
    simp only [sortedT]
    have : (kids p x).map (fun y => nodeText (at' p y) (sortedT p d y)) = (kids p x).map fun y => nodeText (at' p y) (sortedT p e y) := by
      refine List.map_congr_left fun y hy => ?_
      obtain ⟨i, rfl, hi, hx⟩ := kids_in hy
      have := hp.up i hi
      rw [sortedT_fuel hp d e i (by omega) (by omega) (by omega)]
    rw [this]
theorem sortedT_len {p : Proc} (hp : Valid p) : ∀ (d : Nat) (a : Int), (sortedT p d a).length + 15 ≤ 16 * 8 ^ d
  | 0, _ => by simp [sortedT]
  | d + 1, a => by
    simp only [sortedT]
    unfold joinTexts
    have h8 : 8 ^ (d + 1) = 8 * 8 ^ d := by rw [Nat.pow_succ, Nat.mul_comm]
    have h1 : 0 < 8 ^ d := Nat.pos_of_ne_zero (by simp)
    split
    · simp; omega
    · have := join_len (sortT ((kids p a).map fun x => nodeText (at' p x) (sortedT p d x))).1 [124] (16 * 8 ^ d - 15 + 12) (fun s hs => by
        simp only [sortT, List.mem_mergeSort, List.mem_map] at hs
        obtain ⟨k, hk, rfl⟩ := hs
        obtain ⟨i, rfl, hi, hx⟩ := kids_in hk
        have h1 := nodeText_len (at' p i) (sortedT p d i) (by simpa [at'] using hp.name i hi)
        have h2 := sortedT_len hp d i
        omega)
      have hl : (kids p a).length ≤ p.length := idxs_len _ _ _
      have h9 := hp.len
      simp only [sortT, List.length_mergeSort, List.length_map, List.length_singleton] at this ⊢
      have hm : (kids p a).length * (16 * 8 ^ d - 15 + 12 + 1) ≤ 8 * (16 * 8 ^ d - 15 + 12 + 1) := Nat.mul_le_mul_right _ (by omega)
      omega
abbrev sortedIn_pre (p : Proc) (a : Int) : Prop := Valid p ∧ -1 ≤ a ∧ a < p.length
abbrev sortedIn_ms (p : Proc) (a : Int) : Nat := ((p.length : Int) - a).toNat
abbrev sortedIn (p : Proc) (a : Int) : Str := sortedT p ((p.length : Int) - a).toNat a
def sortedIn_wp (p : Proc) (parent : Int) (Z : Str → Prop) : Prop :=
  (kids_pre p parent) ∧ ∀ r8 : List Int, r8 = kids p parent → ∀ len16 : Int, len16 = (r8.length : Int) → loopW (σ := Int × (List Str)) (fun (v30, l31) K36 => ∀ c37 : Bool, c37 = decide (v30 < len16) → ((c37 = true → (0 ≤ v30 ∧ v30 < r8.length) ∧ ∀ x44 : Int, x44 = at' r8 v30 → (0 ≤ x44 ∧ x44 < p.length) ∧ ∀ x48 : AmbNode, x48 = at' p x44 → (sortedIn_pre p x44 ∧ sortedIn_ms p x44 < sortedIn_ms p parent) ∧ ∀ r51 : Str, r51 = sortedIn p x44 → (nodeT_pre x48 r51) ∧ ∀ r53 : Str, r53 = nodeText x48 r51 → (l31.length + 1 ≤ 1073741824) ∧ ∀ l55 : List Str, l55 = l31 ++ [r53] → (I64 (v30 + 1)) ∧ ∀ v66 : Int, v66 = v30 + 1 → K36 (v66, l55)) ∧ (c37 = false → (l31.length ≤ 1073741824) ∧ ∀ r69 : (List Str) × Unit, r69 = sortT l31 → (joinT_pre r69.1) ∧ ∀ r80 : Str, r80 = joinTexts r69.1 → Z r80))) (0, ([] : List Str))
theorem sortedIn_vc (p : Proc) (a : Int) (h : sortedIn_pre p a) : sortedIn_wp p a (fun y => y = sortedIn p a) := by
  obtain ⟨hp, h1, h2⟩ := h
  have hp8 := hp.len
  unfold sortedIn_wp
  refine ⟨by omega, ?_⟩
  rintro _ rfl _ rfl
  have hkl : (kids p a).length ≤ p.length := idxs_len _ _ _
  obtain ⟨d, hd⟩ : ∃ d, ((p.length : Int) - a).toNat = d + 1 := ⟨((p.length : Int) - a).toNat - 1, by omega⟩
  have hd9 : d ≤ 8 := by omega
  have hpd : 8 ^ d ≤ 8 ^ 8 := Nat.pow_le_pow_right (by omega) (by omega)
  have hlen : ∀ y, (sortedT p d y).length ≤ 268435456 := fun y => by have := sortedT_len hp d y; omega
  refine loopW.upL (kids p a).length (fun k out => out = ((kids p a).take k).map fun x => nodeText (at' p x) (sortedT p d x)) [] (by simp) ?_
  rintro k out K hk rfl IH
  rintro _ rfl
  simp only [decide_eq_true_eq, decide_eq_false_iff_not]
  refine ⟨fun hc => ⟨by omega, ?_⟩, fun hc => ?_⟩
  · rintro _ rfl
    have hk1 : k < (kids p a).length := by omega
    have hat : at' (kids p a) (k : Int) = (kids p a)[k] := by simp [at', hk1]
    have hmem : (kids p a)[k] ∈ kids p a := List.getElem_mem hk1
    have htk : (kids p a).take (k + 1) = (kids p a).take k ++ [(kids p a)[k]] := List.take_succ_eq_append_getElem hk1
    rw [hat]
    generalize (kids p a)[k] = x at hmem htk ⊢
    obtain ⟨i, rfl, hi, hx⟩ := kids_in hmem
    have hup := hp.up i hi
    have hf : sortedIn p i = sortedT p d i := sortedT_fuel hp _ _ _ (by omega) (by omega) (by omega)
    have hpi : at' p (i : Int) = p.getD i default := by simp [at']
    refine ⟨by omega, ?_⟩
    rintro _ rfl
    refine ⟨⟨⟨hp, by omega, by omega⟩, by simp only [sortedIn_ms]; omega⟩, ?_⟩
    rintro _ rfl
    rw [hf]
    refine ⟨⟨by rw [hpi]; exact hp.kind i hi, by rw [hpi]; have := hp.name i hi; omega, by have := hlen i; omega⟩, ?_⟩
    rintro _ rfl
    refine ⟨by simp; omega, ?_⟩
    rintro _ rfl
    refine ⟨by simp only [I64]; omega, ?_⟩
    rintro _ rfl
    exact IH hk1 _ (by rw [htk]; simp)
  · have hke : k = (kids p a).length := by omega
    subst hke
    rw [List.take_length]
    refine ⟨by simp; omega, ?_⟩
    rintro _ rfl
    refine ⟨⟨by simp [sortT]; omega, ?_⟩, ?_⟩
    · have := join_len (sortT ((kids p a).map fun x => nodeText (at' p x) (sortedT p d x))).1 [124] (268435456 + 12) (fun s hs => by
        simp only [sortT, List.mem_mergeSort, List.mem_map] at hs
        obtain ⟨y, hy, rfl⟩ := hs
        obtain ⟨i, rfl, hi, hx⟩ := kids_in hy
        have h1 := nodeText_len (at' p i) (sortedT p d i) (by simpa [at'] using hp.name i hi)
        have := hlen i
        omega)
      simp only [sortT, List.length_mergeSort, List.length_map, List.length_singleton] at this ⊢
      have hm : (kids p a).length * (268435456 + 12 + 1) ≤ 8 * (268435456 + 12 + 1) := Nat.mul_le_mul_right _ (by omega)
      omega
    · rintro _ rfl
      simp only [sortedIn, hd, sortedT]

abbrev l12Kids_pre (p : Proc) (_ : Int) : Prop := p.length ≤ 1048576
abbrev l12Kids (p : Proc) (a : Int) : List Int := kids p a
def l12Kids_wp (p : Proc) (parent : Int) (Z : (List Int) → Prop) : Prop :=
  loopW (σ := Int × (List Int)) (fun (i14, l15) K19 => ∀ len20 : Int, len20 = (p.length : Int) → ∀ c22 : Bool, c22 = decide (i14 < len20) → ((c22 = true → (0 ≤ i14 ∧ i14 < p.length) ∧ ∀ x25 : AmbNode, x25 = at' p i14 → ∀ c27 : Bool, c27 = decide (x25.parent = parent) → ((c27 = true → (l15.length + 1 ≤ 1073741824) ∧ ∀ l30 : List Int, l30 = l15 ++ [i14] → (I64 (i14 + 1)) ∧ ∀ v40 : Int, v40 = i14 + 1 → K19 (v40, l30)) ∧ (c27 = false → (I64 (i14 + 1)) ∧ ∀ v43 : Int, v43 = i14 + 1 → K19 (v43, l15)))) ∧ (c22 = false → Z l15))) (0, ([] : List Int))
theorem l12Kids_vc (p : Proc) (a : Int) (h : l12Kids_pre p a) : l12Kids_wp p a (fun y => y = l12Kids p a) := by
  unfold l12Kids_wp
  refine loopW.upL p.length (fun k out => out = idxs p (fun x => decide (x.parent = a)) k) [] rfl ?_
  rintro k out K hk rfl IH
  have hl := idxs_len p (fun x => decide (x.parent = a)) k
  simp only [l12Kids_pre] at h
  simp only [forall_eq, decide_eq_true_eq, decide_eq_false_iff_not, I64]
  refine ⟨fun h1 => ⟨by omega, fun h2 => ⟨by omega, by omega, ?_⟩, fun h2 => ⟨by omega, ?_⟩⟩, fun h1 => ?_⟩
  · exact IH (by omega) _ (idxs_yes _ _ (by simpa using h2)).symm
  · exact IH (by omega) _ (idxs_no _ _ (by simpa using h2)).symm
  · rw [show k = p.length by omega]
abbrev procHuge (p : Proc) : Prop := p.length ≤ 1048576 ∧ ∀ i, i < p.length → (p.getD i default).name.length ≤ 4294967296
abbrev AreCongruent_pre (p q : Proc) : Prop := procHuge p ∧ procHuge q
abbrev AreCongruent (p q : Proc) : Bool × Bool := if goodP p && goodP q then (decide (sortedIn p (-1) = sortedIn q (-1)), true) else (false, false)
-- impl.AreCongruent is not in this seat
theorem sortedIn_top {p : Proc} (h : goodP p = true) : sortedIn_pre p (-1) := ⟨goodP_valid h, by omega, by omega⟩
def ins (s : Str) (l : List Str) : List Str := l.takeWhile (fun x => decide (x ≤ s)) ++ s :: l.dropWhile (fun x => decide (x ≤ s))
theorem ins_perm (s : Str) (l : List Str) : (ins s l).Perm (s :: l) := by
  have h := List.takeWhile_append_dropWhile (p := fun x => decide (x ≤ s)) (l := l)
  unfold ins
  exact List.perm_middle.trans (by rw [h])
theorem str_total (a b : Str) : a ≤ b ∨ b ≤ a := List.le_total a b
theorem ins_sorted (s : Str) : ∀ {l : List Str}, l.Pairwise (· ≤ ·) → (ins s l).Pairwise (· ≤ ·)
  | [], _ => by simp [ins]
  | a :: l, h => by
    obtain ⟨h1, h2⟩ := List.pairwise_cons.1 h
    by_cases ha : a ≤ s
    · have : ins s (a :: l) = a :: ins s l := by simp [ins, ha]
      rw [this]
      refine List.pairwise_cons.2 ⟨fun b hb => ?_, ins_sorted s h2⟩
      rcases List.mem_cons.1 ((ins_perm s l).mem_iff.1 hb) with rfl | hb
      · exact ha
      · exact h1 b hb
    · have : ins s (a :: l) = s :: a :: l := by simp [ins, ha]
      rw [this]
      have hsa : s ≤ a := (str_total a s).resolve_left ha
      refine List.pairwise_cons.2 ⟨fun b hb => ?_, h⟩
      rcases List.mem_cons.1 hb with rfl | hb
      · exact hsa
      · exact List.le_trans hsa (h1 b hb)
theorem foldl_ins (g : Int → Str) : ∀ (l : List Int) (out : List Str), out.Pairwise (· ≤ ·) → (l.foldl (fun out x => ins (g x) out) out).Pairwise (· ≤ ·) ∧ (l.foldl (fun out x => ins (g x) out) out).Perm (out ++ l.map g)
  | [], out, h => by simp [h]
  | x :: l, out, h => by
    obtain ⟨h1, h2⟩ := foldl_ins g l (ins (g x) out) (ins_sorted _ h)
    refine ⟨h1, h2.trans ?_⟩
    rw [List.map_cons]
    exact ((ins_perm (g x) out).append_right _).trans List.perm_middle.symm
theorem foldl_sort (g : Int → Str) (l : List Int) : l.foldl (fun out x => ins (g x) out) [] = (l.map g).mergeSort fun x y => decide (x ≤ y) := by
  obtain ⟨h1, h2⟩ := foldl_ins g l [] List.Pairwise.nil
  have h3 : ((l.map g).mergeSort fun x y => decide (x ≤ y)).Pairwise (· ≤ ·) := by
    have := List.pairwise_mergeSort (le := fun x y : Str => decide (x ≤ y)) (fun a b c h1 h2 => by simp only [decide_eq_true_eq] at *; exact List.le_trans h1 h2) (fun a b => by simpa using str_total a b) (l.map g)
    simpa using this
  exact (h2.trans (List.mergeSort_perm _ _).symm).eq_of_pairwise (fun a b _ _ h h' => List.le_antisymm h h') h1 h3
def bestT (p : Proc) : Nat → Int → Str
  | 0, _ => []
  | d + 1, a => joinTexts ((kids p a).foldl (fun out x => ins (nodeText (at' p x) (bestT p d x)) out) [])
theorem bestT_eq (p : Proc) : ∀ (d : Nat) (a : Int), bestT p d a = sortedT p d a
  | 0, _ => rfl
  | d + 1, a => by
    simp only [bestT, sortedT, sortT]
    rw [foldl_sort (fun x => nodeText (at' p x) (bestT p d x))]
    simp only [bestT_eq p d]
abbrev l12Best (p : Proc) (a : Int) : Str := bestT p ((p.length : Int) - a).toNat a
abbrev BestOk (p : Proc) (a : Int) : Prop := PureC Go.Proofs.Tryz.prog 41 [encP false p, int a] (fun r => r = str (l12Best p a))
end Go.Ab.Vg

/- Sorted texts of processes whose parents need not come first, but lead upward. -/
namespace Go.Ab.Vg
set_option linter.unusedSimpArgs false
set_option linter.unusedVariables false
theorem countP_lt {α : Type} {p q : α → Bool} : ∀ {l : List α}, (∀ x ∈ l, p x = true → q x = true) → (∃ x ∈ l, q x = true ∧ p x = false) → l.countP p < l.countP q
  | [], _, ⟨_, h, _⟩ => by cases h
  | y :: l, h, ⟨x, hx, h1, h2⟩ => by
    have hle : l.countP p ≤ l.countP q := List.countP_mono_left fun z hz => h z (by simp [hz])
    rcases List.mem_cons.1 hx with rfl | hx
    · rw [List.countP_cons_of_pos h1, List.countP_cons_of_neg (by simp [h2])]
      omega
    · have := countP_lt (l := l) (fun z hz => h z (by simp [hz])) ⟨x, hx, h1, h2⟩
      have hy := h y (by simp)
      simp only [List.countP_cons]
      by_cases hp : p y = true
      · rw [if_pos hp, if_pos (hy hp)]; omega
      · rw [if_neg hp]; split <;> omega
structure Gp (p : Proc) : Prop where
  len : p.length ≤ 8
  kind : ∀ i, i < p.length → 0 ≤ (p.getD i default).kind ∧ (p.getD i default).kind ≤ 3
  name : ∀ i, i < p.length → (p.getD i default).name.length ≤ 4
  acyc : ∃ r : Int → Nat, ∀ a k, k ∈ kids p a → r k < r a
theorem Gp.rank {p : Proc} (h : Gp p) : ∃ r : Int → Nat, (∀ a, r a ≤ p.length) ∧ ∀ a k, k ∈ kids p a → r k < r a := by
  obtain ⟨r, hr⟩ := h.acyc
  refine ⟨fun a => (List.range p.length).countP fun i : Nat => decide (r (i : Int) < r a), fun a => ?_, fun a k hk => ?_⟩
  · have := List.countP_le_length (p := fun i : Nat => decide (r (i : Int) < r a)) (l := List.range p.length)
    simpa using this
  · have hlt := hr a k hk
    obtain ⟨i, rfl, hi, _⟩ := kids_in hk
    refine countP_lt (fun x _ hx => ?_) ⟨i, List.mem_range.2 hi, by simpa using hlt, by simp⟩
    simp only [decide_eq_true_eq] at hx ⊢
    omega
open Classical in
noncomputable def rk (p : Proc) (a : Int) : Nat := if h : ∃ r : Int → Nat, (∀ a, r a ≤ p.length) ∧ ∀ a k, k ∈ kids p a → r k < r a then h.choose a else 0
theorem rk_le {p : Proc} (h : Gp p) (a : Int) : rk p a ≤ p.length := by
  have := h.rank
  rw [rk, dif_pos this]
  exact this.choose_spec.1 a
theorem rk_lt {p : Proc} (h : Gp p) {a k : Int} (hk : k ∈ kids p a) : rk p k < rk p a := by
  have := h.rank
  rw [rk, rk, dif_pos this, dif_pos this]
  exact this.choose_spec.2 a k hk
theorem sortedT_rk {p : Proc} (hp : Gp p) : ∀ (d e : Nat) (x : Int), rk p x < d → rk p x < e → sortedT p d x = sortedT p e x
  | 0, _, _, h1, _ => by omega
  | d + 1, 0, _, _, h2 => by omega
  | d + 1, e + 1, x, h1, h2 => by
    simp only [sortedT]
    have : (kids p x).map (fun y => nodeText (at' p y) (sortedT p d y)) = (kids p x).map fun y => nodeText (at' p y) (sortedT p e y) := by
      refine List.map_congr_left fun y hy => ?_
      have := rk_lt hp hy
      rw [sortedT_rk hp d e y (by omega) (by omega)]
    rw [this]
theorem sortedG_len {p : Proc} (hl : p.length ≤ 8) (hn : ∀ i, i < p.length → (p.getD i default).name.length ≤ 4) : ∀ (d : Nat) (a : Int), (sortedT p d a).length + 15 ≤ 16 * 8 ^ d
  | 0, _ => by simp [sortedT]
  | d + 1, a => by
    simp only [sortedT]
    unfold joinTexts
    have h8 : 8 ^ (d + 1) = 8 * 8 ^ d := by rw [Nat.pow_succ, Nat.mul_comm]
    have h1 : 0 < 8 ^ d := Nat.pos_of_ne_zero (by simp)
    split
    · simp; omega
    · have := join_len (sortT ((kids p a).map fun x => nodeText (at' p x) (sortedT p d x))).1 [124] (16 * 8 ^ d - 15 + 12) (fun s hs => by
        simp only [sortT, List.mem_mergeSort, List.mem_map] at hs
        obtain ⟨k, hk, rfl⟩ := hs
        obtain ⟨i, rfl, hi, hx⟩ := kids_in hk
        have h1 := nodeText_len (at' p i) (sortedT p d i) (by simpa [at'] using hn i hi)
        have h2 := sortedG_len hl hn d i
        omega)
      have hk : (kids p a).length ≤ p.length := idxs_len _ _ _
      simp only [sortT, List.length_mergeSort, List.length_map, List.length_singleton] at this ⊢
      have hm : (kids p a).length * (16 * 8 ^ d - 15 + 12 + 1) ≤ 8 * (16 * 8 ^ d - 15 + 12 + 1) := Nat.mul_le_mul_right _ (by omega)
      omega
abbrev sortedG_pre (p : Proc) (_ : Int) : Prop := Gp p
noncomputable abbrev sortedG_ms (p : Proc) (a : Int) : Nat := rk p a
noncomputable abbrev sortedG (p : Proc) (a : Int) : Str := sortedT p (rk p a + 1) a
def sortedG_wp (p : Proc) (parent : Int) (Z : Str → Prop) : Prop :=
  (kids_pre p parent) ∧ ∀ r8 : List Int, r8 = kids p parent → ∀ len16 : Int, len16 = (r8.length : Int) → loopW (σ := Int × (List Str)) (fun (v30, l31) K36 => ∀ c37 : Bool, c37 = decide (v30 < len16) → ((c37 = true → (0 ≤ v30 ∧ v30 < r8.length) ∧ ∀ x44 : Int, x44 = at' r8 v30 → (0 ≤ x44 ∧ x44 < p.length) ∧ ∀ x48 : AmbNode, x48 = at' p x44 → (sortedG_pre p x44 ∧ sortedG_ms p x44 < sortedG_ms p parent) ∧ ∀ r51 : Str, r51 = sortedG p x44 → (nodeT_pre x48 r51) ∧ ∀ r53 : Str, r53 = nodeText x48 r51 → (l31.length + 1 ≤ 1073741824) ∧ ∀ l55 : List Str, l55 = l31 ++ [r53] → (I64 (v30 + 1)) ∧ ∀ v66 : Int, v66 = v30 + 1 → K36 (v66, l55)) ∧ (c37 = false → (l31.length ≤ 1073741824) ∧ ∀ r69 : (List Str) × Unit, r69 = sortT l31 → (joinT_pre r69.1) ∧ ∀ r80 : Str, r80 = joinTexts r69.1 → Z r80))) (0, ([] : List Str))
theorem sortedG_vc (p : Proc) (a : Int) (h : sortedG_pre p a) : sortedG_wp p a (fun y => y = sortedG p a) := by
  have hp : Gp p := h
  have hp8 := hp.len
  unfold sortedG_wp
  refine ⟨by omega, ?_⟩
  rintro _ rfl _ rfl
  have hkl : (kids p a).length ≤ p.length := idxs_len _ _ _
  have hrk := rk_le hp a
  obtain ⟨d, hd⟩ : ∃ d, rk p a = d := ⟨_, rfl⟩
  have hpd : 8 ^ d ≤ 8 ^ 8 := Nat.pow_le_pow_right (by omega) (by omega)
  have hlen : ∀ y, (sortedT p d y).length ≤ 268435456 := fun y => by have := sortedG_len hp.len hp.name d y; omega
  refine loopW.upL (kids p a).length (fun k out => out = ((kids p a).take k).map fun x => nodeText (at' p x) (sortedT p d x)) [] (by simp) ?_
  rintro k out K hk rfl IH
  rintro _ rfl
  simp only [decide_eq_true_eq, decide_eq_false_iff_not]
  refine ⟨fun hc => ⟨by omega, ?_⟩, fun hc => ?_⟩
  · rintro _ rfl
    have hk1 : k < (kids p a).length := by omega
    have hat : at' (kids p a) (k : Int) = (kids p a)[k] := by simp [at', hk1]
    have hmem : (kids p a)[k] ∈ kids p a := List.getElem_mem hk1
    have htk : (kids p a).take (k + 1) = (kids p a).take k ++ [(kids p a)[k]] := List.take_succ_eq_append_getElem hk1
    rw [hat]
    generalize (kids p a)[k] = x at hmem htk ⊢
    have hlt := rk_lt hp hmem
    obtain ⟨i, rfl, hi, hx⟩ := kids_in hmem
    have hf : sortedG p i = sortedT p d i := sortedT_rk hp _ _ _ (by omega) (by omega)
    have hpi : at' p (i : Int) = p.getD i default := by simp [at']
    refine ⟨by omega, ?_⟩
    rintro _ rfl
    refine ⟨⟨hp, hlt⟩, ?_⟩
    rintro _ rfl
    rw [hf]
    refine ⟨⟨by rw [hpi]; exact hp.kind i hi, by rw [hpi]; have := hp.name i hi; omega, by have := hlen i; omega⟩, ?_⟩
    rintro _ rfl
    refine ⟨by simp; omega, ?_⟩
    rintro _ rfl
    refine ⟨by simp only [I64]; omega, ?_⟩
    rintro _ rfl
    exact IH hk1 _ (by rw [htk]; simp)
  · have hke : k = (kids p a).length := by omega
    subst hke
    rw [List.take_length]
    refine ⟨by simp; omega, ?_⟩
    rintro _ rfl
    refine ⟨⟨by simp [sortT]; omega, ?_⟩, ?_⟩
    · have := join_len (sortT ((kids p a).map fun x => nodeText (at' p x) (sortedT p d x))).1 [124] (268435456 + 12) (fun s hs => by
        simp only [sortT, List.mem_mergeSort, List.mem_map] at hs
        obtain ⟨y, hy, rfl⟩ := hs
        obtain ⟨i, rfl, hi, hx⟩ := kids_in hy
        have h1 := nodeText_len (at' p i) (sortedT p d i) (by simpa [at'] using hp.name i hi)
        have := hlen i
        omega)
      simp only [sortT, List.length_mergeSort, List.length_map, List.length_singleton] at this ⊢
      have hm : (kids p a).length * (268435456 + 12 + 1) ≤ 8 * (268435456 + 12 + 1) := Nat.mul_le_mul_right _ (by omega)
      omega
    · rintro _ rfl
      simp only [sortedG, hd, sortedT]
theorem gp_valid {p : Proc} (h : Valid p) : Gp p := ⟨h.len, h.kind, h.name, fun a => ((p.length : Int) - a).toNat, fun a k hk => by
  obtain ⟨i, rfl, hi, hx⟩ := kids_in hk
  have := h.up i hi
  show ((p.length : Int) - i).toNat < ((p.length : Int) - a).toNat
  omega⟩
theorem sortedG_in {p : Proc} (h : Valid p) (a : Int) (h1 : -1 ≤ a) (h2 : a < p.length) : sortedG p a = sortedIn p a := by
  have hg := gp_valid h
  have hr := rk_le hg a
  -- both stop where nothing is left
  have key : ∀ (d e : Nat) (x : Int), rk p x < d → (p.length : Int) - x ≤ e → x < p.length → sortedT p d x = sortedT p e x := by
    intro d
    induction d with
    | zero => intro e x h3; omega
    | succ d ih =>
      intro e x h3 h4 h5
      match e with
      | 0 => omega
      | e + 1 =>
        simp only [sortedT]
        have : (kids p x).map (fun y => nodeText (at' p y) (sortedT p d y)) = (kids p x).map fun y => nodeText (at' p y) (sortedT p e y) := by
          refine List.map_congr_left fun y hy => ?_
          have hlt := rk_lt hg hy
          obtain ⟨i, rfl, hi, hx⟩ := kids_in hy
          have := h.up i hi
          rw [ih e i (by omega) (by omega) (by omega)]
        rw [this]
  exact key _ _ _ (by omega) (by omega) h2
end Go.Ab.Vg

/- Congruence of processes (statement 9): the spec's functions that sort texts. -/
namespace Go.Ab.Vg
set_option linter.unusedSimpArgs false
set_option linter.unusedVariables false
abbrev l12Sorted_pre (p : Proc) (a : Int) : Prop := Valid p ∧ -1 ≤ a ∧ a < p.length ∧ ∀ x ∈ kids p a, BestOk p x
abbrev l12Sorted (p : Proc) (a : Int) : List Str := (kids p a).foldl (fun out x => ins (nodeText (at' p x) (l12Best p x)) out) []
def l12Sorted_wp (p : Proc) (parent : Int) (Z : (List Str) → Prop) : Prop :=
  (l12Kids_pre p parent) ∧ ∀ r5 : List Int, r5 = l12Kids p parent → loopW (σ := Int × (List Str)) (fun (i26, l27) K32 => ∀ len33 : Int, len33 = (r5.length : Int) → ∀ c35 : Bool, c35 = decide (i26 < len33) → ((c35 = true → (0 ≤ i26 ∧ i26 < r5.length) ∧ ∀ x42 : Int, x42 = at' r5 i26 → (0 ≤ x42 ∧ x42 < p.length) ∧ ∀ x46 : AmbNode, x46 = at' p x42 → (0 ≤ i26 ∧ i26 < r5.length) ∧ ∀ x49 : Int, x49 = at' r5 i26 → (BestOk p x42) ∧ ∀ r54 : Str, r54 = l12Best p x42 → (nodeT_pre x46 r54) ∧ ∀ r56 : Str, r56 = nodeText x46 r54 → loopW (σ := Int) (fun k64 K69 => joinW (fun (J70 : Bool → Prop) => ∀ len125 : Int, len125 = (l27.length : Int) → ∀ c127 : Bool, c127 = decide (k64 < len125) → ((c127 = true → (0 ≤ k64 ∧ k64 < l27.length) ∧ ∀ x134 : Str, x134 = at' l27 k64 → ∀ c137 : Bool, c137 = (Op.bytesLess x134 r56 || x134 == r56) → J70 (c137)) ∧ (c127 = false → J70 (false)))) (fun b73 => ((b73 = true → (I64 (k64 + 1)) ∧ ∀ v79 : Int, v79 = k64 + 1 → K69 (v79)) ∧ (b73 = false → ((0 : Int) ≤ 0 ∧ (0 : Int) ≤ k64 ∧ k64 ≤ l27.length) ∧ ∀ l85 : List Str, l85 = (l27.take k64.toNat).drop 0 → (([] : List Str).length + l85.length ≤ 1073741824) ∧ ∀ l89 : List Str, l89 = ([] : List Str) ++ l85 → (l89.length + 1 ≤ 1073741824) ∧ ∀ l98 : List Str, l98 = l89 ++ [r56] → (0 ≤ k64 ∧ k64 ≤ (l27.length : Int) ∧ (l27.length : Int) ≤ l27.length) ∧ ∀ l107 : List Str, l107 = (l27.take (l27.length : Int).toNat).drop k64.toNat → (l98.length + l107.length ≤ 1073741824) ∧ ∀ l111 : List Str, l111 = l98 ++ l107 → (I64 (i26 + 1)) ∧ ∀ v123 : Int, v123 = i26 + 1 → K32 (v123, l111))))) (0)) ∧ (c35 = false → Z l27))) (0, ([] : List Str))
theorem leq_le (a b : Str) : (Op.bytesLess a b || a == b) = decide (a ≤ b) := by
  rw [Go.Proofs.bytesLess_eq]
  apply Bool.eq_iff_iff.2
  simp only [Bool.or_eq_true, decide_eq_true_eq, beq_iff_eq]
  constructor
  · rintro (h | rfl)
    · exact List.le_of_lt h
    · exact List.le_refl _
  · intro h
    by_cases h1 : a < b
    · exact .inl h1
    · exact .inr (List.le_antisymm h h1)
theorem ins_at (s : Str) : ∀ (l : List Str) (k : Nat), k ≤ l.length → (∀ j < k, at' l (j : Int) ≤ s) → (k < l.length → ¬ at' l (k : Int) ≤ s) → l.take k ++ s :: l.drop k = ins s l
  | [], k, _, _, _ => by simp [ins]
  | x :: l, 0, _, _, h => by
    have hx : ¬ x ≤ s := by simpa [at'] using h (by simp)
    simp [ins, hx]
  | x :: l, k + 1, h1, h2, h3 => by
    have hx : x ≤ s := by simpa [at'] using h2 0 (by omega)
    have hs : ∀ j : Nat, at' (x :: l) (((j + 1 : Nat)) : Int) = at' l (j : Int) := fun j => by rw [at_nat (x :: l) (j + 1), at_nat l j]; simp
    have := ins_at s l k (by simpa using h1) (fun j hj => by rw [← hs]; exact h2 (j + 1) (by omega)) (fun hk => by rw [← hs]; exact h3 (by simpa using hk))
    have hi : ins s (x :: l) = x :: ins s l := by simp [ins, hx]
    rw [hi, ← this]
    simp
theorem l12Sorted_vc (p : Proc) (a : Int) (h : l12Sorted_pre p a) : l12Sorted_wp p a (fun y => y = l12Sorted p a) := by
  obtain ⟨hp, h1, h2, hb⟩ := h
  have hp8 := hp.len
  unfold l12Sorted_wp
  refine ⟨by simp only [l12Kids_pre]; omega, ?_⟩
  rintro _ rfl
  have hkl : (kids p a).length ≤ p.length := idxs_len _ _ _
  refine loopW.upL (kids p a).length (fun k out => out = ((kids p a).take k).foldl (fun out x => ins (nodeText (at' p x) (l12Best p x)) out) []) [] (by simp) ?_
  rintro k out K hk hout IH
  have hol : out.length = k := by
    have := (foldl_ins (fun x => nodeText (at' p x) (l12Best p x)) ((kids p a).take k) [] List.Pairwise.nil).2.length_eq
    rw [← hout] at this
    rw [this]
    simp; omega
  rintro _ rfl _ rfl
  simp only [decide_eq_true_eq, decide_eq_false_iff_not]
  refine ⟨fun hc => ⟨by simp only [l12Kids] at hc ⊢; omega, ?_⟩, fun hc => ?_⟩
  · rintro _ rfl
    have hk1 : k < (kids p a).length := by simp only [l12Kids] at hc; omega
    have hat : at' (kids p a) (k : Int) = (kids p a)[k] := by simp [at', hk1]
    have hmem : (kids p a)[k] ∈ kids p a := List.getElem_mem hk1
    have htk : (kids p a).take (k + 1) = (kids p a).take k ++ [(kids p a)[k]] := List.take_succ_eq_append_getElem hk1
    simp only [l12Kids, hat]
    generalize (kids p a)[k] = x at hmem htk ⊢
    obtain ⟨i, rfl, hi, hx⟩ := kids_in hmem
    have hup := hp.up i hi
    refine ⟨by omega, ?_⟩
    rintro _ rfl
    refine ⟨by omega, ?_⟩
    rintro _ rfl
    refine ⟨hb _ hmem, ?_⟩
    rintro _ rfl
    have hpi : at' p (i : Int) = p.getD i default := by simp [at']
    have h4 : (l12Best p i).length + 15 ≤ 16 * 8 ^ ((p.length : Int) - i).toNat := by simp only [l12Best, bestT_eq]; exact sortedT_len hp _ _
    have hpd : 8 ^ ((p.length : Int) - i).toNat ≤ 8 ^ 8 := Nat.pow_le_pow_right (by omega) (by omega)
    refine ⟨⟨by rw [hpi]; exact hp.kind i hi, by rw [hpi]; have := hp.name i hi; omega, by omega⟩, ?_⟩
    rintro _ rfl
    have hnext := IH hk1
    rw [htk, List.foldl_append, ← hout] at hnext
    simp only [List.foldl_cons, List.foldl_nil] at hnext
    generalize nodeText (at' p (i : Int)) (l12Best p i) = s at hnext
    refine loopW.up1 out.length (fun j => ∀ m < j, at' out (m : Int) ≤ s) (by simp) ?_
    rintro j K' hj hI IH'
    refine ⟨fun b => b = (decide (j < out.length) && decide (at' out (j : Int) ≤ s)), ?_, ?_⟩
    · rintro _ rfl _ rfl
      simp only [decide_eq_true_eq, decide_eq_false_iff_not]
      refine ⟨fun hc => ⟨by omega, ?_⟩, fun hc => ?_⟩
      · rintro _ rfl _ rfl
        rw [leq_le]
        have : j < out.length := by omega
        simp [this]
      · have : ¬ j < out.length := by omega
        simp [this]
    · rintro _ rfl
      refine ⟨fun hc => ?_, fun hc => ?_⟩
      · simp only [Bool.and_eq_true, decide_eq_true_eq] at hc
        refine ⟨by simp only [I64]; omega, ?_⟩
        rintro _ rfl
        refine IH' hc.1 fun m hm => ?_
        rcases Nat.lt_or_ge m j with h5 | h5
        · exact hI m h5
        · rw [show m = j by omega]; exact hc.2
      · simp only [Bool.and_eq_false_iff, decide_eq_false_iff_not] at hc
        have hins := ins_at s out j hj hI (fun hl => hc.resolve_left (by simpa using hl))
        refine ⟨by omega, ?_⟩
        rintro _ rfl
        refine ⟨by simp; omega, ?_⟩
        rintro _ rfl
        refine ⟨by simp; omega, ?_⟩
        rintro _ rfl
        refine ⟨by omega, ?_⟩
        rintro _ rfl
        refine ⟨by simp; omega, ?_⟩
        rintro _ rfl
        refine ⟨by simp only [I64]; omega, ?_⟩
        rintro _ rfl
        refine hnext _ ?_
        rw [← hins]
        simp
  · have hke : k = (kids p a).length := by simp only [l12Kids] at hc; omega
    rw [hout, hke, List.take_length]
abbrev l12Best_pre (p : Proc) (a : Int) : Prop := l12Sorted_pre p a
def l12Best_wp (p : Proc) (parent : Int) (Z : Str → Prop) : Prop :=
  (l12Sorted_pre p parent) ∧ ∀ r5 : List Str, r5 = l12Sorted p parent → ∀ len6 : Int, len6 = (r5.length : Int) → ∀ c8 : Bool, c8 = decide (len6 = 0) → ((c8 = true → Z [48]) ∧ (c8 = false → ((0 : Int) ≤ 0 ∧ (0 : Int) < r5.length) ∧ ∀ x11 : Str, x11 = at' r5 0 → loopW (σ := Str × Int) (fun (s16, i17) K20 => ∀ len21 : Int, len21 = (r5.length : Int) → ∀ c23 : Bool, c23 = decide (i17 < len21) → ((c23 = true → (s16.length + [124].length < 4611686018427387904) ∧ ∀ v26 : Str, v26 = s16 ++ [124] → (0 ≤ i17 ∧ i17 < r5.length) ∧ ∀ x29 : Str, x29 = at' r5 i17 → (v26.length + x29.length < 4611686018427387904) ∧ ∀ v32 : Str, v32 = v26 ++ x29 → (I64 (i17 + 1)) ∧ ∀ v35 : Int, v35 = i17 + 1 → K20 (v32, v35)) ∧ (c23 = false → Z s16))) (x11, 1)))
theorem best_top {p : Proc} (h : goodP p = true) (hall : ∀ a : Int, -1 ≤ a → a < p.length → BestOk p a) : BestOk p (-1) := hall (-1) (by omega) (by omega)
theorem l12Sorted_eq {p : Proc} {a : Int} (h : sortedIn_pre p a) : l12Sorted p a = (sortT ((kids p a).map fun x => nodeText (at' p x) (l12Best p x))).1 := foldl_sort (fun x => nodeText (at' p x) (l12Best p x)) _
theorem l12Best_join {p : Proc} {a : Int} (h : sortedIn_pre p a) : joinTexts (l12Sorted p a) = l12Best p a := by
  obtain ⟨hp, h1, h2⟩ := h
  obtain ⟨d, hd⟩ : ∃ d, ((p.length : Int) - a).toNat = d + 1 := ⟨((p.length : Int) - a).toNat - 1, by omega⟩
  rw [l12Sorted_eq ⟨hp, h1, h2⟩]
  simp only [l12Best, bestT_eq]
  rw [hd]
  simp only [sortedT]
  have : (kids p a).map (fun y => nodeText (at' p y) (sortedT p ((p.length : Int) - y).toNat y)) = (kids p a).map fun y => nodeText (at' p y) (sortedT p d y) := by
    refine List.map_congr_left fun y hy => ?_
    obtain ⟨i, rfl, hi, hx⟩ := kids_in hy
    have := hp.up i hi
    rw [sortedT_fuel hp _ d i (by omega) (by omega) (by omega)]
  rw [this]
theorem l12Sorted_len {p : Proc} {a : Int} (h : sortedIn_pre p a) : (l12Sorted p a).length ≤ 8 ∧ ∀ s ∈ l12Sorted p a, s.length ≤ 2147483648 + 12 := by
  obtain ⟨hp, h1, h2⟩ := h
  have hp8 := hp.len
  rw [l12Sorted_eq ⟨hp, h1, h2⟩]
  have hl : (kids p a).length ≤ p.length := idxs_len _ _ _
  refine ⟨by simp [sortT]; omega, fun s hs => ?_⟩
  simp only [sortT, List.mem_mergeSort, List.mem_map] at hs
  obtain ⟨y, hy, rfl⟩ := hs
  obtain ⟨i, rfl, hi, hx⟩ := kids_in hy
  have h3 := nodeText_len (at' p i) (l12Best p i) (by simpa [at'] using hp.name i hi)
  have h4 : (l12Best p i).length + 15 ≤ 16 * 8 ^ ((p.length : Int) - i).toNat := by simp only [l12Best, bestT_eq]; exact sortedT_len hp _ _
  have hpd : 8 ^ ((p.length : Int) - i).toNat ≤ 8 ^ 8 := Nat.pow_le_pow_right (by omega) (by omega)
  omega
theorem l12Best_vc (p : Proc) (a : Int) (h : l12Best_pre p a) : l12Best_wp p a (fun y => y = l12Best p a) := by
  have hs : sortedIn_pre p a := ⟨h.1, h.2.1, h.2.2.1⟩
  obtain ⟨hl, hb⟩ := l12Sorted_len hs
  unfold l12Best_wp
  refine ⟨h, ?_⟩
  rw [← l12Best_join hs]
  generalize l12Sorted p a = r0 at hl hb
  rintro r rfl _ rfl _ rfl
  simp only [decide_eq_true_eq, decide_eq_false_iff_not]
  refine ⟨fun h0 => ?_, fun h0 => ⟨by omega, ?_⟩⟩
  · have : r = [] := List.eq_nil_of_length_eq_zero (by omega)
    simp [this, joinTexts]
  · rintro _ rfl
    refine loopW.up (r.length - 1) (fun s => s.2 - 1) (fun k s => (s, (k : Int) + 1)) (fun _ _ => by simp) (fun k s => s = Lib.join (r.take (k + 1)) [124]) (at' r 0) (by simp) ?_ ?_
    · cases r with
      | nil => simp at h0
      | cons s0 r' => simp [at', Lib.join]
    · rintro k t K hk rfl IH
      have hj := join_len (r.take (k + 1)) [124] (2147483648 + 12) (fun s hs => hb s (List.mem_of_mem_take hs))
      have hm : (r.take (k + 1)).length * (2147483648 + 12 + [124].length) ≤ 8 * (2147483648 + 12 + 1) := Nat.mul_le_mul (by simp; omega) (by simp)
      rintro _ rfl _ rfl
      simp only [decide_eq_true_eq, decide_eq_false_iff_not]
      refine ⟨fun hc => ⟨by simp only [List.length_singleton]; omega, ?_⟩, fun hc => ?_⟩
      · rintro _ rfl
        refine ⟨by omega, ?_⟩
        rintro _ rfl
        have hk1 : k + 1 < r.length := by omega
        have hat : at' r ((k : Int) + 1) = r[k + 1] := by
          have : ((k : Int) + 1).toNat = k + 1 := by omega
          simp [at', this, hk1]
        have h12 := hb _ (List.getElem_mem hk1)
        rw [hat]
        refine ⟨by simp only [List.length_append, List.length_singleton]; omega, ?_⟩
        rintro _ rfl
        refine ⟨by simp only [I64]; omega, ?_⟩
        rintro _ rfl
        refine IH (by omega) _ ?_
        rw [List.take_succ_eq_append_getElem hk1, intercalate_snoc _ _ (by intro h; have := congrArg List.length h; rw [List.length_take, List.length_nil] at this; omega)]
      · have : r.take (k + 1) = r := List.take_of_length_le (by omega)
        rw [this, joinTexts, if_neg (by rintro rfl; simp at h0)]
theorem l12Best_sorted (p : Proc) (a : Int) : l12Best p a = sortedIn p a := bestT_eq p _ a
abbrev sAreCongruent_pre (p q : Proc) : Prop := procHuge p ∧ procHuge q ∧ (goodP p = true → BestOk p (-1)) ∧ (goodP q = true → BestOk q (-1))
abbrev sAreCongruent (p q : Proc) : Bool × Bool := AreCongruent p q
-- spec.AreCongruent is not in this seat
end Go.Ab.Vg

/- Congruence of processes (statement 9): the law. -/
namespace Go.Ab.Vg
set_option linter.unusedSimpArgs false
set_option linter.unusedVariables false
abbrev szT (p : Proc) (left : Int) : Int := if szProc p left < 0 then -1 else szProc p left
abbrev idP (p : Proc) : Proc := p
abbrev eqP (p q : Proc) : Bool := decide (p = q)
abbrev lawCongr (_ _ : Proc) : Bool := true
abbrev lawCongr_pre (p q : Proc) : Prop := Small p ∧ Small q
-- laws.FnExactAreCongruent is not in this seat
theorem szNodes_down : ∀ (p : Proc) (left : Int), szNodes p left ≤ max left (-1)
  | [], left => by simp [szNodes]; omega
  | x :: r, left => by
    rw [szNodes]
    split
    · omega
    · have := szNodes_down r (szStr x.name left)
      have h2 : szStr x.name left ≤ max left (-1) := by unfold szStr; split <;> omega
      omega
theorem szT_le {p : Proc} {left : Int} (h : ¬ szT p left < 0) : 0 ≤ szT p left ∧ szT p left ≤ left ∧ (p.length : Int) ≤ left ∧ ∀ x ∈ p, (x.name.length : Int) ≤ left := by
  have h0 : 0 ≤ szProc p left := by
    rcases Int.lt_or_le (szProc p left) 0 with hl | hl
    · exact (h (by simp [szT, hl])).elim
    · exact hl
  have he : szT p left = szProc p left := if_neg (by omega)
  obtain ⟨h1, h2⟩ := szProc_le h0
  refine ⟨by omega, ?_, h1, h2⟩
  rw [he]
  unfold szProc at h0 ⊢
  split at h0
  · omega
  · rw [if_neg (by assumption)]
    have := szNodes_down p (left - p.length)
    omega
theorem huge_of {p : Proc} {left : Int} (h : ¬ szT p left < 0) (hl : left ≤ 1048576) : procHuge p := by
  obtain ⟨_, _, h1, h2⟩ := szT_le h
  refine ⟨by omega, fun i hi => ?_⟩
  have := h2 (p.getD i default) (by simp [hi])
  omega
end Go.Ab.Vg

/- Bigraphs as values: types of data, and what a valid one is. -/
namespace Go.Ab
set_option linter.unusedSimpArgs false

structure Control where
  name : Str
  ports : Int
  kind : Int
  deriving Inhabited, DecidableEq
structure GNode where
  control : Int
  parent : Int
  links : List Int
  deriving Inhabited, DecidableEq
structure Wire where
  name : Str
  link : Int
  deriving Inhabited, DecidableEq
structure Big where
  roots : Int
  nodes : List GNode
  sites : List Int
  edges : Int
  outer : List Str
  inner : List Wire
  deriving Inhabited, DecidableEq
abbrev Sig := List Control

/-- A cell that is a slice. -/
def sliceC {α : Type} (fr : Bool) (f : α → List AVal) (l : List α) : List AVal := [.list fr (l.map f)]
def Control.cells (x : Control) : List AVal := [str x.name, int x.ports, int x.kind]
def Wire.cells (x : Wire) : List AVal := [str x.name, int x.link]
def GNode.cells (t : Bool) (x : GNode) : List AVal := [int x.control, int x.parent, .list t (x.links.map intC)]
def encSig (t : Bool) (s : Sig) : AVal := .list t (s.map Control.cells)
def encI (t : Bool) (l : List Int) : AVal := .list t (l.map intC)
def encS (t : Bool) (l : List Str) : AVal := .list t (l.map strC)
def encW (t : Bool) (l : List Wire) : AVal := .list t (l.map Wire.cells)
def encN (t : Bool) (l : List GNode) : AVal := .list t (l.map (GNode.cells t))
def Big.cells (t : Bool) (b : Big) : List AVal := [int b.roots, encN t b.nodes, encI t b.sites, int b.edges, encS t b.outer, encW t b.inner]
def encB (t : Bool) (b : Big) : AVal := .agg (b.cells t)

theorem ints_flat (l : List Int) : ∀ e ∈ l.map intC, ∀ a ∈ e, flat a = true := by simp [intC]
theorem strs_flat (l : List Str) : ∀ e ∈ l.map strC, ∀ a ∈ e, flat a = true := by simp [strC]
theorem wires_flat (l : List Wire) : ∀ e ∈ l.map Wire.cells, ∀ a ∈ e, flat a = true := by simp [Wire.cells]
theorem sig_flat (l : Sig) : ∀ e ∈ l.map Control.cells, ∀ a ∈ e, flat a = true := by simp [Control.cells]

theorem old_encI (t : Bool) (l : List Int) : old (encI t l) = encI false l := by rw [encI, old_list, maps_old_flat (ints_flat l)]; rfl
theorem old_encS (t : Bool) (l : List Str) : old (encS t l) = encS false l := by rw [encS, old_list, maps_old_flat (strs_flat l)]; rfl
theorem old_encW (t : Bool) (l : List Wire) : old (encW t l) = encW false l := by rw [encW, old_list, maps_old_flat (wires_flat l)]; rfl
theorem old_encSig (t : Bool) (l : Sig) : old (encSig t l) = encSig false l := by rw [encSig, old_list, maps_old_flat (sig_flat l)]; rfl
theorem old_node (t : Bool) (x : GNode) : (x.cells t).map old = x.cells false := by
  simp only [GNode.cells, List.map_cons, List.map_nil, old_v]
  have := old_encI t x.links
  simp only [encI] at this
  rw [this]
theorem old_encN (t : Bool) (l : List GNode) : old (encN t l) = encN false l := by
  rw [encN, old_list, List.map_map]
  simp only [encN]
  congr 1
  exact List.map_congr_left fun x _ => old_node t x
theorem old_encB (t : Bool) (b : Big) : old (encB t b) = encB false b := by
  simp only [encB, Big.cells, old_agg, List.map_cons, List.map_nil, old_v, old_encN, old_encI, old_encS, old_encW]

theorem imm_encI (t : Bool) (l : List Int) : Imm (encI t l) := .list _ _ fun e he a ha => Imm.flat (ints_flat l e he a ha)
theorem imm_encS (t : Bool) (l : List Str) : Imm (encS t l) := .list _ _ fun e he a ha => Imm.flat (strs_flat l e he a ha)
theorem imm_encW (t : Bool) (l : List Wire) : Imm (encW t l) := .list _ _ fun e he a ha => Imm.flat (wires_flat l e he a ha)
theorem imm_encSig (t : Bool) (l : Sig) : Imm (encSig t l) := .list _ _ fun e he a ha => Imm.flat (sig_flat l e he a ha)
theorem imm_node (t : Bool) (x : GNode) : ∀ a ∈ x.cells t, Imm a := by
  intro a ha
  simp only [GNode.cells, List.mem_cons, List.not_mem_nil, or_false] at ha
  rcases ha with rfl | rfl | rfl
  · exact .v _
  · exact .v _
  · exact imm_encI t x.links
theorem imm_encN (t : Bool) (l : List GNode) : Imm (encN t l) := by
  refine .list _ _ fun e he a ha => ?_
  obtain ⟨x, _, rfl⟩ := List.mem_map.1 he
  exact imm_node t x a ha
theorem imm_encB (t : Bool) (b : Big) : Imm (encB t b) := by
  refine .agg _ fun a ha => ?_
  simp only [Big.cells, List.mem_cons, List.not_mem_nil, or_false] at ha
  rcases ha with rfl | rfl | rfl | rfl | rfl | rfl
  · exact .v _
  · exact imm_encN t _
  · exact imm_encI t _
  · exact .v _
  · exact imm_encS t _
  · exact imm_encW t _
section
variable {H : Heap} {n : Nat}
theorem ArgOk.encI (t : Bool) (l : List Int) : ArgOk H n (encI t l) (encI false l) := ArgOk.imm' (imm_encI t l) (old_encI t l)
theorem ArgOk.encS (t : Bool) (l : List Str) : ArgOk H n (encS t l) (encS false l) := ArgOk.imm' (imm_encS t l) (old_encS t l)
theorem ArgOk.encW (t : Bool) (l : List Wire) : ArgOk H n (encW t l) (encW false l) := ArgOk.imm' (imm_encW t l) (old_encW t l)
theorem ArgOk.encSig (t : Bool) (l : Sig) : ArgOk H n (encSig t l) (encSig false l) := ArgOk.imm' (imm_encSig t l) (old_encSig t l)
theorem ArgOk.encN (t : Bool) (l : List GNode) : ArgOk H n (encN t l) (encN false l) := ArgOk.imm' (imm_encN t l) (old_encN t l)
theorem ArgOk.encB (t : Bool) (b : Big) : ArgOk H n (encB t b) (encB false b) := ArgOk.imm' (imm_encB t b) (old_encB t b)
end

def okControl (c : Control) : Bool := isNm c.name && within c.ports 0 3 && within c.kind 0 2
def newName (sig : Sig) (i : Nat) : Bool := !(sig.take i).any fun d => d.name == (sig.getD i default).name
def goodSig (sig : Sig) : Bool := within sig.length 1 6 && (List.range sig.length).all fun i => okControl (sig.getD i default) && newName sig i
def ascends (l : List Str) (i : Nat) : Bool := decide (i = 0) || Op.bytesLess (l.getD (i - 1) []) (l.getD i [])
def goodNames (l : List Str) : Bool := decide (l.length ≤ 16) && (List.range l.length).all fun i => isNm (l.getD i []) && ascends l i
def okLink (b : Big) (l : Int) : Bool := within l 0 (b.edges + b.outer.length - 1)
def okParent (sig : Sig) (b : Big) (parent : Int) (below : Nat) : Bool :=
  if parent < 0 then decide (-b.roots ≤ parent) else decide (parent < below) && decide ((sig.getD (b.nodes.getD parent.toNat default).control.toNat default).kind ≠ 2)
def okNodeB (sig : Sig) (b : Big) (i : Nat) : Bool :=
  within (b.nodes.getD i default).control 0 (sig.length - 1) && okParent sig b (b.nodes.getD i default).parent i && decide ((b.nodes.getD i default).links.length = (sig.getD (b.nodes.getD i default).control.toNat default).ports) &&
    (b.nodes.getD i default).links.all (okLink b)
def goodB (sig : Sig) (b : Big) : Bool :=
  goodSig sig && within b.roots 0 4 && decide (b.nodes.length ≤ 8) && decide (b.sites.length ≤ 4) && within b.edges 0 8 && goodNames b.outer && goodNames (b.inner.map (·.name)) &&
    (List.range b.nodes.length).all (okNodeB sig b) && b.sites.all (fun p => okParent sig b p b.nodes.length) && b.inner.all (fun w => okLink b w.link)
end Go.Ab

/- The conversion of bytes to a string; laws.markText. -/
namespace Go.Ab
set_option linter.unusedSimpArgs false

theorem bytes_fold : ∀ (ns : List Int) (s : Array UInt8), ns.foldl (fun r n => r.push (UInt8.ofNat n.toNat)) (ByteArray.mk s) = ByteArray.mk (s ++ (ns.map fun n => UInt8.ofNat n.toNat).toArray)
  | [], s => by simp
  | n :: ns, s => by
    have h : (ByteArray.mk s).push (UInt8.ofNat n.toNat) = ByteArray.mk (s.push (UInt8.ofNat n.toNat)) := rfl
    rw [List.foldl_cons, h, bytes_fold ns]
    congr 1
    simp

/-- The conversion of a slice of bytes to a string. -/
theorem step_convertBytes {P : Program} {N : Nat} {Ty : Types} (hT : TypesOk P Ty) {ρ : Env} {H : Heap} {n : Nat} {d : Option Tmp} {ty : TypeId} {pos : String} {af : Array Edge} {gu : Option (Nat × Bool)} {s t : TypeId} {x : Operand} {j : TI} {els : List (List AVal)} {ns : List Int}
    (hs : kd Ty s = .slice j) (hj : j.desc = .int .u8) (ht : kd Ty t = .string) (hx : srcOf H (ρ.ev x) = some els) (hn : els = ns.map fun n => [.v (.int .u8 n)]) :
    OpSem P N ⟨d, .convert s t x, ty, pos, af, gu⟩ ρ H n fun v1 H1 n1 => v1 = str (ns.map fun n => UInt8.ofNat n.toNat) ∧ H1 = H ∧ n1 = n := by
  refine OpSem.of_value fun c a hH hn' g r => ?_
  subst hH hn'
  obtain ⟨i1, e, hi1, hd1, he⟩ := kd_slice hs
  obtain ⟨i2, hi2, hd2⟩ := kd_string ht
  have d1 := (hT s i1 hi1).1
  rw [hd1] at d1
  have d2 := (hT t i2 hi2).1
  rw [hd2] at d2
  have d3 := (hT e j he).1
  rw [hj] at d3
  have hsrc := srcOf_ok (sz := 1) g (r.ev x) hx (by subst hn; simp)
  refine ⟨_, .string ⟨(ns.map fun n => UInt8.ofNat n.toNat).toArray⟩, c, ?_, ⟨rfl, rfl, rfl⟩, .v _, g, Keeps.refl c⟩
  rcases hsrc with ⟨h1, h2⟩ | ⟨ad, cap, news, h1, h2, h3, h4⟩
  · have h0 : ns = [] := by rw [h2] at hn; simpa using hn.symm
    subst h0
    have := run_convert_bytes_string (P := P) c.w s t e none 0 0 d1 d3 d2
    simp [execOp, h1, this, Conv.bytesToString, Sem.run_pure]
    rfl
  · have hnews : news = ns.map (Value.int .u8) := by
      apply List.ext_getElem?
      intro q
      rcases Nat.lt_or_ge q ns.length with hq | hq
      · have hel : els[q]? = some [.v (.int .u8 ns[q])] := by rw [hn]; simp [hq]
        obtain ⟨_, h5⟩ := h4 q _ hel
        obtain ⟨u, hu, hr⟩ := h5 0 _ rfl
        simp only [Nat.mul_one, Nat.add_zero] at hu
        rw [hu, hr.v_inv]
        simp [hq]
      · rw [List.getElem?_eq_none (by rw [h2, hn]; simpa using hq), List.getElem?_eq_none (by simpa using hq)]
    have hl := run_loadCells_list (P := P) c.w ad news h3
    have hlen : news.length = els.length := by rw [h2, Nat.mul_one]
    rw [hlen, hnews] at hl
    have h5 := run_bytesToString c.w ad els.length cap ns hl
    have h6 := run_convert_bytes_string (P := P) c.w s t e (some ad) els.length cap d1 d3 d2
    have h7 := bytes_fold ns #[]
    have h8 : (ByteArray.empty : ByteArray) = ByteArray.mk #[] := rfl
    simp [execOp, h1, h6, h5, h8, h7]
end Go.Ab

/- Contract of laws.markText. -/
namespace Go.Ab
open Go.Proofs
set_option linter.unusedSimpArgs false

/-- The digits of a number ahead of a text. -/
def digs (k : Nat) (out : Str) : Str := if k = 0 then out else digs (k / 10) (UInt8.ofNat (48 + k % 10) :: out)
  termination_by k
  decreasing_by omega
def markTextL (k : Nat) : Str := if k = 0 then [109, 48] else 109 :: digs k []

theorem wrap_u8 {a : Int} (h : 0 ≤ a) (h2 : a < 256) : IntKind.u8.wrap a = a := by
  unfold IntKind.wrap
  simp [IntKind.min, IntKind.max, IntKind.bits, IntKind.signed]
  omega

theorem e47 : Ent Tryz.prog 47 := Ent.of Tryz.func47 (by kernel_rfl) rfl

set_option maxRecDepth 20000 in
theorem markText_ok (k : Nat) (hk : k ≤ 1152921504606846976) : PureC Tryz.prog 47 [int k] (fun r => r = str (markTextL k)) := by
  refine PureC.of Tryz.func47 rfl Tryz.ntmps47 (by simp) fun Q hQ => ?_
  refine Runs.seqE Ty_ok (by decide) fun k' hk' => ?_
  simp   -- R0
  refine hk' _ _ _ ?_
  refine Runs.seq ?_
  refine Runs.seqE Ty_ok (by decide) fun k' hk' => ?_
  simp   -- R1
  refine hk' _ _ _ ?_
  refine Runs.ite rfl (fun hc1 => ?_) (fun hc1 => ?_)   -- t5
  · simp at hc1
    refine Runs.seqE Ty_ok (by decide) fun k' hk' => ?_
    simp   -- R2
    refine hk' _ _ _ ?_
    refine Runs.ret Tryz.func47 (RetOk.one Tryz.results47) (hQ _ _ _ _ (.v _ _ _) ?_)
    simp [markTextL, hc1]
  · simp at hc1
    refine Runs.skip ?_
    refine Runs.seqE Ty_ok (by decide) fun k' hk' => ?_
    simp   -- R3
    refine hk' _ _ _ ?_
    refine Runs.seq ?_
    refine Runs.block (Runs.loopM (fun m ρ H n => ρ 0 = int m ∧ ∃ out : Str, ρ 3 = str out ∧ out.length + m ≤ k ∧ digs m out = digs k []) k ?_ ?_)
    · simp
    · rintro m ρ H n ⟨h0, out, h3, hlen, hd⟩ IH
      refine Runs.seq ?_
      refine Runs.seqE Ty_ok (by decide) fun k' hk' => ?_
      simp [h0]   -- R4
      refine hk' _ _ _ ?_
      refine Runs.ite rfl (fun hc2 => ?_) (fun hc2 => ?_)   -- t7
      · simp at hc2
        refine Runs.skip ?_
        refine Runs.block ?_
        refine Runs.seqE Ty_ok (by decide) fun k' hk' => ?_
        obtain ⟨g, hg⟩ : ∃ g : Nat, g = 48 + m % 10 := ⟨_, rfl⟩
        obtain ⟨q, hq'⟩ : ∃ q : Nat, q = m / 10 := ⟨_, rfl⟩
        have hq : ((m : Int).tdiv 10) = (q : Int) := by rw [Int.tdiv_eq_ediv_of_nonneg (by omega)]; omega
        have hw : IntKind.i64.wrap (48 + ((m : Int).tmod 10)) = (g : Int) := by
          rw [Int.tmod_eq_emod_of_nonneg (by omega), wrap64] <;> omega
        have hw2 : IntKind.i64.wrap (q : Int) = (q : Int) := by rw [wrap64] <;> omega
        have hw3 : IntKind.u8.wrap (g : Int) = (g : Int) := wrap_u8 (by omega) (by omega)
        simp [h0, h3, hw, hw3]   -- R5
        refine RunK.op Ty_ok (by decide) (by decide) rfl (step_convertBytes (ns := [(g : Int)]) (els := [[.v (.int .u8 g)]]) Ty_ok kd_93 (by kernel_rfl) kd_9 (by simp [srcOf]) rfl) ?_
        rintro v H' n' ⟨rfl, rfl, rfl⟩
        simp [h3, show 1 + out.length < 4611686018427387904 by omega]
        refine hk' _ _ _ ?_
        refine Runs.evalE Ty_ok (by decide) fun k' hk' => ?_
        simp [h0, hq, hw2]   -- R6
        refine hk' _ _ _ ?_
        refine Runs.inBlock ?_
        refine IH q _ _ _ (by omega) ⟨by simp, UInt8.ofNat g :: out, by simp, by simp; omega, ?_⟩
        rw [← hd, hg, hq']
        conv => rhs; rw [digs, if_neg (by omega)]
      · simp at hc2
        subst hc2
        rw [digs, if_pos rfl] at hd
        refine Runs.exit rfl ?_
        refine Runs.seqE Ty_ok (by decide) fun k' hk' => ?_
        simp [h3, show 1 + out.length < 4611686018427387904 by omega]   -- R7
        refine hk' _ _ _ ?_
        refine Runs.ret Tryz.func47 (RetOk.one Tryz.results47) (hQ _ _ _ _ (.v _ _ _) ?_)
        simp [markTextL, hc1, hd, show ¬ k = 0 by omega]
end Go.Ab

/- The laws' own functions on bigraphs' types: copies, marks, and whether marks are held. -/
namespace Go.Ab.Vg
set_option linter.unusedSimpArgs false
set_option linter.unusedVariables false
theorem list_fill {α : Type} [Inhabited α] {a : List α} {k : Nat} (hk : k < a.length) : (a.take k ++ List.replicate (a.length - k) default).set k a[k] = a.take (k + 1) ++ List.replicate (a.length - (k + 1)) default := by
  rw [List.set_append_right _ _ (by simp; omega)]
  rw [List.take_succ_eq_append_getElem hk, List.append_assoc]
  congr 1
  have h1 : a.length - k = (a.length - (k + 1)) + 1 := by omega
  have h2 : k - (a.take k).length = 0 := by simp; omega
  rw [h1, h2, List.replicate_succ]
  rfl
abbrev filled {α : Type} [Inhabited α] (a : List α) (k : Nat) : List α := a.take k ++ List.replicate (a.length - k) default
theorem filled_len {α : Type} [Inhabited α] {a : List α} {k : Nat} (hk : k ≤ a.length) : (filled a k).length = a.length := by simp [filled]; omega
theorem filled_set {α : Type} [Inhabited α] {a : List α} {k : Nat} (hk : k < a.length) : (filled a k).set k (at' a (k : Int)) = filled a (k + 1) := by rw [at_lt hk]; exact list_fill hk
theorem filled_end {α : Type} [Inhabited α] (a : List α) : filled a a.length = a := by simp [filled]
theorem filled_zero {α : Type} [Inhabited α] (a : List α) : filled a 0 = List.replicate a.length default := by simp [filled]

abbrev toIntS (a : List Int) := a
abbrev toIntS_pre (a : List Int) : Prop := a.length ≤ 1048576
-- laws.toIntS is not in this seat
abbrev toStringS (a : List Str) := a
abbrev toStringS_pre (a : List Str) : Prop := a.length ≤ 1048576
-- laws.toStringS is not in this seat
abbrev toControl (a : Control) := a
-- laws.toControl is not in this seat
abbrev toControlS (a : List Control) := a
abbrev toControlS_pre (a : List Control) : Prop := a.length ≤ 1048576
-- laws.toControlS is not in this seat
abbrev toWire (a : Wire) := a
-- laws.toWire is not in this seat
abbrev toWireS (a : List Wire) := a
abbrev toWireS_pre (a : List Wire) : Prop := a.length ≤ 1048576
-- laws.toWireS is not in this seat
abbrev toNode (a : GNode) := a
abbrev toNode_pre (a : GNode) : Prop := a.links.length ≤ 1048576
-- laws.toNode is not in this seat
abbrev toNodeS (a : List GNode) := a
abbrev toNodeS_pre (a : List GNode) : Prop := a.length ≤ 1048576 ∧ ∀ x ∈ a, x.links.length ≤ 1048576
-- laws.toNodeS is not in this seat
abbrev toBigraph (a : Big) := a
abbrev toBigraph_pre (a : Big) : Prop := (a.nodes.length ≤ 1048576 ∧ ∀ x ∈ a.nodes, x.links.length ≤ 1048576) ∧ a.sites.length ≤ 1048576 ∧ a.outer.length ≤ 1048576 ∧ a.inner.length ≤ 1048576
-- laws.toBigraph is not in this seat
/-- Elements that are marked up to one. -/
def markPre {α : Type} (g : α → Int → α) (c : Int) (l : List α) (k : Int) (i : Nat) : List α := l.mapIdx fun j x => if j < i then g x (k + c * j) else x
def markL {α : Type} (g : α → Int → α) (c : Int) (l : List α) (k : Int) : List α × Int := (markPre g c l k l.length, k + c * l.length)
section
variable {α : Type} (g : α → Int → α) (c : Int) (l : List α) (k : Int)
theorem markPre_zero : markPre g c l k 0 = l := by
  apply List.ext_getElem
  · simp [markPre]
  · intro j h1 h2
    simp [markPre]
theorem markPre_len (i : Nat) : (markPre g c l k i).length = l.length := by simp [markPre]
theorem markPre_get [Inhabited α] {i : Nat} (hi : i < l.length) : at' (markPre g c l k i) (i : Int) = l[i] := by
  rw [at_lt (by rw [markPre_len]; exact hi)]
  simp [markPre]
theorem markPre_set {i : Nat} (hi : i < l.length) : (markPre g c l k i).set i (g l[i] (k + c * i)) = markPre g c l k (i + 1) := by
  apply List.ext_getElem
  · simp [markPre]
  · intro j h1 h2
    simp only [List.getElem_set, markPre, List.getElem_mapIdx]
    by_cases hj : i = j
    · subst hj
      simp
    · rw [if_neg hj]
      by_cases h3 : j < i
      · rw [if_pos h3, if_pos (by omega)]
      · rw [if_neg h3, if_neg (by omega)]
end
def markTxt (k : Int) : Str := markTextL k.toNat
abbrev markTxt_pre (k : Int) : Prop := 0 ≤ k ∧ k ≤ 1152921504606846976
abbrev MarkOk (c n k : Int) : Prop := 0 ≤ k ∧ n ≤ 1048576 ∧ k + c * n ≤ 1152921504606846976

abbrev markIntS (l : List Int) (k : Int) := markL (fun _ k => k) 1 l k
abbrev markIntS_pre (l : List Int) (k : Int) : Prop := MarkOk 1 l.length k
-- laws.markIntS is not in this seat
abbrev markStringS (l : List Str) (k : Int) := markL (fun _ k => markTxt k) 1 l k
abbrev markStringS_pre (l : List Str) (k : Int) : Prop := MarkOk 1 l.length k
-- laws.markStringS is not in this seat
theorem at_set {α : Type} [Inhabited α] {l : List α} {i : Nat} {x : α} (hi : i < l.length) : at' (l.set i x) (i : Int) = x := by
  rw [at_lt (by simpa using hi)]
  simp
abbrev markWireS (l : List Wire) (k : Int) := markL (fun _ k => (⟨markTxt k, k + 1⟩ : Wire)) 2 l k
abbrev markWireS_pre (l : List Wire) (k : Int) : Prop := MarkOk 2 l.length k
-- laws.markWireS is not in this seat
abbrev markControlS (l : List Control) (k : Int) := markL (fun _ k => (⟨markTxt k, k + 1, k + 1 + 1⟩ : Control)) 3 l k
abbrev markControlS_pre (l : List Control) (k : Int) : Prop := MarkOk 3 l.length k
-- laws.markControlS is not in this seat
/-- Whether marks are there. -/
def heldIntS (l : List Int) (k : Int) : Int := if (List.range l.length).all (fun i => decide (at' l (i : Int) = k + i)) then k + l.length else -1
abbrev heldIntS_pre (l : List Int) (k : Int) : Prop := MarkOk 1 l.length k
-- laws.heldIntS is not in this seat
theorem held_mark (l : List Int) (k : Int) : heldIntS (markIntS l k).1 k = (markIntS l k).2 := by
  have hl : (markIntS l k).1.length = l.length := by simp [markIntS, markL, markPre_len]
  rw [heldIntS, if_pos, hl]
  · simp [markIntS, markL]
  · rw [List.all_eq_true]
    intro j hj
    have hj := List.mem_range.1 hj
    rw [at_lt hj]
    rw [hl] at hj
    simp [markIntS, markL, markPre, hj]
theorem marked_len {α : Type} (g : α → Int → α) (c : Int) (l : List α) (k : Int) : (markL g c l k).1.length = l.length := by simp [markL, markPre_len]
end Go.Ab.Vg

/- Marks on processes: what the laws' own functions on processes do. -/
namespace Go.Ab.Vg
set_option linter.unusedSimpArgs false
set_option linter.unusedVariables false
abbrev markAmbS (l : List AmbNode) (k : Int) := markL (fun _ k => (⟨k, markTxt (k + 1), k + 1 + 1⟩ : AmbNode)) 3 l k
abbrev markAmbS_pre (l : List AmbNode) (k : Int) : Prop := MarkOk 3 l.length k
def markAmbS_wp (a : List AmbNode) (k_ : Int) (Z : ((List AmbNode) × Int) → Prop) : Prop :=
  loopW (σ := Int × Int × (List AmbNode)) (fun (k10, i11, l12) K15 => ∀ len16 : Int, len16 = (l12.length : Int) → ∀ c18 : Bool, c18 = decide (i11 < len16) → ((c18 = true → (0 ≤ i11 ∧ i11 < l12.length) ∧ ∀ x25 : AmbNode, x25 = at' l12 i11 → ∀ l28 : List AmbNode, l28 = l12.set i11.toNat (AmbNode.mk k10 x25.name x25.parent) → (I64 (k10 + 1)) ∧ ∀ v34 : Int, v34 = k10 + 1 → (markTxt_pre v34) ∧ ∀ r37 : Str, r37 = markTxt v34 → (0 ≤ i11 ∧ i11 < l28.length) ∧ ∀ x44 : AmbNode, x44 = at' l28 i11 → ∀ l47 : List AmbNode, l47 = l28.set i11.toNat (AmbNode.mk x44.kind r37 x44.parent) → (I64 (v34 + 1)) ∧ ∀ v53 : Int, v53 = v34 + 1 → (0 ≤ i11 ∧ i11 < l47.length) ∧ ∀ x61 : AmbNode, x61 = at' l47 i11 → ∀ l64 : List AmbNode, l64 = l47.set i11.toNat (AmbNode.mk x61.kind x61.name v53) → (I64 (v53 + 1)) ∧ ∀ v70 : Int, v70 = v53 + 1 → (I64 (i11 + 1)) ∧ ∀ v73 : Int, v73 = i11 + 1 → K15 (v70, v73, l64)) ∧ (c18 = false → Z (l12, k10)))) (k_, 0, a)
theorem markAmbS_vc (l : List AmbNode) (k : Int) (h : markAmbS_pre l k) : markAmbS_wp l k (fun y => y = markAmbS l k) := by
  unfold markAmbS_wp
  obtain ⟨h1, h2, h3⟩ := h
  refine loopW.up l.length (fun s => s.2.1) (fun i t => (k + 3 * i, (i : Int), t)) (fun _ _ => rfl) (fun i out => out = markPre (fun _ k => (⟨k, markTxt (k + 1), k + 1 + 1⟩ : AmbNode)) 3 l k i) l (by simp) (markPre_zero _ _ _ _).symm ?_
  rintro i out K hk rfl IH
  have hl := markPre_len (fun _ k => (⟨k, markTxt (k + 1), k + 1 + 1⟩ : AmbNode)) 3 l k i
  simp only [forall_eq, decide_eq_true_eq, decide_eq_false_iff_not, I64, Int.toNat_natCast, List.length_set]
  refine ⟨fun h4 => ⟨by omega, by omega, by simp only [markTxt_pre]; omega, by omega, by omega, by omega, by omega, by omega, ?_⟩, fun h4 => ?_⟩
  · have hi : i < l.length := by omega
    rw [at_set (by rw [hl]; exact hi), List.set_set, at_set (by simp only [List.length_set, hl]; exact hi), List.set_set]
    have := IH hi _ rfl
    rw [← markPre_set _ _ _ _ hi] at this
    rw [show k + 3 * (((i + 1 : Nat)) : Int) = k + 3 * i + 1 + 1 + 1 by omega] at this
    simpa using this
  · rw [show i = l.length by omega]
    rfl
abbrev markProcess (p : Proc) (k : Int) : Proc × Int := markAmbS p k
abbrev markProcess_pre (p : Proc) (k : Int) : Prop := MarkOk 3 p.length k
def markProcess_wp (a : Proc) (k_ : Int) (Z : (Proc × Int) → Prop) : Prop :=
  (markAmbS_pre a k_) ∧ ∀ r8 : (List AmbNode) × Int, r8 = markAmbS a k_ → Z (r8.1, r8.2)
theorem markProcess_vc (p : Proc) (k : Int) (h : markProcess_pre p k) : markProcess_wp p k (fun y => y = markProcess p k) := by
  unfold markProcess_wp
  exact ⟨h, by rintro _ rfl; rfl⟩
def heldAmbS (l : List AmbNode) (k : Int) : Int := if (List.range l.length).all (fun i => decide ((at' l (i : Int)).kind = k + 3 * i ∧ (at' l (i : Int)).name = markTxt (k + 3 * i + 1) ∧ (at' l (i : Int)).parent = k + 3 * i + 1 + 1)) then k + 3 * l.length else -1
abbrev heldAmbS_pre (l : List AmbNode) (k : Int) : Prop := MarkOk 3 l.length k
def heldAmbS_wp (a : List AmbNode) (k_ : Int) (Z : Int → Prop) : Prop :=
  loopW (σ := Int × Int) (fun (k5, i6) K9 => ∀ len10 : Int, len10 = (a.length : Int) → ∀ c12 : Bool, c12 = decide (i6 < len10) → ((c12 = true → (0 ≤ i6 ∧ i6 < a.length) ∧ ∀ x15 : AmbNode, x15 = at' a i6 → ∀ c17 : Bool, c17 = decide (x15.kind ≠ k5) → ((c17 = true → Z (-1)) ∧ (c17 = false → (I64 (k5 + 1)) ∧ ∀ v20 : Int, v20 = k5 + 1 → (0 ≤ i6 ∧ i6 < a.length) ∧ ∀ x23 : AmbNode, x23 = at' a i6 → (markTxt_pre v20) ∧ ∀ r27 : Str, r27 = markTxt v20 → ∀ c28 : Bool, c28 = decide (x15.name ≠ r27) → ((c28 = true → Z (-1)) ∧ (c28 = false → (I64 (v20 + 1)) ∧ ∀ v32 : Int, v32 = v20 + 1 → (0 ≤ i6 ∧ i6 < a.length) ∧ ∀ x35 : AmbNode, x35 = at' a i6 → ∀ c37 : Bool, c37 = decide (x35.parent ≠ v32) → ((c37 = true → Z (-1)) ∧ (c37 = false → (I64 (v32 + 1)) ∧ ∀ v40 : Int, v40 = v32 + 1 → (I64 (i6 + 1)) ∧ ∀ v43 : Int, v43 = i6 + 1 → K9 (v40, v43)))))))) ∧ (c12 = false → Z k5))) (k_, 0)
theorem heldAmbS_vc (l : List AmbNode) (k : Int) (h : heldAmbS_pre l k) : heldAmbS_wp l k (fun y => y = heldAmbS l k) := by
  unfold heldAmbS_wp
  obtain ⟨h1, h2, h3⟩ := h
  refine loopW.up (τ := Unit) l.length (fun s => s.2) (fun i _ => (k + 3 * i, (i : Int))) (fun _ _ => rfl) (fun i _ => ∀ j < i, (at' l (j : Int)).kind = k + 3 * j ∧ (at' l (j : Int)).name = markTxt (k + 3 * j + 1) ∧ (at' l (j : Int)).parent = k + 3 * j + 1 + 1) () (by simp) (by simp) ?_
  rintro i _ K hk hI IH
  simp only [forall_eq, decide_eq_true_eq, decide_eq_false_iff_not, I64]
  have hno : i < l.length → ¬ ((at' l (i : Int)).kind = k + 3 * i ∧ (at' l (i : Int)).name = markTxt (k + 3 * i + 1) ∧ (at' l (i : Int)).parent = k + 3 * i + 1 + 1) → heldAmbS l k = -1 := fun hi hn => by
    rw [heldAmbS, if_neg]
    rw [List.all_eq_true]
    intro h6
    exact hn (by simpa using h6 i (List.mem_range.2 hi))
  refine ⟨fun h4 => ⟨by omega, fun h5 => ?_, fun h5 => ⟨by omega, by omega, by simp only [markTxt_pre]; omega, fun h6 => ?_, fun h6 => ⟨by omega, by omega, fun h7 => ?_, fun h7 => ⟨by omega, by omega, ?_⟩⟩⟩⟩, fun h4 => ?_⟩
  · exact (hno (by omega) fun h => h5 h.1).symm
  · exact (hno (by omega) fun h => h6 h.2.1).symm
  · exact (hno (by omega) fun h => h7 h.2.2).symm
  · have hi : i < l.length := by omega
    have := IH hi () (fun j hj => by
      rcases Nat.lt_or_ge j i with h8 | h8
      · exact hI j h8
      · rw [show j = i by omega]
        exact ⟨by simpa using h5, by simpa using h6, by simpa using h7⟩)
    rw [show k + 3 * (((i + 1 : Nat)) : Int) = k + 3 * i + 1 + 1 + 1 by omega] at this
    simpa using this
  · have hi : i = l.length := by omega
    rw [heldAmbS, if_pos, hi]
    rw [List.all_eq_true]
    intro j hj
    simpa using hI j (by have := List.mem_range.1 hj; omega)
theorem heldAmb_mark (l : List AmbNode) (k : Int) : heldAmbS (markAmbS l k).1 k = (markAmbS l k).2 := by
  have hl : (markAmbS l k).1.length = l.length := marked_len _ _ _ _
  rw [heldAmbS, if_pos, hl]
  · rfl
  · rw [List.all_eq_true]
    intro j hj
    have hj := List.mem_range.1 hj
    rw [at_lt hj]
    rw [hl] at hj
    simp [markAmbS, markL, markPre, hj]
def heldProcess (p : Proc) (k : Int) : Int := if heldAmbS p k < 0 then -1 else heldAmbS p k
abbrev heldProcess_pre (p : Proc) (k : Int) : Prop := MarkOk 3 p.length k
def heldProcess_wp (a : Proc) (k_ : Int) (Z : Int → Prop) : Prop :=
  (heldAmbS_pre a k_) ∧ ∀ r5 : Int, r5 = heldAmbS a k_ → ∀ c6 : Bool, c6 = decide (r5 < 0) → ((c6 = true → Z (-1)) ∧ (c6 = false → Z r5))
theorem heldProcess_vc (p : Proc) (k : Int) (h : heldProcess_pre p k) : heldProcess_wp p k (fun y => y = heldProcess p k) := by
  unfold heldProcess_wp
  refine ⟨h, ?_⟩
  rintro _ rfl
  simp only [forall_eq, decide_eq_true_eq, decide_eq_false_iff_not, heldProcess]
  exact ⟨fun h => (if_pos h).symm, fun h => (if_neg h).symm⟩
theorem heldP_mark (p : Proc) (k : Int) (hk : 0 ≤ k) : heldProcess (markProcess p k).1 k = (markProcess p k).2 := by
  rw [heldProcess, heldAmb_mark, if_neg]
  simp only [markL]
  omega
abbrev toAmbNode (a : AmbNode) := a
def toAmbNode_wp (a : AmbNode) (Z : AmbNode → Prop) : Prop :=
  Z a
theorem toAmbNode_vc (a : AmbNode) : toAmbNode_wp a (fun y => y = toAmbNode a) := rfl
abbrev toAmbNodeS (a : List AmbNode) := a
abbrev toAmbNodeS_pre (a : List AmbNode) : Prop := a.length ≤ 1048576
def toAmbNodeS_wp (a : List AmbNode) (Z : (List AmbNode) → Prop) : Prop :=
  ∀ len2 : Int, len2 = (a.length : Int) → (0 ≤ len2 ∧ len2 ≤ 1073741824) ∧ ∀ l5 : List AmbNode, l5 = List.replicate len2.toNat default → loopW (σ := Int × (List AmbNode)) (fun (i16, l17) K21 => ∀ len22 : Int, len22 = (a.length : Int) → ∀ c24 : Bool, c24 = decide (i16 < len22) → ((c24 = true → (0 ≤ i16 ∧ i16 < a.length) ∧ ∀ x27 : AmbNode, x27 = at' a i16 → ∀ r29 : AmbNode, r29 = toAmbNode x27 → (0 ≤ i16 ∧ i16 < l17.length) ∧ ∀ x35 : AmbNode, x35 = at' l17 i16 → ∀ l38 : List AmbNode, l38 = l17.set i16.toNat r29 → (I64 (i16 + 1)) ∧ ∀ v45 : Int, v45 = i16 + 1 → K21 (v45, l38)) ∧ (c24 = false → Z l17))) (0, l5)
theorem toAmbNodeS_vc (a : List AmbNode) (h : toAmbNodeS_pre a) : toAmbNodeS_wp a (fun y => y = toAmbNodeS a) := by
  unfold toAmbNodeS_wp
  simp only [toAmbNodeS_pre] at h
  simp only [forall_eq, Int.toNat_natCast]
  refine ⟨by omega, loopW.upL a.length (fun k out => out = filled a k) _ (filled_zero a).symm ?_⟩
  rintro k out K hk rfl IH
  have hl := filled_len hk
  simp only [decide_eq_true_eq, decide_eq_false_iff_not, I64, Int.toNat_natCast]
  refine ⟨fun h1 => ⟨by omega, by omega, by omega, IH (by omega) _ (filled_set (by omega))⟩, fun h1 => ?_⟩
  rw [show k = a.length by omega]
  exact filled_end a
abbrev toProcess (p : Proc) : Proc := p
abbrev toProcess_pre (p : Proc) : Prop := p.length ≤ 1048576
def toProcess_wp (a : Proc) (Z : Proc → Prop) : Prop :=
  (toAmbNodeS_pre a) ∧ ∀ r8 : List AmbNode, r8 = toAmbNodeS a → Z r8
theorem toProcess_vc (p : Proc) (h : toProcess_pre p) : toProcess_wp p (fun y => y = toProcess p) := by
  unfold toProcess_wp
  exact ⟨h, by rintro _ rfl; rfl⟩
end Go.Ab.Vg

/- The plain law of the parser of processes: with names looked at while reading, or behind it. -/
namespace Go.Ab
set_option linter.unusedSimpArgs false

def kindOf (s : Str) : Nat × Str :=
  if (word 0).isPrefixOf s then (1, s.drop (word 0).length) else if (word 1).isPrefixOf s then (2, s.drop (word 1).length) else if (word 2).isPrefixOf s then (3, s.drop (word 2).length) else (0, s)
def opn (k : Nat) : Str := if k = 0 then [91] else [46, 40]
def cls (k : Nat) : Str := if k = 0 then [93] else [41]

mutual
def pNode (chk : Bool) : Nat → Int → Str → Proc → Option (Str × Proc)
  | 0, _, _, _ => none
  | g + 1, parent, s, l =>
    if (chk && !isNm ((kindOf s).2.takeWhile lower)) || !(opn (kindOf s).1).isPrefixOf ((kindOf s).2.dropWhile lower) || l.length == 8 then none else
    match pIn chk g l.length (((kindOf s).2.dropWhile lower).drop (opn (kindOf s).1).length) (l ++ [⟨(kindOf s).1, (kindOf s).2.takeWhile lower, parent⟩]) with
    | none => none
    | some (r, l2) => if (cls (kindOf s).1).isPrefixOf r then some (r.drop 1, l2) else none
def pIn (chk : Bool) : Nat → Int → Str → Proc → Option (Str × Proc)
  | 0, _, _, _ => none
  | g + 1, parent, s, l =>
    if List.isPrefixOf [48] s then some (s.drop 1, l) else
    match pNode chk g parent s l with
    | none => none
    | some (r, l2) => pLoop chk g parent r l2
def pLoop (chk : Bool) : Nat → Int → Str → Proc → Option (Str × Proc)
  | 0, _, _, _ => none
  | g + 1, parent, s, l =>
    if List.isPrefixOf [124] s then
      match pNode chk g parent (s.drop 1) l with
      | none => none
      | some (r, l2) => pLoop chk g parent r l2
    else some (s, l)
end

theorem kindOf_le (s : Str) : (kindOf s).1 ≤ 3 := by
  unfold kindOf
  split
  · simp
  · split
    · simp
    · split <;> simp

theorem kindOf_len (s : Str) : (kindOf s).2.length ≤ s.length := by
  unfold kindOf
  split
  · simp
  · split
    · simp
    · split <;> simp

/-- What reading adds. -/
def Adds (chk : Bool) (parent : Int) (l l2 : Proc) : Prop :=
  ∃ m, l2 = l ++ m ∧ l2.length ≤ 8 ∧ ∀ (i : Nat) (x : AmbNode), m[i]? = some x → 0 ≤ x.kind ∧ x.kind ≤ 3 ∧ (x.parent = parent ∨ (l.length : Int) ≤ x.parent ∧ x.parent < l.length + i) ∧ (chk = true → isNm x.name = true)

theorem Adds.refl {chk : Bool} {parent : Int} {l : Proc} (hl : l.length ≤ 8) : Adds chk parent l l := ⟨[], by simp, hl, by simp⟩
theorem Adds.trans {chk : Bool} {parent : Int} {l l2 l3 : Proc} (h : Adds chk parent l l2) (k : Adds chk parent l2 l3) : Adds chk parent l l3 := by
  obtain ⟨m, rfl, h2, h3⟩ := h
  obtain ⟨m', rfl, k2, k3⟩ := k
  refine ⟨m ++ m', by simp, by omega, fun i x hx => ?_⟩
  rcases Nat.lt_or_ge i m.length with hi | hi
  · rw [List.getElem?_append_left hi] at hx
    exact h3 i x hx
  · rw [List.getElem?_append_right hi] at hx
    obtain ⟨a1, a2, a3, a4⟩ := k3 _ x hx
    refine ⟨a1, a2, ?_, a4⟩
    rcases a3 with h | h
    · exact .inl h
    · simp only [List.length_append] at h
      exact .inr ⟨by omega, by omega⟩

/-- A node and what is in it. -/
theorem Adds.node {chk : Bool} {parent : Int} {x : AmbNode} {l l2 : Proc} (hx : x.parent = parent) (hk : 0 ≤ x.kind ∧ x.kind ≤ 3) (hn : chk = true → isNm x.name = true) (k : Adds chk l.length (l ++ [x]) l2) : Adds chk parent l l2 := by
  obtain ⟨m', rfl, k2, k3⟩ := k
  refine ⟨[x] ++ m', by simp, by simpa using k2, fun i y hy => ?_⟩
  cases i with
  | zero => simp at hy; subst hy; exact ⟨hk.1, hk.2, .inl hx, hn⟩
  | succ i =>
    simp at hy
    obtain ⟨a1, a2, a3, a4⟩ := k3 _ y hy
    simp only [List.length_append, List.length_cons, List.length_nil] at a3
    refine ⟨a1, a2, .inr ?_, a4⟩
    rcases a3 with h | h <;> omega

theorem p_adds (chk : Bool) : ∀ g parent s l s2 l2, l.length ≤ 8 →
    (pNode chk g parent s l = some (s2, l2) → Adds chk parent l l2 ∧ l.length < l2.length ∧ s2.length ≤ s.length) ∧
    (pIn chk g parent s l = some (s2, l2) → Adds chk parent l l2 ∧ s2.length ≤ s.length) ∧
    (pLoop chk g parent s l = some (s2, l2) → Adds chk parent l l2 ∧ s2.length ≤ s.length)
  | 0, parent, s, l, s2, l2, _ => by simp [pNode, pIn, pLoop]
  | g + 1, parent, s, l, s2, l2, hl => by
    refine ⟨fun h => ?_, fun h => ?_, fun h => ?_⟩
    · rw [pNode] at h
      split at h
      · cases h
      · rename_i hc
        simp only [Bool.or_eq_true, not_or, Bool.and_eq_true, not_and, beq_iff_eq, Bool.not_eq_true', Bool.not_eq_true] at hc
        split at h
        · cases h
        · rename_i r l3 hr
          split at h
          · cases h
            have hl8 : l.length < 8 := by have := hc.2; omega
            obtain ⟨h1, h2⟩ := (p_adds chk g _ _ _ _ _ (by simp; omega)).2.1 hr
            obtain ⟨m, e1, _⟩ := id h1
            refine ⟨Adds.node rfl ⟨by simp, ?_⟩ (fun hk => ?_) h1, by rw [e1]; simp, ?_⟩
            · have := kindOf_le s
              simp
              omega
            · have := hc.1.1 hk
              simpa using this
            · have h4 := kindOf_len s
              have h5 : ((kindOf s).2.dropWhile lower).length ≤ (kindOf s).2.length := (List.dropWhile_suffix _).length_le
              simp at h2 ⊢
              omega
          · cases h
    · rw [pIn] at h
      split at h
      · cases h
        exact ⟨.refl hl, by simp⟩
      · split at h
        · cases h
        · rename_i r l3 hr
          obtain ⟨h1, _, h2⟩ := (p_adds chk g _ _ _ _ _ hl).1 hr
          obtain ⟨h3, h4⟩ := (p_adds chk g _ _ _ _ _ h1.choose_spec.2.1).2.2 h
          exact ⟨h1.trans h3, by omega⟩
    · rw [pLoop] at h
      split at h
      · split at h
        · cases h
        · rename_i r l3 hr
          obtain ⟨h1, _, h2⟩ := (p_adds chk g _ _ _ _ _ hl).1 hr
          obtain ⟨h3, h4⟩ := (p_adds chk g _ _ _ _ _ h1.choose_spec.2.1).2.2 h
          simp at h2
          exact ⟨h1.trans h3, by omega⟩
      · cases h
        exact ⟨.refl hl, by simp⟩

/-- A name that is none behind the first k nodes. -/
def BadIn (l : Proc) (k : Nat) : Prop := ∃ x ∈ l.drop k, isNm x.name = false

/-- Looking at the names while reading, or behind it. -/
def Both (a b : Option (Str × Proc)) (k : Nat) : Prop := (∃ x, a = some x ∧ b = some x) ∨ (a = none ∧ (b = none ∨ ∃ s2 l2, b = some (s2, l2) ∧ BadIn l2 k))

theorem BadIn.of {parent : Int} {l l2 : Proc} {k : Nat} (h : BadIn l k) (ha : Adds false parent l l2) : BadIn l2 k := by
  obtain ⟨x, hx, hn⟩ := h
  obtain ⟨m, rfl, _⟩ := ha
  refine ⟨x, ?_, hn⟩
  rw [List.drop_append]
  simp [hx]
theorem BadIn.le {l : Proc} {k k' : Nat} (h : BadIn l k) (hk : k' ≤ k) : BadIn l k' := by
  obtain ⟨x, hx, hn⟩ := h
  refine ⟨x, ?_, hn⟩
  have : l.drop k = (l.drop k').drop (k - k') := by rw [List.drop_drop]; congr 1; omega
  rw [this] at hx
  exact List.mem_of_mem_drop hx

theorem p_both : ∀ g parent s l, l.length ≤ 8 →
    Both (pNode true g parent s l) (pNode false g parent s l) l.length ∧ Both (pIn true g parent s l) (pIn false g parent s l) l.length ∧ Both (pLoop true g parent s l) (pLoop false g parent s l) l.length
  | 0, parent, s, l, _ => by simp [pNode, pIn, pLoop, Both]
  | g + 1, parent, s, l, hl => by
    have loop : ∀ (s' : Str), Both (match pNode true g parent s' l with | none => none | some (r, l2) => pLoop true g parent r l2) (match pNode false g parent s' l with | none => none | some (r, l2) => pLoop false g parent r l2) l.length := by
      intro s'
      rcases (p_both g parent s' l hl).1 with ⟨⟨r, l2⟩, h1, h2⟩ | ⟨h1, h2 | ⟨r, l2, h2, h3⟩⟩
      · rw [h1, h2]
        have hlt := ((p_adds true g parent s' l r l2 hl).1 h1)
        have hl2 := hlt.1.choose_spec.2.1
        have hlt := hlt.2.1
        rcases (p_both g parent r l2 hl2).2.2 with h | ⟨h, h' | ⟨r', l3, h', h''⟩⟩
        · exact .inl h
        · exact .inr ⟨h, .inl h'⟩
        · exact .inr ⟨h, .inr ⟨r', l3, h', h''.le (by omega)⟩⟩
      · rw [h1, h2]
        exact .inr ⟨rfl, .inl rfl⟩
      · rw [h1, h2]
        have hl2 := ((p_adds false g parent s' l r l2 hl).1 h2).1.choose_spec.2.1
        cases h4 : pLoop false g parent r l2 with
        | none => exact .inr ⟨rfl, .inl h4⟩
        | some x => exact .inr ⟨rfl, .inr ⟨x.1, x.2, h4, h3.of ((p_adds false g parent r l2 x.1 x.2 hl2).2.2 h4).1⟩⟩
    refine ⟨?_, ?_, ?_⟩
    · rw [pNode, pNode]
      by_cases hc : (!(opn (kindOf s).1).isPrefixOf ((kindOf s).2.dropWhile lower) || l.length == 8) = true
      · rw [if_pos (by simp only [Bool.or_assoc, hc, Bool.or_true]), if_pos (by simp only [Bool.or_assoc, hc, Bool.or_true])]
        exact .inr ⟨rfl, .inl rfl⟩
      · have hc' : (!(opn (kindOf s).1).isPrefixOf ((kindOf s).2.dropWhile lower) || l.length == 8) = false := by simpa using hc
        have hl8 : l.length < 8 := by simp at hc'; omega
        rw [Bool.or_assoc, hc', Bool.or_assoc, hc']
        cases hn : isNm ((kindOf s).2.takeWhile lower)
        · simp only [Bool.not_false, Bool.and_true, Bool.or_false, Bool.true_and, Bool.false_and, if_true, if_false]
          refine .inr ⟨rfl, ?_⟩
          cases h4 : pIn false g l.length (((kindOf s).2.dropWhile lower).drop (opn (kindOf s).1).length) (l ++ [⟨(kindOf s).1, (kindOf s).2.takeWhile lower, parent⟩]) with
          | none => exact .inl (by simp)
          | some x =>
            obtain ⟨r, l2⟩ := x
            simp only [Bool.false_eq_true, if_false]
            split
            · refine .inr ⟨_, l2, rfl, ?_⟩
              obtain ⟨m, e, _⟩ := ((p_adds false g _ _ _ _ _ (by simp; omega)).2.1 h4).1
              refine ⟨⟨(kindOf s).1, (kindOf s).2.takeWhile lower, parent⟩, ?_, hn⟩
              rw [e]
              simp
            · exact .inl rfl
        · simp only [Bool.not_true, Bool.and_false, Bool.or_false, if_false, Bool.false_eq_true]
          rcases (p_both g l.length (((kindOf s).2.dropWhile lower).drop (opn (kindOf s).1).length) (l ++ [⟨(kindOf s).1, (kindOf s).2.takeWhile lower, parent⟩]) (by simp; omega)).2.1 with ⟨⟨r, l2⟩, h1, h2⟩ | ⟨h1, h2 | ⟨r, l2, h2, h3⟩⟩
          · rw [h1, h2]
            simp only
            split
            · exact .inl ⟨_, rfl, rfl⟩
            · exact .inr ⟨rfl, .inl rfl⟩
          · rw [h1, h2]
            exact .inr ⟨rfl, .inl rfl⟩
          · rw [h1, h2]
            simp only
            split
            · exact .inr ⟨rfl, .inr ⟨_, _, rfl, h3.le (by simp)⟩⟩
            · exact .inr ⟨rfl, .inl rfl⟩
    · rw [pIn, pIn]
      split
      · exact .inl ⟨_, rfl, rfl⟩
      · exact loop s
    · rw [pLoop, pLoop]
      split
      · exact loop _
      · exact .inl ⟨_, rfl, rfl⟩

/-- Reading a process. -/
def parse (s : Str) : Proc × Bool :=
  match pIn false 40 (-1) s [] with
  | none => ([], false)
  | some (r, l) => if r = [] ∧ goodP l = true ∧ textIn l (l.length + 1) (-1) = s then (l, true) else ([], false)

theorem good_of_adds {l : Proc} (h : Adds true (-1) [] l) : goodP l = true := by
  obtain ⟨m, e, h2, h3⟩ := h
  simp only [List.nil_append] at e
  subst e
  unfold goodP
  simp only [Bool.and_eq_true, List.all_eq_true, List.mem_range, decide_eq_true_eq]
  refine ⟨fun i hi => ?_, by omega⟩
  have hx : l[i]? = some l[i] := List.getElem?_eq_getElem hi
  obtain ⟨a1, a2, a3, a4⟩ := h3 i _ hx
  have hg : l.getD i default = l[i] := by simp [hi]
  simp only [okNode, hg, within, Bool.and_eq_true, decide_eq_true_eq]
  refine ⟨⟨⟨a1, a2⟩, a4 rfl⟩, ?_⟩
  simp only [List.length_nil] at a3
  rcases a3 with h | h <;> omega

theorem parse_chk (s : Str) : parse s = match pIn true 40 (-1) s [] with
    | none => ([], false)
    | some (r, l) => if r = [] ∧ textIn l (l.length + 1) (-1) = s then (l, true) else ([], false) := by
  unfold parse
  rcases (p_both 40 (-1) s [] (by simp)).2.1 with ⟨⟨r, l⟩, h1, h2⟩ | ⟨h1, h2 | ⟨r, l, h2, h3⟩⟩
  · have hg := good_of_adds ((p_adds true 40 _ _ _ _ _ (by simp)).2.1 h1).1
    rw [h1, h2]
    simp only [hg, true_and]
  · rw [h1, h2]
  · rw [h1, h2]
    have hg : goodP l = false := by
      obtain ⟨x, hx, hn⟩ := h3
      simp only [List.length_nil, List.drop_zero] at hx
      obtain ⟨i, hi, rfl⟩ := List.getElem_of_mem hx
      refine goodP_bad hi ?_
      have hgd : l.getD i default = l[i] := by simp [hi]
      simp only [okNode, hgd, hn, Bool.and_false, Bool.false_and]
    simp only [hg, Bool.false_eq_true, false_and, and_false, if_false]
end Go.Ab

/- CanonicalProcess (statement 13): pure conditions of the program's and the reference's functions, and of the law. -/
namespace Go.Ab.Vg
set_option linter.unusedSimpArgs false
set_option linter.unusedVariables false
theorem sorted_short {p : Proc} (h : sortedIn_pre p (-1)) : (sortedIn p (-1)).length ≤ 4294967296 := by
  obtain ⟨hp, h1, h2⟩ := h
  have hp8 := hp.len
  have h3 := sortedT_len hp ((p.length : Int) - -1).toNat (-1)
  have hpd : 8 ^ ((p.length : Int) - -1).toNat ≤ 8 ^ 9 := Nat.pow_le_pow_right (by omega) (by omega)
  simp only [sortedIn]
  omega
abbrev canonicalProcess_pre (p : Proc) : Prop := sortedIn_pre p (-1)
abbrev canonicalProcess (p : Proc) : Proc := (parse (sortedIn p (-1))).1
def canonicalProcess_wp (p : Proc) (Z : Proc → Prop) : Prop :=
  (sortedIn_pre p (-1)) ∧ ∀ r6 : Str, r6 = sortedIn p (-1) → (r6.length ≤ 4294967296) ∧ ∀ r8 : Proc × Bool, r8 = parse r6 → Z r8.1
theorem canonicalProcess_vc (p : Proc) (h : canonicalProcess_pre p) : canonicalProcess_wp p (fun y => y = canonicalProcess p) := by
  unfold canonicalProcess_wp
  refine ⟨h, ?_⟩
  rintro _ rfl
  refine ⟨sorted_short h, ?_⟩
  rintro _ rfl
  rfl
abbrev CanonicalProcess_pre (p : Proc) : Prop := procHuge p
def CanonicalProcess (p : Proc) : Proc × Bool := if goodP p then (canonicalProcess p, true) else ([], false)
theorem top_pre {p : Proc} (h : goodP p = true) : sortedIn_pre p (-1) := ⟨goodP_valid h, by omega, by omega⟩
def CanonicalProcess_wp (p : Proc) (Z : (Proc × Bool) → Prop) : Prop :=
  (procHuge p) ∧ ∀ r6 : Bool, r6 = goodP p → ((r6 = true → (canonicalProcess_pre p) ∧ ∀ r12 : Proc, r12 = canonicalProcess p → Z (r12, true)) ∧ (r6 = false → Z ([], false)))
theorem CanonicalProcess_vc (p : Proc) (h : CanonicalProcess_pre p) : CanonicalProcess_wp p (fun y => y = CanonicalProcess p) := by
  unfold CanonicalProcess_wp
  refine ⟨h, ?_⟩
  rintro _ rfl
  refine ⟨fun h1 => ⟨top_pre h1, ?_⟩, fun h1 => by rw [CanonicalProcess, h1]; rfl⟩
  rintro _ rfl
  rw [CanonicalProcess, h1]; rfl
abbrev l12Canon_pre (p : Proc) : Prop := Valid p ∧ BestOk p (-1)
abbrev l12Canon (p : Proc) : Proc := canonicalProcess p
def l12Canon_wp (p : Proc) (Z : Proc → Prop) : Prop :=
  (BestOk p (-1)) ∧ ∀ r6 : Str, r6 = l12Best p (-1) → (r6.length ≤ 4294967296) ∧ ∀ r8 : Proc × Bool, r8 = parse r6 → Z r8.1
theorem l12Canon_vc (p : Proc) (h : l12Canon_pre p) : l12Canon_wp p (fun y => y = l12Canon p) := by
  unfold l12Canon_wp
  refine ⟨h.2, ?_⟩
  rintro _ rfl
  rw [l12Best_sorted]
  refine ⟨sorted_short ⟨h.1, by omega, by omega⟩, ?_⟩
  rintro _ rfl
  rfl
abbrev sCanonicalProcess_pre (p : Proc) : Prop := procHuge p ∧ (goodP p = true → BestOk p (-1))
abbrev sCanonicalProcess (p : Proc) : Proc × Bool := CanonicalProcess p
def sCanonicalProcess_wp (p : Proc) (Z : (Proc × Bool) → Prop) : Prop :=
  (procHuge p) ∧ ∀ r6 : Bool, r6 = goodP p → ((r6 = true → (l12Canon_pre p) ∧ ∀ r9 : Proc, r9 = l12Canon p → Z (r9, true)) ∧ (r6 = false → Z ([], false)))
theorem sCanonicalProcess_vc (p : Proc) (h : sCanonicalProcess_pre p) : sCanonicalProcess_wp p (fun y => y = sCanonicalProcess p) := by
  unfold sCanonicalProcess_wp
  refine ⟨h.1, ?_⟩
  rintro _ rfl
  refine ⟨fun h1 => ⟨⟨goodP_valid h1, h.2 h1⟩, ?_⟩, fun h1 => by rw [sCanonicalProcess, CanonicalProcess, h1]; rfl⟩
  rintro _ rfl
  rw [sCanonicalProcess, CanonicalProcess, h1]; rfl
abbrev lawCanonical (_ : Proc) : Bool := true
abbrev lawCanonical_pre (p : Proc) : Prop := Small p
def lawCanonical_wp (aP : Proc) (Z : Bool → Prop) : Prop :=
  (((0 : Int) ≤ 1048576 ∧ (1048576 : Int) ≤ 1048576) ∧ Small aP) ∧ ∀ r5 : Int, r5 = szT aP 1048576 → ∀ c6 : Bool, c6 = decide (r5 < 0) → ((c6 = true → Z true) ∧ (c6 = false → (toProcess_pre aP) ∧ ∀ r9 : Proc, r9 = toProcess aP → (procHuge r9) ∧ ∀ r21 : Proc × Bool, r21 = CanonicalProcess r9 → (toProcess_pre aP) ∧ ∀ r25 : Proc, r25 = toProcess aP → (CanonicalProcess_pre r25) ∧ ∀ r42 : Proc × Bool, r42 = CanonicalProcess r25 → joinW (fun (J63 : Bool → Prop) => (r42.1.length ≤ 1048576) ∧ ∀ r172 : Bool, r172 = decide (r42.1 = r21.1) → ((r172 = true → ∀ c173 : Bool, c173 = !(r42.2 == r21.2) → J63 (c173)) ∧ (r172 = false → J63 (true)))) (fun b66 => ((b66 = true → Z false) ∧ (b66 = false → (toProcess_pre aP) ∧ ∀ r72 : Proc, r72 = toProcess aP → (r25.length ≤ 1048576) ∧ ∀ r74 : Bool, r74 = decide (r25 = r72) → ((r74 = true → (markProcess_pre r25 1) ∧ ∀ r76 : Proc × Int, r76 = markProcess r25 1 → joinW (fun (J88 : Bool → Prop) => ∀ c165 : Bool, c165 = decide (r76.2 < 0) → ((c165 = true → J88 (true)) ∧ (c165 = false → (r42.1.length ≤ 1048576) ∧ ∀ r168 : Bool, r168 = decide (r42.1 = r21.1) → ((r168 = true → ∀ c169 : Bool, c169 = !(r42.2 == r21.2) → J88 (c169)) ∧ (r168 = false → J88 (true)))))) (fun b91 => ((b91 = true → Z false) ∧ (b91 = false → (markProcess_pre r42.1 1) ∧ ∀ r96 : Proc × Int, r96 = markProcess r42.1 1 → (heldProcess_pre r96.1 1) ∧ ∀ r109 : Int, r109 = heldProcess r96.1 1 → ∀ c110 : Bool, c110 = decide (r109 < 0) → ((c110 = true → Z false) ∧ (c110 = false → ∀ c112 : Bool, c112 = decide (r109 ≠ r96.2) → ((c112 = true → Z false) ∧ (c112 = false → (toProcess_pre aP) ∧ ∀ r115 : Proc, r115 = toProcess aP → (CanonicalProcess_pre r115) ∧ ∀ r127 : Proc × Bool, r127 = CanonicalProcess r115 → joinW (fun (J148 : Bool → Prop) => (r127.1.length ≤ 1048576) ∧ ∀ r162 : Bool, r162 = decide (r127.1 = r21.1) → ((r162 = true → ∀ c163 : Bool, c163 = !(r127.2 == r21.2) → J148 (c163)) ∧ (r162 = false → J148 (true)))) (fun b151 => ((b151 = true → Z false) ∧ (b151 = false → (heldProcess_pre r96.1 1) ∧ ∀ r156 : Int, r156 = heldProcess r96.1 1 → ∀ c157 : Bool, c157 = decide (r156 < 0) → ((c157 = true → Z false) ∧ (c157 = false → ∀ c159 : Bool, c159 = decide (r156 ≠ r96.2) → ((c159 = true → Z false) ∧ (c159 = false → Z true))))))))))))))) ∧ (r74 = false → Z false)))))))
theorem parse_short (s : Str) : (parse s).1.length ≤ 8 := by
  rw [parse_chk]
  cases h : pIn true 40 (-1) s [] with
  | none => simp
  | some x =>
    obtain ⟨r, l⟩ := x
    have := ((p_adds true 40 _ _ _ _ _ (by simp)).2.1 h).1.choose_spec.2.1
    simp only
    split
    · exact this
    · simp
theorem canonical_len (p : Proc) : (CanonicalProcess p).1.length ≤ 8 := by
  unfold CanonicalProcess
  split
  · exact parse_short _
  · simp
theorem lawCanonical_vc (p : Proc) (h : lawCanonical_pre p) : lawCanonical_wp p (fun y => y = lawCanonical p) := by
  unfold lawCanonical_wp
  simp only [forall_eq, decide_eq_true_eq, decide_eq_false_iff_not, toProcess]
  refine ⟨⟨by omega, h⟩, fun _ => trivial, fun h1 => ?_⟩
  have hp := huge_of h1 (by omega)
  have hT : toProcess_pre p := hp.1
  have hL := canonical_len p
  refine ⟨hT, hp, hT, hp, fun c => c = false, ⟨by omega, fun _ => by simp, fun h => absurd trivial h⟩, ?_⟩
  rintro _ rfl
  have hk : (markProcess p 1).2 = 1 + 3 * p.length := rfl
  have hm : (markProcess (CanonicalProcess p).1 1).2 = 1 + 3 * (CanonicalProcess p).1.length := rfl
  have hml : (markProcess (CanonicalProcess p).1 1).1.length = (CanonicalProcess p).1.length := marked_len _ _ _ _
  have hh := heldP_mark (CanonicalProcess p).1 1 (by omega)
  refine ⟨fun h => (by cases h), fun _ => ⟨hT, hp.1, fun _ => ⟨⟨by omega, by omega, by omega⟩, fun c => c = false, ⟨fun h => by omega, fun _ => ⟨by omega, fun _ => by simp, fun h => absurd trivial h⟩⟩, ?_⟩, fun h => absurd trivial h⟩⟩
  rintro _ rfl
  refine ⟨fun h => (by cases h), fun _ => ⟨⟨by omega, by omega, by omega⟩, ⟨by omega, by omega, by omega⟩, fun h => by omega, fun _ => ⟨fun h => absurd hh h, fun _ => ⟨hT, hp, fun c => c = false, ⟨by omega, fun _ => by simp, fun h => absurd trivial h⟩, ?_⟩⟩⟩⟩
  rintro _ rfl
  exact ⟨fun h => (by cases h), fun _ => ⟨⟨by omega, by omega, by omega⟩, fun h => by omega, fun _ => ⟨fun h => absurd hh h, fun _ => trivial⟩⟩⟩
end Go.Ab.Vg

/- Contracts of (impl.Proc).isNode, isIdleNode, spec.l12Has and spec.l12Idle, at valid processes. -/
namespace Go.Ab
open Go.Proofs
set_option linter.unusedSimpArgs false
theorem e48 : Ent Tryz.prog 48 := Ent.of Tryz.func48 (by kernel_rfl) rfl
theorem e49 : Ent Tryz.prog 49 := Ent.of Tryz.func49 (by kernel_rfl) rfl
theorem e32 : Ent Tryz.prog 32 := Ent.of Tryz.func32 (by kernel_rfl) rfl
theorem e51 : Ent Tryz.prog 51 := Ent.of Tryz.func51 (by kernel_rfl) rfl
theorem e52 : Ent Tryz.prog 52 := Ent.of Tryz.func52 (by kernel_rfl) rfl
theorem e30 : Ent Tryz.prog 30 := Ent.of Tryz.func30 (by kernel_rfl) rfl
theorem e57 : Ent Tryz.prog 57 := Ent.of Tryz.func57 (by kernel_rfl) rfl

theorem isNode_ok (p : Proc) (k : Int) (hp : p.length ≤ 1048576) : PureC Tryz.prog 51 [encP false p, int k] (fun r => r = bool (within k 0 ((p.length : Int) - 1))) := by
  refine PureC.of Tryz.func51 rfl Tryz.ntmps51 (by simp) fun Q hQ => ?_
  refine Runs.seqE Ty_ok (by decide) fun k' hk' => ?_
  simp [encP]   -- R0
  refine hk' _ _ _ ?_
  refine Runs.seqE Ty_ok (by decide) fun k' hk' => ?_
  simp [show -9223372036854775808 ≤ (p.length : Int) - 1 by omega, show (p.length : Int) - 1 ≤ 9223372036854775807 by omega]   -- R1
  refine RunK.callA Ty_ok (within_ok k 0 ((p.length : Int) - 1)) e43 (.cons (.v _ _ _) (.cons (.v _ _ _) (.cons (.v _ _ _) .nil))) (by decide) (by decide) rfl (by simp) ?_
  rintro _ rfl
  simp
  refine hk' _ _ _ ?_
  exact Runs.ret Tryz.func51 (RetOk.one Tryz.results51) (hQ _ _ _ _ (.v _ _ _) rfl)

theorem l12Has_ok (p : Proc) (k : Int) (hp : p.length ≤ 1048576) : PureC Tryz.prog 48 [encP false p, int k] (fun r => r = bool (within k 0 ((p.length : Int) - 1))) := by
  refine PureC.of Tryz.func48 rfl Tryz.ntmps48 (by simp) fun Q hQ => ?_
  refine Runs.seqE Ty_ok (by decide) fun k' hk' => ?_
  simp [encP]   -- R0
  refine hk' _ _ _ ?_
  refine Runs.seqE Ty_ok (by decide) fun k' hk' => ?_
  simp [show -9223372036854775808 ≤ (p.length : Int) - 1 by omega, show (p.length : Int) - 1 ≤ 9223372036854775807 by omega]   -- R1
  refine RunK.callA Ty_ok (l1In_ok k 0 ((p.length : Int) - 1)) e38 (.cons (.v _ _ _) (.cons (.v _ _ _) (.cons (.v _ _ _) .nil))) (by decide) (by decide) rfl (by simp) ?_
  rintro _ rfl
  simp
  refine hk' _ _ _ ?_
  exact Runs.ret Tryz.func48 (RetOk.one Tryz.results48) (hQ _ _ _ _ (.v _ _ _) rfl)

def idleFrom (p : Proc) : Nat → Int → Bool
  | 0, _ => false
  | d + 1, k => if k < 0 then false else if (p.getD k.toNat default).kind ≠ 0 then true else idleFrom p d (p.getD k.toNat default).parent
def idle (p : Proc) (node : Nat) : Bool := idleFrom p 9 (p.getD node default).parent

theorem idleFrom_stop {p : Proc} {d : Nat} {k : Int} (hk : k < 0) : idleFrom p d k = false := by
  cases d <;> simp [idleFrom, hk]

theorem isIdleNode_ok {p : Proc} (hp : Valid p) (node : Nat) (hn : node < p.length) : PureC Tryz.prog 52 [encP false p, int node] (fun r => r = bool (idle p node)) := by
  have hp8 := hp.len
  have hx : p.getD node default = p[node] := by simp [hn]
  have hup := hp.up node hn
  rw [hx] at hup
  refine PureC.of Tryz.func52 rfl Tryz.ntmps52 (by simp) fun Q hQ => ?_
  refine Runs.seqE Ty_ok (by decide) fun k' hk' => ?_
  simp [encP]   -- R0
  refine hk' _ _ _ ?_
  refine Runs.seq ?_
  refine Runs.seqE Ty_ok (by decide) fun k' hk' => ?_
  simp [hn, AmbNode.cells]   -- R1
  refine hk' _ _ _ ?_
  refine Runs.block (Runs.loopM (fun m ρ H n => ρ 2 = .ptr (0, 2) 1 0 0 ∧ H (0, 2) = some ⟨1, [[.list false (p.map AmbNode.cells)]]⟩ ∧ ∃ k : Int, ρ 5 = int k ∧ -1 ≤ k ∧ k < p.length ∧ m = (k + 1).toNat ∧ ∃ d : Nat, k < d ∧ idleFrom p d k = idle p node) (p[node].parent + 1).toNat ?_ ?_)
  · refine ⟨by simp, by simp [AmbNode.cells], p[node].parent, by simp, hup.1, by omega, rfl, 9, by omega, ?_⟩
    rw [idle, hx]
  · rintro m ρ H n ⟨h2, hH, k, h5, hk0, hk1, hm, d, hd, hid⟩ IH
    refine Runs.seq ?_
    refine Runs.seqE Ty_ok (by decide) fun k' hk' => ?_
    simp [h5]   -- R2
    refine hk' _ _ _ ?_
    refine Runs.ite rfl (fun hc1 => ?_) (fun hc1 => ?_)   -- t13
    · simp only [decide_eq_true_eq] at hc1
      obtain ⟨j, rfl⟩ : ∃ j : Nat, k = j := ⟨k.toNat, by omega⟩
      have hj : j < p.length := by omega
      have hxj : p.getD j default = p[j] := by simp [hj]
      have hupj := hp.up j hj
      rw [hxj] at hupj
      obtain ⟨d', rfl⟩ : ∃ d', d = d' + 1 := ⟨d - 1, by omega⟩
      have hid2 := hid
      rw [idleFrom, if_neg (by omega), Int.toNat_natCast, hxj] at hid2
      refine Runs.skip ?_
      refine Runs.seq ?_
      refine Runs.block ?_
      refine Runs.seqE Ty_ok (by decide) fun k' hk' => ?_
      simp [h2, hH, h5, hj, AmbNode.cells]   -- R4
      refine hk' _ _ _ ?_
      refine Runs.ite rfl (fun hc2 => ?_) (fun hc2 => ?_)   -- t26
      · simp at hc2
        refine Runs.seqE Ty_ok (by decide) fun k' hk' => ?_
        simp   -- R5
        refine hk' _ _ _ ?_
        refine Runs.ret Tryz.func52 (RetOk.one Tryz.results52) (hQ _ _ _ _ (.v _ _ _) ?_)
        rw [if_pos hc2] at hid2
        rw [← hid2]
      · simp at hc2
        rw [if_neg (by simp [hc2])] at hid2
        refine Runs.skip ?_
        refine Runs.inBlock ?_
        refine Runs.evalE Ty_ok (by decide) fun k' hk' => ?_
        simp [h2, hH, h5, hj, AmbNode.cells]   -- R3
        refine hk' _ _ _ ?_
        refine IH (p[j].parent + 1).toNat _ _ _ (by omega) ?_
        exact ⟨by simp [h2], by simp [hH], p[j].parent, by simp, hupj.1, by omega, rfl, d', by omega, hid2⟩
    · simp only [decide_eq_false_iff_not] at hc1
      refine Runs.exit rfl ?_
      refine Runs.seqE Ty_ok (by decide) fun k' hk' => ?_
      simp   -- R6
      refine hk' _ _ _ ?_
      refine Runs.ret Tryz.func52 (RetOk.one Tryz.results52) (hQ _ _ _ _ (.v _ _ _) ?_)
      rw [← hid, idleFrom_stop (by omega)]

theorem l12Idle_ok {p : Proc} (hp : Valid p) (node : Nat) (hn : node < p.length) : PureC Tryz.prog 49 [encP false p, int node] (fun r => r = bool (idle p node)) := by
  have hp8 := hp.len
  have hx : p.getD node default = p[node] := by simp [hn]
  have hup := hp.up node hn
  rw [hx] at hup
  refine PureC.of Tryz.func49 rfl Tryz.ntmps49 (by simp) fun Q hQ => ?_
  refine Runs.seqE Ty_ok (by decide) fun k' hk' => ?_
  simp [encP]   -- R0
  refine hk' _ _ _ ?_
  refine Runs.seq ?_
  refine Runs.seqE Ty_ok (by decide) fun k' hk' => ?_
  simp [hn, AmbNode.cells]   -- R1
  refine hk' _ _ _ ?_
  refine Runs.block (Runs.loopM (fun m ρ H n => ρ 2 = .ptr (0, 2) 1 0 0 ∧ H (0, 2) = some ⟨1, [[.list false (p.map AmbNode.cells)]]⟩ ∧ ∃ k : Int, ρ 1 = int k ∧ -1 ≤ k ∧ k < p.length ∧ m = (k + 1).toNat ∧ ∃ d : Nat, k < d ∧ idleFrom p d k = idle p node) (p[node].parent + 1).toNat ?_ ?_)
  · refine ⟨by simp, by simp [AmbNode.cells], p[node].parent, by simp, hup.1, by omega, rfl, 9, by omega, ?_⟩
    rw [idle, hx]
  · rintro m ρ H n ⟨h2, hH, k, h5, hk0, hk1, hm, d, hd, hid⟩ IH
    refine Runs.seq ?_
    refine Runs.seqE Ty_ok (by decide) fun k' hk' => ?_
    simp [h5]   -- R2
    refine hk' _ _ _ ?_
    refine Runs.ite rfl (fun hc1 => ?_) (fun hc1 => ?_)   -- t13
    · simp only [decide_eq_true_eq] at hc1
      obtain ⟨j, rfl⟩ : ∃ j : Nat, k = j := ⟨k.toNat, by omega⟩
      have hj : j < p.length := by omega
      have hxj : p.getD j default = p[j] := by simp [hj]
      have hupj := hp.up j hj
      rw [hxj] at hupj
      obtain ⟨d', rfl⟩ : ∃ d', d = d' + 1 := ⟨d - 1, by omega⟩
      have hid2 := hid
      rw [idleFrom, if_neg (by omega), Int.toNat_natCast, hxj] at hid2
      refine Runs.skip ?_
      refine Runs.seq ?_
      refine Runs.block ?_
      refine Runs.seqE Ty_ok (by decide) fun k' hk' => ?_
      simp [h2, hH, h5, hj, AmbNode.cells]   -- R4
      refine hk' _ _ _ ?_
      refine Runs.ite rfl (fun hc2 => ?_) (fun hc2 => ?_)   -- t26
      · simp at hc2
        refine Runs.seqE Ty_ok (by decide) fun k' hk' => ?_
        simp   -- R5
        refine hk' _ _ _ ?_
        refine Runs.ret Tryz.func49 (RetOk.one Tryz.results49) (hQ _ _ _ _ (.v _ _ _) ?_)
        rw [if_pos hc2] at hid2
        rw [← hid2]
      · simp at hc2
        rw [if_neg (by simp [hc2])] at hid2
        refine Runs.skip ?_
        refine Runs.inBlock ?_
        refine Runs.evalE Ty_ok (by decide) fun k' hk' => ?_
        simp [h2, hH, h5, hj, AmbNode.cells]   -- R3
        refine hk' _ _ _ ?_
        refine IH (p[j].parent + 1).toNat _ _ _ (by omega) ?_
        exact ⟨by simp [h2], by simp [hH], p[j].parent, by simp, hupj.1, by omega, rfl, d', by omega, hid2⟩
    · simp only [decide_eq_false_iff_not] at hc1
      refine Runs.exit rfl ?_
      refine Runs.seqE Ty_ok (by decide) fun k' hk' => ?_
      simp   -- R6
      refine hk' _ _ _ ?_
      refine Runs.ret Tryz.func49 (RetOk.one Tryz.results49) (hQ _ _ _ _ (.v _ _ _) ?_)
      rw [← hid, idleFrom_stop (by omega)]

theorem draw116 : True := trivial
end Go.Ab
