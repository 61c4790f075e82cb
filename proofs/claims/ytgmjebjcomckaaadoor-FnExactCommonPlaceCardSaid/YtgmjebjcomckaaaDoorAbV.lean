/- Contracts of impl.isName, impl.IsProcess and impl.ProcessText. -/
import Derived.Test.YtgmjebjcomckaaaDoorAbQ
namespace Go.Ab
open Go.Proofs
set_option linter.unusedSimpArgs false
theorem e49 : Ent Tryd.prog 49 := Ent.of Tryd.func49 (by kernel_rfl) rfl
theorem e109 : Ent Tryd.prog 109 := Ent.of Tryd.func109 (by kernel_rfl) rfl

def lower (c : UInt8) : Bool := decide (97 ≤ c.toNat) && decide (c.toNat ≤ 122)
def isNm (s : Str) : Bool := within s.length 1 4 && s.all lower
def alpha : Str := [97, 98, 99, 100, 101, 102, 103, 104, 105, 106, 107, 108, 109, 110, 111, 112, 113, 114, 115, 116, 117, 118, 119, 120, 121, 122]

set_option maxRecDepth 10000 in
theorem alpha_lower (c : UInt8) : alpha.contains c = lower c := by
  have h : ∀ n : Fin 256, alpha.contains (UInt8.ofNat n.val) = lower (UInt8.ofNat n.val) := by decide
  have := h ⟨c.toNat, c.toNat_lt⟩
  simpa using this

theorem dropWhile_nil {q : UInt8 → Bool} : ∀ l : Str, l.dropWhile q = [] ↔ l.all q = true
  | [] => by simp
  | a :: l => by
    rw [List.dropWhile_cons]
    cases h : q a <;> simp [h, dropWhile_nil l]

theorem dropWhile_last {q : UInt8 → Bool} : ∀ l : Str, (l.dropWhile q).reverse.all q = true → l.all q = true
  | [], _ => by simp
  | a :: l, h => by
    rw [List.dropWhile_cons] at h
    cases hq : q a
    · simp [hq] at h
    · simp only [hq, if_true] at h
      have := dropWhile_last l h
      simp only [List.all_cons, hq, this, Bool.and_self]

theorem trimS_nil (s : Str) : (Lib.trimS s alpha = []) ↔ s.all lower = true := by
  have he : (fun c => alpha.contains c) = lower := funext alpha_lower
  unfold Lib.trimS Lib.trimLeftS Lib.trimRightS
  rw [he, dropWhile_nil]
  constructor
  · intro h
    have := dropWhile_last _ h
    simpa using this
  · intro h
    have h2 : s.reverse.dropWhile lower = [] := by rw [dropWhile_nil]; simpa using h
    rw [h2]
    rfl

theorem isName_ok (s : Str) (hs : s.length ≤ 1048576) : PureC Tryd.prog 109 [str s] (fun r => r = bool (isNm s)) := by
  refine PureC.of Tryd.func109 rfl Tryd.ntmps109 (by simp) fun Q hQ => ?_
  refine Runs.seqE Ty_ok (by decide) fun k' hk' => ?_
  simp   -- R0
  refine hk' _ _ _ ?_
  refine Runs.seqE Ty_ok (by decide) fun k' hk' => ?_
  simp   -- R1
  refine RunK.callA Ty_ok (within_ok s.length 1 4) e71 (.cons (.v _ _ _) (.cons (.v _ _ _) (.cons (.v _ _ _) .nil))) (by decide) (by decide) rfl (by simp) ?_
  rintro _ rfl
  cases hw : within s.length 1 4
  · simp [hw]
    refine hk' _ _ _ ?_
    exact Runs.ret Tryd.func109 (RetOk.one Tryd.results109) (hQ _ _ _ _ (.v _ _ _) (by simp [isNm, hw]))
  · simp [hw]
    refine RunK.callA Ty_ok (trim_ok s alpha (by omega) (by decide) (by decide)) e145 (.cons (.v _ _ _) (.cons (.v _ _ _) .nil)) (by decide) (by decide) rfl (by simp [alpha]) ?_
    rintro _ rfl
    simp [hw]
    refine hk' _ _ _ ?_
    refine Runs.ret Tryd.func109 (RetOk.one Tryd.results109) (hQ _ _ _ _ (.v _ _ _) ?_)
    have := trimS_nil s
    cases h : s.all lower <;> simp [h] at this <;> simp [isNm, hw, h, this]

def okNode (p : Proc) (i : Nat) : Bool := within (p.getD i default).kind 0 3 && isNm (p.getD i default).name && within (p.getD i default).parent (-1) ((i : Int) - 1)
def goodP (p : Proc) : Bool := (List.range p.length).all (okNode p) && decide (p.length ≤ 8)

theorem goodP_bad {p : Proc} {k : Nat} (hk : k < p.length) (h : okNode p k = false) : goodP p = false := by
  have : (List.range p.length).all (okNode p) = false := by
    rw [List.all_eq_false]
    exact ⟨k, List.mem_range.2 hk, by simp [h]⟩
  simp [goodP, this]

theorem goodP_end {p : Proc} (h : ∀ i, i < p.length → okNode p i = true) : goodP p = decide (p.length ≤ 8) := by
  have : (List.range p.length).all (okNode p) = true := by
    rw [List.all_eq_true]
    exact fun i hi => h i (List.mem_range.1 hi)
  simp [goodP, this]

theorem IsProcess_ok (p : Proc) (hp : p.length ≤ 1048576) (hn : ∀ i, i < p.length → (p.getD i default).name.length ≤ 1048576) : PureC Tryd.prog 49 [encP false p] (fun r => r = bool (goodP p)) := by
  refine PureC.of Tryd.func49 rfl Tryd.ntmps49 (by simp) fun Q hQ => ?_
  refine Runs.seqE Ty_ok (by decide) fun k' hk' => ?_
  simp [encP]   -- R0
  refine hk' _ _ _ ?_
  refine Runs.seq ?_
  refine Runs.seqE Ty_ok (by decide) fun k' hk' => ?_
  simp   -- R1
  refine hk' _ _ _ ?_
  refine Runs.block (Runs.loopUp p.length (fun k ρ H n => ρ 1 = .ptr (0, 1) 1 0 0 ∧ H (0, 1) = some ⟨1, [[.list false (p.map AmbNode.cells)]]⟩ ∧ ρ 6 = .list false (p.map AmbNode.cells) ∧ ρ 7 = int p.length ∧ ρ 8 = int k ∧ ∀ i, i < k → okNode p i = true) ?_ ?_)
  · simp
  · rintro k ρ H n hk ⟨h1, hH, h6, h7, h8, hall⟩ IH
    refine Runs.seqE Ty_ok (by decide) fun k' hk' => ?_
    simp [h7, h8]   -- R2
    refine hk' _ _ _ ?_
    refine Runs.seq ?_
    refine Runs.ite rfl (fun hc1 => ?_) (fun hc1 => ?_)   -- t9
    · simp at hc1
      refine Runs.skip ?_
      refine Runs.seq ?_
      refine Runs.block ?_
      refine Runs.seqE Ty_ok (by decide) fun k' hk' => ?_
      simp [h6, h8, hc1, AmbNode.cells]   -- R3
      refine hk' _ _ _ ?_
      refine Runs.seqE Ty_ok (by decide) fun k' hk' => ?_
      simp   -- R4
      have hx : p.getD k default = p[k] := by simp [hc1]
      have hok : okNode p k = (within p[k].kind 0 3 && isNm p[k].name && within p[k].parent (-1) ((k : Int) - 1)) := by rw [okNode, hx]
      have hnm := hn k hc1
      rw [hx] at hnm
      refine RunK.callA Ty_ok (within_ok p[k].kind 0 3) e71 (.cons (.v _ _ _) (.cons (.v _ _ _) (.cons (.v _ _ _) .nil))) (by decide) (by decide) rfl (by simp) ?_
      rintro _ rfl
      cases hw : within p[k].kind 0 3
      · simp [hw]
        refine hk' _ _ _ ?_
        refine Runs.ite rfl (fun _ => ?_) (fun h => by simp at h)
        refine Runs.seqE Ty_ok (by decide) fun k' hk' => ?_
        simp   -- R5
        refine hk' _ _ _ ?_
        refine Runs.ret Tryd.func49 (RetOk.one Tryd.results49) (hQ _ _ _ _ (.v _ _ _) ?_)
        rw [goodP_bad hc1 (by rw [hok]; simp [hw])]
      · simp [hw]
        refine RunK.callA Ty_ok (isName_ok p[k].name hnm) e109 (.cons (.v _ _ _) .nil) (by decide) (by decide) rfl (by simp) ?_
        rintro _ rfl
        cases hs : isNm p[k].name
        · simp [hs]
          refine hk' _ _ _ ?_
          refine Runs.ite rfl (fun _ => ?_) (fun h => by simp at h)
          refine Runs.seqE Ty_ok (by decide) fun k' hk' => ?_
          simp   -- R5
          refine hk' _ _ _ ?_
          refine Runs.ret Tryd.func49 (RetOk.one Tryd.results49) (hQ _ _ _ _ (.v _ _ _) ?_)
          rw [goodP_bad hc1 (by rw [hok]; simp [hw, hs])]
        · simp [hs, show -9223372036854775808 ≤ (k : Int) - 1 by omega, show (k : Int) - 1 ≤ 9223372036854775807 by omega]
          refine RunK.callA Ty_ok (within_ok p[k].parent (-1) ((k : Int) - 1)) e71 (.cons (.v _ _ _) (.cons (.v _ _ _) (.cons (.v _ _ _) .nil))) (by decide) (by decide) rfl (by simp) ?_
          rintro _ rfl
          cases hu : within p[k].parent (-1) ((k : Int) - 1)
          · simp [hu]
            refine hk' _ _ _ ?_
            refine Runs.ite rfl (fun _ => ?_) (fun h => by simp at h)
            refine Runs.seqE Ty_ok (by decide) fun k' hk' => ?_
            simp   -- R5
            refine hk' _ _ _ ?_
            refine Runs.ret Tryd.func49 (RetOk.one Tryd.results49) (hQ _ _ _ _ (.v _ _ _) ?_)
            rw [goodP_bad hc1 (by rw [hok]; simp [hw, hs, hu])]
          · simp [hu]
            refine hk' _ _ _ ?_
            refine Runs.ite rfl (fun h => by simp at h) (fun _ => ?_)
            refine Runs.skip ?_
            refine Runs.inBlock ?_
            refine Runs.evalE Ty_ok (by decide) fun k' hk' => ?_
            simp [h8, wrap_succ (show k < 4611686018427387904 by omega)]   -- R6
            refine hk' _ _ _ ?_
            refine IH hc1 _ _ _ ?_
            simp [h1, hH, h6, h7]
            intro i hi
            by_cases hik : i = k
            · subst hik
              rw [hok]; simp [hw, hs, hu]
            · exact hall i (by omega)
    · simp at hc1
      refine Runs.exit rfl ?_
      refine Runs.seqE Ty_ok (by decide) fun k' hk' => ?_
      simp [h1, hH]   -- R7
      refine hk' _ _ _ ?_
      refine Runs.ret Tryd.func49 (RetOk.one Tryd.results49) (hQ _ _ _ _ (.v _ _ _) ?_)
      rw [goodP_end (by rwa [show k = p.length by omega] at hall)]
      simp
      omega

theorem goodP_valid {p : Proc} (h : goodP p = true) : Valid p := by
  simp only [goodP, Bool.and_eq_true, decide_eq_true_eq, List.all_eq_true, List.mem_range] at h
  obtain ⟨h1, h2⟩ := h
  have h3 : ∀ i, i < p.length → (0 ≤ (p.getD i default).kind ∧ (p.getD i default).kind ≤ 3) ∧ ((p.getD i default).name.length ≤ 4) ∧ (-1 ≤ (p.getD i default).parent ∧ (p.getD i default).parent < i) := by
    intro i hi
    have := h1 i hi
    simp only [okNode, isNm, within, Bool.and_eq_true, decide_eq_true_eq] at this
    obtain ⟨⟨a, b, c⟩, d⟩ := this
    exact ⟨a, by omega, by omega⟩
  exact ⟨h2, fun i hi => (h3 i hi).1, fun i hi => (h3 i hi).2.1, fun i hi => (h3 i hi).2.2⟩

def processText (p : Proc) : Str × Bool := if goodP p then (textIn p (p.length + 1) (-1), true) else ([], false)

theorem ProcessText_ok (p : Proc) (hp : p.length ≤ 1048576) (hn : ∀ i, i < p.length → (p.getD i default).name.length ≤ 1048576) : PureC Tryd.prog 12 [encP false p] (fun r => r = .tup [str (processText p).1, bool (processText p).2]) := by
  refine PureC.of Tryd.func12 rfl Tryd.ntmps12 (by simp) fun Q hQ => ?_
  refine Runs.seqE Ty_ok (by decide) fun k' hk' => ?_
  simp [encP]   -- R0
  refine hk' _ _ _ ?_
  refine Runs.seq ?_
  refine Runs.seqE Ty_ok (by decide) fun k' hk' => ?_
  simp   -- R1
  refine RunK.callA Ty_ok (IsProcess_ok p hp hn) e49 (.cons (ArgOk.encP false p) .nil) (by decide) (by decide) rfl (by simp [encP]) ?_
  rintro _ rfl
  cases hg : goodP p
  · simp
    refine hk' _ _ _ ?_
    refine Runs.ite rfl (fun _ => ?_) (fun h => by simp at h)
    refine Runs.seqE Ty_ok (by decide) fun k' hk' => ?_
    simp   -- R2
    refine hk' _ _ _ ?_
    exact Runs.ret Tryd.func12 (RetOk.two Tryd.results12) (hQ _ _ _ _ (.of (Ret.fresh (by simp))) (by simp [processText, hg]))
  · simp
    refine hk' _ _ _ ?_
    refine Runs.ite rfl (fun h => by simp at h) (fun _ => ?_)
    refine Runs.skip ?_
    refine Runs.seqE Ty_ok (by decide) fun k' hk' => ?_
    simp   -- R3
    have hv := goodP_valid hg
    have := hv.len
    refine RunK.callA Ty_ok (textIn_ok hv (p.length + 1) (-1) (by omega) (by omega) (by omega) (by omega)) e50 (.cons (ArgOk.encP false p) (.cons (.v _ _ _) .nil)) (by decide) (by decide) rfl (by simp [encP]) ?_
    rintro _ rfl
    simp
    refine hk' _ _ _ ?_
    exact Runs.ret Tryd.func12 (RetOk.two Tryd.results12) (hQ _ _ _ _ (.of (Ret.fresh (by simp))) (by simp [processText, hg]))
end Go.Ab
