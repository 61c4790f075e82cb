/- Merged texts (5 of 10) of the proof that ends in Ly: Q V Ga Uj Uk Lm W Gb Gc Gd Ge Gf Gg Gh Gi Gj Gk. -/
import Derived.Test.YtgmjebjcomckaaaDoorAbQa4
import Derived.Laws.BytesString
/- Contracts of impl.joinTexts and (impl.Proc).textIn, at valid processes. -/
namespace Go.Ab
open Go.Proofs
set_option linter.unusedSimpArgs false
theorem e50 : Ent Tryd.prog 50 := Ent.of Tryd.func50 (by kernel_rfl) rfl
theorem e110 : Ent Tryd.prog 110 := Ent.of Tryd.func110 (by kernel_rfl) rfl
theorem e111 : Ent Tryd.prog 111 := Ent.of Tryd.func111 (by kernel_rfl) rfl
theorem e112 : Ent Tryd.prog 112 := Ent.of Tryd.func112 (by kernel_rfl) rfl
theorem e145 : Ent Tryd.prog 145 := Ent.of Tryd.func145 (by kernel_rfl) rfl
theorem e147 : Ent Tryd.prog 147 := Ent.of Tryd.func147 (by kernel_rfl) rfl

def joinTexts (l : List Str) : Str := if l = [] then [48] else Lib.join l [124]

theorem joinTexts_ok (l : List Str) (hl : l.length ≤ 1073741824) (hj : (Lib.join l [124]).length ≤ 140737488355328) : PureC Tryd.prog 112 [encStrs false l] (fun r => r = str (joinTexts l)) := by
  refine PureC.of Tryd.func112 rfl Tryd.ntmps112 (by simp) fun Q hQ => ?_
  refine Runs.seqE Ty_ok (by decide) fun k' hk' => ?_
  simp
  refine hk' _ _ _ (Runs.seq (Runs.seqE Ty_ok (by decide) fun k' hk' => ?_))
  simp [encStrs]
  refine hk' _ _ _ (Runs.ite rfl (fun h => ?_) (fun h => ?_))
  · simp at h
    refine Runs.seqE Ty_ok (by decide) fun k' hk' => ?_
    simp
    refine hk' _ _ _ (Runs.ret Tryd.func112 (RetOk.one Tryd.results112) (hQ _ _ _ _ (.v _ _ _) ?_))
    simp [joinTexts, h]
  · simp at h
    refine Runs.skip (Runs.seqE Ty_ok (by decide) fun k' hk' => ?_)
    simp [encStrs]
    refine RunK.callA Ty_ok (join_ok l [124] (by omega) hj) e147 (.cons (.listF (fr := false) (by simp)) (.cons (.v _ _ _) .nil)) (by decide) (by decide) rfl (by simp) ?_
    rintro _ rfl
    simp
    refine hk' _ _ _ (Runs.ret Tryd.func112 (RetOk.one Tryd.results112) (hQ _ _ _ _ (.v _ _ _) ?_))
    simp [joinTexts, h]

def textIn (p : Proc) : Nat → Int → Str
  | 0, _ => []
  | d + 1, parent => joinTexts ((kidsFrom p parent p.length).map fun k => nodeText (p.getD k default) (textIn p d k))

structure Valid (p : Proc) : Prop where
  len : p.length ≤ 8
  kind : ∀ i, i < p.length → 0 ≤ (p.getD i default).kind ∧ (p.getD i default).kind ≤ 3
  name : ∀ i, i < p.length → (p.getD i default).name.length ≤ 4
  up : ∀ i, i < p.length → -1 ≤ (p.getD i default).parent ∧ (p.getD i default).parent < i

theorem nodeText_len (x : AmbNode) (s : Str) (hn : x.name.length ≤ 4) : (nodeText x s).length ≤ s.length + 12 := by
  have := word_len (x.kind - 1).toNat
  unfold nodeText
  split <;> simp only [List.length_append, List.length_cons, List.length_nil] <;> omega

theorem join_len (l : List Str) (sep : Str) (B : Nat) (h : ∀ s ∈ l, s.length ≤ B) : (Lib.join l sep).length ≤ l.length * (B + sep.length) := by
  induction l with
  | nil => simp [Lib.join]
  | cons a l ih =>
    have h1 := h a (by simp)
    have h2 := ih fun s hs => h s (by simp [hs])
    have h3 : (Lib.join (a :: l) sep).length ≤ a.length + sep.length + (Lib.join l sep).length := by
      cases l with
      | nil => simp [Lib.join]
      | cons b l => simp [Lib.join, List.intercalate]; omega
    have : (a :: l).length * (B + sep.length) = l.length * (B + sep.length) + (B + sep.length) := by rw [List.length_cons, Nat.add_mul, Nat.one_mul]
    omega

theorem kids_mem {p : Proc} {parent : Int} {n k : Nat} (h : k ∈ kidsFrom p parent n) : k < n ∧ (p.getD k default).parent = parent := by
  simp only [kidsFrom, List.mem_filter, List.mem_range, beq_iff_eq] at h
  exact h

theorem textIn_len {p : Proc} (hp : Valid p) : ∀ (d : Nat) (parent : Int), (textIn p d parent).length + 15 ≤ 16 * 8 ^ d
  | 0, _ => by simp [textIn]
  | d + 1, parent => by
    simp only [textIn]
    unfold joinTexts
    have h8 : 8 ^ (d + 1) = 8 * 8 ^ d := by rw [Nat.pow_succ, Nat.mul_comm]
    have h1 : 0 < 8 ^ d := Nat.pos_of_ne_zero (by simp)
    split
    · simp; omega
    · have := join_len ((kidsFrom p parent p.length).map fun k => nodeText (p.getD k default) (textIn p d k)) [124] (16 * 8 ^ d - 15 + 12) (fun s hs => by
        simp only [List.mem_map] at hs
        obtain ⟨k, hk, rfl⟩ := hs
        have h1 := nodeText_len (p.getD k default) (textIn p d k) (hp.name k (kids_mem hk).1)
        have h2 := textIn_len hp d k
        omega)
      have hl := kids_len p parent p.length
      have h9 := hp.len
      simp only [List.length_map, List.length_singleton] at this
      have hm : (kidsFrom p parent p.length).length * (16 * 8 ^ d - 15 + 12 + 1) ≤ 8 * (16 * 8 ^ d - 15 + 12 + 1) := Nat.mul_le_mul_right _ (by omega)
      omega

theorem old_encP (t : Bool) (p : Proc) : old (encP t p) = encP false p := by
  simp [encP, old_agg, old_list, AmbNode.cells, old_v]
theorem imm_encP (t : Bool) (p : Proc) : Imm (encP t p) := by
  simp [encP, AmbNode.cells]
theorem ArgOk.encP {H : Heap} {n : Nat} (t : Bool) (p : Proc) : ArgOk H n (encP t p) (encP false p) := ArgOk.imm' (imm_encP t p) (old_encP t p)
theorem ArgOk.node {H : Heap} {n : Nat} (x : AmbNode) : ArgOk H n (.agg x.cells) (.agg x.cells) := ArgOk.aggF (by simp [AmbNode.cells])

theorem textIn_ok {p : Proc} (hp : Valid p) : ∀ (d : Nat) (parent : Int), -1 ≤ parent → parent < p.length → (p.length : Int) - parent ≤ d → d ≤ 9 →
    PureC Tryd.prog 50 [encP false p, int parent] (fun r => r = str (textIn p d parent))
  | 0, parent, _, h1, h2, _ => by omega
  | d + 1, parent, h0, h1, h2, hd => by
    have hp8 := hp.len
    refine PureC.of Tryd.func50 rfl Tryd.ntmps50 (by simp) fun Q hQ => ?_
    refine Runs.seqE Ty_ok (by decide) fun k' hk' => ?_
    simp [encP]   -- R0
    refine hk' _ _ _ ?_
    refine Runs.seqE Ty_ok (by decide) fun k' hk' => ?_
    simp   -- R1
    refine hk' _ _ _ ?_
    refine Runs.seq ?_
    refine Runs.seqE Ty_ok (by decide) fun k' hk' => ?_
    simp   -- R2
    -- t11 := value f110(t9, t10)
    refine RunK.callA Ty_ok (kids_ok p parent (by omega)) e110 (.cons (ArgOk.encP false p) (.cons (.v _ _ _) .nil)) (by decide) (by decide) rfl (by simp [encP]) ?_
    rintro _ rfl
    simp [encNats]
    refine hk' _ _ _ ?_
    have hkl := kids_len p parent p.length
    refine Runs.block (Runs.loopUp (kidsFrom p parent p.length).length (fun k ρ H n => ρ 2 = .ptr (0, 2) 1 0 0 ∧ H (0, 2) = some ⟨1, [[.list false (p.map AmbNode.cells)]]⟩ ∧ ρ 11 = .list true ((kidsFrom p parent p.length).map fun (i : Nat) => [int (i : Int)]) ∧ ρ 12 = int (kidsFrom p parent p.length).length ∧ ρ 13 = int k ∧ ρ 5 = .arr (1, 8) k 0 k ∧ H (1, 8) = some ⟨1, ((kidsFrom p parent p.length).take k).map fun i => [str (nodeText (p.getD i default) (textIn p d i))]⟩) ?_ ?_)
    · simp
    · rintro k ρ H n hk ⟨h2, hH2, h11, h12, h13, h5, hH⟩ IH
      refine Runs.seqE Ty_ok (by decide) fun k' hk' => ?_
      simp [h11, h12, h13]   -- R3
      refine hk' _ _ _ ?_
      refine Runs.seq ?_
      refine Runs.ite rfl (fun hc1 => ?_) (fun hc1 => ?_)   -- t14
      · simp at hc1
        refine Runs.skip ?_
        refine Runs.seq ?_
        refine Runs.block ?_
        refine Runs.seqE Ty_ok (by decide) fun k' hk' => ?_
        simp [h11, h12, h13, hc1]   -- R4
        refine hk' _ _ _ ?_
        have him : (kidsFrom p parent p.length)[k] ∈ kidsFrom p parent p.length := List.getElem_mem hc1
        have hsk : (kidsFrom p parent p.length).take (k + 1) = (kidsFrom p parent p.length).take k ++ [(kidsFrom p parent p.length)[k]] := List.take_succ_eq_append_getElem hc1
        generalize (kidsFrom p parent p.length)[k] = i at him hsk ⊢
        obtain ⟨hilt, hip⟩ := kids_mem him
        have hup := hp.up i hilt
        have hkd := hp.kind i hilt
        have hnm := hp.name i hilt
        have hpd : 8 ^ d ≤ 8 ^ 8 := Nat.pow_le_pow_right (by omega) (by omega)
        have htl := textIn_len hp d i
        refine Runs.evalDE Ty_ok kindOp_ok draws (by decide) (by kernel_rfl) fun k' hk' => ?_
        simp [h11, h12, h13, h2, hH2, h5, hH, hc1, hilt, AmbNode.cells]   -- R5
        refine RunDK.callA Ty_ok kindOp_ok (textIn_ok hp d i (by omega) (by omega) (by omega) (by omega)) e50 (.cons (ArgOk.encP false p) (.cons (.v _ _ _) .nil)) (by decide) rfl (by simp [encP, AmbNode.cells]) ?_
        simp
        refine RunDK.callA Ty_ok kindOp_ok (nodeText_ok (p.getD i default) (textIn p d i) hkd (by omega) (by omega)) e111 (.cons (ArgOk.node _) (.cons (.v _ _ _) .nil)) (by decide) rfl (by simp [AmbNode.cells, hilt]) ?_
        simp [h5, hH, show k ≤ 1073741823 by omega, Nat.min_eq_left hk]
        refine hk' _ _ _ (Runs.inBlock (Runs.evalE Ty_ok (by decide) fun k' hk' => ?_))
        simp [h13, wrap_succ (show k < 4611686018427387904 by omega)]
        refine hk' _ _ _ (IH hc1 _ _ _ ?_)
        simp [h2, h11, h12, hH2, hsk]
      · simp at hc1
        have hke : k = (kidsFrom p parent p.length).length := by omega
        subst hke
        refine Runs.exit rfl (Runs.seqE Ty_ok (by decide) fun k' hk' => ?_)
        simp [h5]
        have hjl := join_len ((kidsFrom p parent p.length).map fun k => nodeText (p.getD k default) (textIn p d k)) [124] (16 * 8 ^ d - 15 + 12) (fun s hs => by
          simp only [List.mem_map] at hs
          obtain ⟨k, hk, rfl⟩ := hs
          have h1 := nodeText_len (p.getD k default) (textIn p d k) (hp.name k (kids_mem hk).1)
          have h2 := textIn_len hp d k
          omega)
        simp only [List.length_map, List.length_singleton] at hjl
        have hm : (kidsFrom p parent p.length).length * (16 * 8 ^ d - 15 + 12 + 1) ≤ 8 * (16 * 8 ^ d - 15 + 12 + 1) := Nat.mul_le_mul_right _ (by omega)
        have hpd : 8 ^ d ≤ 8 ^ 8 := Nat.pow_le_pow_right (by omega) (by omega)
        refine RunK.callA Ty_ok (joinTexts_ok ((kidsFrom p parent p.length).map fun k => nodeText (p.getD k default) (textIn p d k)) (by simp; omega) (by omega)) e112 (.cons (.arrF (g := (kidsFrom p parent p.length).length) (id := (1, 8)) (sz := 1) (by simp [live, hH]) (by simp)) .nil) (by decide) (by decide) rfl (by simp [h5]) ?_
        rintro _ rfl
        simp
        refine hk' _ _ _ (Runs.ret Tryd.func50 (RetOk.one Tryd.results50) (hQ _ _ _ _ (.v _ _ _) ?_))
        simp [textIn]
end Go.Ab

/- Contracts of impl.isName, impl.IsProcess and impl.ProcessText. -/
namespace Go.Ab
open Go.Proofs
set_option linter.unusedSimpArgs false
theorem e49 : Ent Tryd.prog 49 := Ent.of Tryd.func49 (by kernel_rfl) rfl
theorem e109 : Ent Tryd.prog 109 := Ent.of Tryd.func109 (by kernel_rfl) rfl

def lower (c : UInt8) : Bool := decide (97 ≤ c.toNat) && decide (c.toNat ≤ 122)
def isNm (s : Str) : Bool := within s.length 1 4 && s.all lower
def alpha : Str := [97, 98, 99, 100, 101, 102, 103, 104, 105, 106, 107, 108, 109, 110, 111, 112, 113, 114, 115, 116, 117, 118, 119, 120, 121, 122]

set_option maxRecDepth 10000 in
theorem alpha_lower (c : UInt8) : alpha.contains c = lower c := by
  have h : ∀ n : Fin 256, alpha.contains (UInt8.ofNat n.val) = lower (UInt8.ofNat n.val) := by decide
  have := h ⟨c.toNat, c.toNat_lt⟩
  simpa using this

theorem dropWhile_nil {q : UInt8 → Bool} : ∀ l : Str, l.dropWhile q = [] ↔ l.all q = true
  | [] => by simp
  | a :: l => by
    rw [List.dropWhile_cons]
    cases h : q a <;> simp [h, dropWhile_nil l]

theorem dropWhile_last {q : UInt8 → Bool} : ∀ l : Str, (l.dropWhile q).reverse.all q = true → l.all q = true
  | [], _ => by simp
  | a :: l, h => by
    rw [List.dropWhile_cons] at h
    cases hq : q a
    · simp [hq] at h
    · simp only [hq, if_true] at h
      have := dropWhile_last l h
      simp only [List.all_cons, hq, this, Bool.and_self]

theorem trimS_nil (s : Str) : (Lib.trimS s alpha = []) ↔ s.all lower = true := by
  have he : (fun c => alpha.contains c) = lower := funext alpha_lower
  unfold Lib.trimS Lib.trimLeftS Lib.trimRightS
  rw [he, dropWhile_nil]
  constructor
  · intro h
    have := dropWhile_last _ h
    simpa using this
  · intro h
    have h2 : s.reverse.dropWhile lower = [] := by rw [dropWhile_nil]; simpa using h
    rw [h2]
    rfl

theorem isName_ok (s : Str) (hs : s.length ≤ 1048576) : PureC Tryd.prog 109 [str s] (fun r => r = bool (isNm s)) := by
  refine PureC.of Tryd.func109 rfl Tryd.ntmps109 (by simp) fun Q hQ => ?_
  refine Runs.seqE Ty_ok (by decide) fun k' hk' => ?_
  simp   -- R0
  refine hk' _ _ _ ?_
  refine Runs.seqE Ty_ok (by decide) fun k' hk' => ?_
  simp   -- R1
  refine RunK.callA Ty_ok (within_ok s.length 1 4) e71 (.cons (.v _ _ _) (.cons (.v _ _ _) (.cons (.v _ _ _) .nil))) (by decide) (by decide) rfl (by simp) ?_
  rintro _ rfl
  cases hw : within s.length 1 4
  · simp [hw]
    refine hk' _ _ _ ?_
    exact Runs.ret Tryd.func109 (RetOk.one Tryd.results109) (hQ _ _ _ _ (.v _ _ _) (by simp [isNm, hw]))
  · simp [hw]
    refine RunK.callA Ty_ok (trim_ok s alpha (by omega) (by decide) (by decide)) e145 (.cons (.v _ _ _) (.cons (.v _ _ _) .nil)) (by decide) (by decide) rfl (by simp [alpha]) ?_
    rintro _ rfl
    simp [hw]
    refine hk' _ _ _ ?_
    refine Runs.ret Tryd.func109 (RetOk.one Tryd.results109) (hQ _ _ _ _ (.v _ _ _) ?_)
    have := trimS_nil s
    cases h : s.all lower <;> simp [h] at this <;> simp [isNm, hw, h, this]

def okNode (p : Proc) (i : Nat) : Bool := within (p.getD i default).kind 0 3 && isNm (p.getD i default).name && within (p.getD i default).parent (-1) ((i : Int) - 1)
def goodP (p : Proc) : Bool := (List.range p.length).all (okNode p) && decide (p.length ≤ 8)

theorem goodP_bad {p : Proc} {k : Nat} (hk : k < p.length) (h : okNode p k = false) : goodP p = false := by
  have : (List.range p.length).all (okNode p) = false := by
    rw [List.all_eq_false]
    exact ⟨k, List.mem_range.2 hk, by simp [h]⟩
  simp [goodP, this]

theorem goodP_end {p : Proc} (h : ∀ i, i < p.length → okNode p i = true) : goodP p = decide (p.length ≤ 8) := by
  have : (List.range p.length).all (okNode p) = true := by
    rw [List.all_eq_true]
    exact fun i hi => h i (List.mem_range.1 hi)
  simp [goodP, this]

theorem IsProcess_ok (p : Proc) (hp : p.length ≤ 1048576) (hn : ∀ i, i < p.length → (p.getD i default).name.length ≤ 1048576) : PureC Tryd.prog 49 [encP false p] (fun r => r = bool (goodP p)) := by
  refine PureC.of Tryd.func49 rfl Tryd.ntmps49 (by simp) fun Q hQ => ?_
  refine Runs.seqE Ty_ok (by decide) fun k' hk' => ?_
  simp [encP]   -- R0
  refine hk' _ _ _ ?_
  refine Runs.seq ?_
  refine Runs.seqE Ty_ok (by decide) fun k' hk' => ?_
  simp   -- R1
  refine hk' _ _ _ ?_
  refine Runs.block (Runs.loopUp p.length (fun k ρ H n => ρ 1 = .ptr (0, 1) 1 0 0 ∧ H (0, 1) = some ⟨1, [[.list false (p.map AmbNode.cells)]]⟩ ∧ ρ 6 = .list false (p.map AmbNode.cells) ∧ ρ 7 = int p.length ∧ ρ 8 = int k ∧ ∀ i, i < k → okNode p i = true) ?_ ?_)
  · simp
  · rintro k ρ H n hk ⟨h1, hH, h6, h7, h8, hall⟩ IH
    refine Runs.seqE Ty_ok (by decide) fun k' hk' => ?_
    simp [h7, h8]   -- R2
    refine hk' _ _ _ ?_
    refine Runs.seq ?_
    refine Runs.ite rfl (fun hc1 => ?_) (fun hc1 => ?_)   -- t9
    · simp at hc1
      refine Runs.skip ?_
      refine Runs.seq ?_
      refine Runs.block ?_
      refine Runs.seqE Ty_ok (by decide) fun k' hk' => ?_
      simp [h6, h8, hc1, AmbNode.cells]   -- R3
      refine hk' _ _ _ ?_
      refine Runs.seqE Ty_ok (by decide) fun k' hk' => ?_
      simp   -- R4
      have hx : p.getD k default = p[k] := by simp [hc1]
      have hok : okNode p k = (within p[k].kind 0 3 && isNm p[k].name && within p[k].parent (-1) ((k : Int) - 1)) := by rw [okNode, hx]
      have hnm := hn k hc1
      rw [hx] at hnm
      refine RunK.callA Ty_ok (within_ok p[k].kind 0 3) e71 (.cons (.v _ _ _) (.cons (.v _ _ _) (.cons (.v _ _ _) .nil))) (by decide) (by decide) rfl (by simp) ?_
      rintro _ rfl
      cases hw : within p[k].kind 0 3
      · simp [hw]
        refine hk' _ _ _ ?_
        refine Runs.ite rfl (fun _ => ?_) (fun h => by simp at h)
        refine Runs.seqE Ty_ok (by decide) fun k' hk' => ?_
        simp   -- R5
        refine hk' _ _ _ ?_
        refine Runs.ret Tryd.func49 (RetOk.one Tryd.results49) (hQ _ _ _ _ (.v _ _ _) ?_)
        rw [goodP_bad hc1 (by rw [hok]; simp [hw])]
      · simp [hw]
        refine RunK.callA Ty_ok (isName_ok p[k].name hnm) e109 (.cons (.v _ _ _) .nil) (by decide) (by decide) rfl (by simp) ?_
        rintro _ rfl
        cases hs : isNm p[k].name
        · simp [hs]
          refine hk' _ _ _ ?_
          refine Runs.ite rfl (fun _ => ?_) (fun h => by simp at h)
          refine Runs.seqE Ty_ok (by decide) fun k' hk' => ?_
          simp   -- R5
          refine hk' _ _ _ ?_
          refine Runs.ret Tryd.func49 (RetOk.one Tryd.results49) (hQ _ _ _ _ (.v _ _ _) ?_)
          rw [goodP_bad hc1 (by rw [hok]; simp [hw, hs])]
        · simp [hs, show -9223372036854775808 ≤ (k : Int) - 1 by omega, show (k : Int) - 1 ≤ 9223372036854775807 by omega]
          refine RunK.callA Ty_ok (within_ok p[k].parent (-1) ((k : Int) - 1)) e71 (.cons (.v _ _ _) (.cons (.v _ _ _) (.cons (.v _ _ _) .nil))) (by decide) (by decide) rfl (by simp) ?_
          rintro _ rfl
          cases hu : within p[k].parent (-1) ((k : Int) - 1)
          · simp [hu]
            refine hk' _ _ _ ?_
            refine Runs.ite rfl (fun _ => ?_) (fun h => by simp at h)
            refine Runs.seqE Ty_ok (by decide) fun k' hk' => ?_
            simp   -- R5
            refine hk' _ _ _ ?_
            refine Runs.ret Tryd.func49 (RetOk.one Tryd.results49) (hQ _ _ _ _ (.v _ _ _) ?_)
            rw [goodP_bad hc1 (by rw [hok]; simp [hw, hs, hu])]
          · simp [hu]
            refine hk' _ _ _ ?_
            refine Runs.ite rfl (fun h => by simp at h) (fun _ => ?_)
            refine Runs.skip ?_
            refine Runs.inBlock ?_
            refine Runs.evalE Ty_ok (by decide) fun k' hk' => ?_
            simp [h8, wrap_succ (show k < 4611686018427387904 by omega)]   -- R6
            refine hk' _ _ _ ?_
            refine IH hc1 _ _ _ ?_
            simp [h1, hH, h6, h7]
            intro i hi
            by_cases hik : i = k
            · subst hik
              rw [hok]; simp [hw, hs, hu]
            · exact hall i (by omega)
    · simp at hc1
      refine Runs.exit rfl ?_
      refine Runs.seqE Ty_ok (by decide) fun k' hk' => ?_
      simp [h1, hH]   -- R7
      refine hk' _ _ _ ?_
      refine Runs.ret Tryd.func49 (RetOk.one Tryd.results49) (hQ _ _ _ _ (.v _ _ _) ?_)
      rw [goodP_end (by rwa [show k = p.length by omega] at hall)]
      simp
      omega

theorem goodP_valid {p : Proc} (h : goodP p = true) : Valid p := by
  simp only [goodP, Bool.and_eq_true, decide_eq_true_eq, List.all_eq_true, List.mem_range] at h
  obtain ⟨h1, h2⟩ := h
  have h3 : ∀ i, i < p.length → (0 ≤ (p.getD i default).kind ∧ (p.getD i default).kind ≤ 3) ∧ ((p.getD i default).name.length ≤ 4) ∧ (-1 ≤ (p.getD i default).parent ∧ (p.getD i default).parent < i) := by
    intro i hi
    have := h1 i hi
    simp only [okNode, isNm, within, Bool.and_eq_true, decide_eq_true_eq] at this
    obtain ⟨⟨a, b, c⟩, d⟩ := this
    exact ⟨a, by omega, by omega⟩
  exact ⟨h2, fun i hi => (h3 i hi).1, fun i hi => (h3 i hi).2.1, fun i hi => (h3 i hi).2.2⟩

def processText (p : Proc) : Str × Bool := if goodP p then (textIn p (p.length + 1) (-1), true) else ([], false)

theorem ProcessText_ok (p : Proc) (hp : p.length ≤ 1048576) (hn : ∀ i, i < p.length → (p.getD i default).name.length ≤ 1048576) : PureC Tryd.prog 12 [encP false p] (fun r => r = .tup [str (processText p).1, bool (processText p).2]) := by
  refine PureC.of Tryd.func12 rfl Tryd.ntmps12 (by simp) fun Q hQ => ?_
  refine Runs.seqE Ty_ok (by decide) fun k' hk' => ?_
  simp [encP]   -- R0
  refine hk' _ _ _ ?_
  refine Runs.seq ?_
  refine Runs.seqE Ty_ok (by decide) fun k' hk' => ?_
  simp   -- R1
  refine RunK.callA Ty_ok (IsProcess_ok p hp hn) e49 (.cons (ArgOk.encP false p) .nil) (by decide) (by decide) rfl (by simp [encP]) ?_
  rintro _ rfl
  cases hg : goodP p
  · simp
    refine hk' _ _ _ ?_
    refine Runs.ite rfl (fun _ => ?_) (fun h => by simp at h)
    refine Runs.seqE Ty_ok (by decide) fun k' hk' => ?_
    simp   -- R2
    refine hk' _ _ _ ?_
    exact Runs.ret Tryd.func12 (RetOk.two Tryd.results12) (hQ _ _ _ _ (.of (Ret.fresh (by simp))) (by simp [processText, hg]))
  · simp
    refine hk' _ _ _ ?_
    refine Runs.ite rfl (fun h => by simp at h) (fun _ => ?_)
    refine Runs.skip ?_
    refine Runs.seqE Ty_ok (by decide) fun k' hk' => ?_
    simp   -- R3
    have hv := goodP_valid hg
    have := hv.len
    refine RunK.callA Ty_ok (textIn_ok hv (p.length + 1) (-1) (by omega) (by omega) (by omega) (by omega)) e50 (.cons (ArgOk.encP false p) (.cons (.v _ _ _) .nil)) (by decide) (by decide) rfl (by simp [encP]) ?_
    rintro _ rfl
    simp
    refine hk' _ _ _ ?_
    exact Runs.ret Tryd.func12 (RetOk.two Tryd.results12) (hQ _ _ _ _ (.of (Ret.fresh (by simp))) (by simp [processText, hg]))
end Go.Ab

/- Bigraphs as values: types of data, and what a valid one is. -/
namespace Go.Ab
set_option linter.unusedSimpArgs false

structure Control where
  name : Str
  ports : Int
  kind : Int
  deriving Inhabited, DecidableEq
structure GNode where
  control : Int
  parent : Int
  links : List Int
  deriving Inhabited, DecidableEq
structure Wire where
  name : Str
  link : Int
  deriving Inhabited, DecidableEq
structure Big where
  roots : Int
  nodes : List GNode
  sites : List Int
  edges : Int
  outer : List Str
  inner : List Wire
  deriving Inhabited, DecidableEq
abbrev Sig := List Control

def intC (n : Int) : List AVal := [int n]
def strC (s : Str) : List AVal := [str s]
/-- A cell that is a slice. -/
def sliceC {α : Type} (fr : Bool) (f : α → List AVal) (l : List α) : List AVal := [.list fr (l.map f)]
def Control.cells (x : Control) : List AVal := [str x.name, int x.ports, int x.kind]
def Wire.cells (x : Wire) : List AVal := [str x.name, int x.link]
def GNode.cells (t : Bool) (x : GNode) : List AVal := [int x.control, int x.parent, .list t (x.links.map intC)]
def encSig (t : Bool) (s : Sig) : AVal := .list t (s.map Control.cells)
def encI (t : Bool) (l : List Int) : AVal := .list t (l.map intC)
def encS (t : Bool) (l : List Str) : AVal := .list t (l.map strC)
def encW (t : Bool) (l : List Wire) : AVal := .list t (l.map Wire.cells)
def encN (t : Bool) (l : List GNode) : AVal := .list t (l.map (GNode.cells t))
def Big.cells (t : Bool) (b : Big) : List AVal := [int b.roots, encN t b.nodes, encI t b.sites, int b.edges, encS t b.outer, encW t b.inner]
def encB (t : Bool) (b : Big) : AVal := .agg (b.cells t)

theorem ints_flat (l : List Int) : ∀ e ∈ l.map intC, ∀ a ∈ e, flat a = true := by simp [intC]
theorem strs_flat (l : List Str) : ∀ e ∈ l.map strC, ∀ a ∈ e, flat a = true := by simp [strC]
theorem wires_flat (l : List Wire) : ∀ e ∈ l.map Wire.cells, ∀ a ∈ e, flat a = true := by simp [Wire.cells]
theorem sig_flat (l : Sig) : ∀ e ∈ l.map Control.cells, ∀ a ∈ e, flat a = true := by simp [Control.cells]

theorem old_encI (t : Bool) (l : List Int) : old (encI t l) = encI false l := by rw [encI, old_list, maps_old_flat (ints_flat l)]; rfl
theorem old_encS (t : Bool) (l : List Str) : old (encS t l) = encS false l := by rw [encS, old_list, maps_old_flat (strs_flat l)]; rfl
theorem old_encW (t : Bool) (l : List Wire) : old (encW t l) = encW false l := by rw [encW, old_list, maps_old_flat (wires_flat l)]; rfl
theorem old_encSig (t : Bool) (l : Sig) : old (encSig t l) = encSig false l := by rw [encSig, old_list, maps_old_flat (sig_flat l)]; rfl
theorem old_node (t : Bool) (x : GNode) : (x.cells t).map old = x.cells false := by
  simp only [GNode.cells, List.map_cons, List.map_nil, old_v]
  have := old_encI t x.links
  simp only [encI] at this
  rw [this]
theorem old_encN (t : Bool) (l : List GNode) : old (encN t l) = encN false l := by
  rw [encN, old_list, List.map_map]
  simp only [encN]
  congr 1
  exact List.map_congr_left fun x _ => old_node t x
theorem old_encB (t : Bool) (b : Big) : old (encB t b) = encB false b := by
  simp only [encB, Big.cells, old_agg, List.map_cons, List.map_nil, old_v, old_encN, old_encI, old_encS, old_encW]

theorem imm_encI (t : Bool) (l : List Int) : Imm (encI t l) := .list _ _ fun e he a ha => Imm.flat (ints_flat l e he a ha)
theorem imm_encS (t : Bool) (l : List Str) : Imm (encS t l) := .list _ _ fun e he a ha => Imm.flat (strs_flat l e he a ha)
theorem imm_encW (t : Bool) (l : List Wire) : Imm (encW t l) := .list _ _ fun e he a ha => Imm.flat (wires_flat l e he a ha)
theorem imm_encSig (t : Bool) (l : Sig) : Imm (encSig t l) := .list _ _ fun e he a ha => Imm.flat (sig_flat l e he a ha)
theorem imm_node (t : Bool) (x : GNode) : ∀ a ∈ x.cells t, Imm a := by
  intro a ha
  simp only [GNode.cells, List.mem_cons, List.not_mem_nil, or_false] at ha
  rcases ha with rfl | rfl | rfl
  · exact .v _
  · exact .v _
  · exact imm_encI t x.links
theorem imm_encN (t : Bool) (l : List GNode) : Imm (encN t l) := by
  refine .list _ _ fun e he a ha => ?_
  obtain ⟨x, _, rfl⟩ := List.mem_map.1 he
  exact imm_node t x a ha
theorem imm_encB (t : Bool) (b : Big) : Imm (encB t b) := by
  refine .agg _ fun a ha => ?_
  simp only [Big.cells, List.mem_cons, List.not_mem_nil, or_false] at ha
  rcases ha with rfl | rfl | rfl | rfl | rfl | rfl
  · exact .v _
  · exact imm_encN t _
  · exact imm_encI t _
  · exact .v _
  · exact imm_encS t _
  · exact imm_encW t _
section
variable {H : Heap} {n : Nat}
theorem ArgOk.encI (t : Bool) (l : List Int) : ArgOk H n (encI t l) (encI false l) := ArgOk.imm' (imm_encI t l) (old_encI t l)
theorem ArgOk.encS (t : Bool) (l : List Str) : ArgOk H n (encS t l) (encS false l) := ArgOk.imm' (imm_encS t l) (old_encS t l)
theorem ArgOk.encW (t : Bool) (l : List Wire) : ArgOk H n (encW t l) (encW false l) := ArgOk.imm' (imm_encW t l) (old_encW t l)
theorem ArgOk.encSig (t : Bool) (l : Sig) : ArgOk H n (encSig t l) (encSig false l) := ArgOk.imm' (imm_encSig t l) (old_encSig t l)
theorem ArgOk.encN (t : Bool) (l : List GNode) : ArgOk H n (encN t l) (encN false l) := ArgOk.imm' (imm_encN t l) (old_encN t l)
theorem ArgOk.encB (t : Bool) (b : Big) : ArgOk H n (encB t b) (encB false b) := ArgOk.imm' (imm_encB t b) (old_encB t b)
end

def okControl (c : Control) : Bool := isNm c.name && within c.ports 0 3 && within c.kind 0 2
def newName (sig : Sig) (i : Nat) : Bool := !(sig.take i).any fun d => d.name == (sig.getD i default).name
def goodSig (sig : Sig) : Bool := within sig.length 1 6 && (List.range sig.length).all fun i => okControl (sig.getD i default) && newName sig i
def ascends (l : List Str) (i : Nat) : Bool := decide (i = 0) || Op.bytesLess (l.getD (i - 1) []) (l.getD i [])
def goodNames (l : List Str) : Bool := decide (l.length ≤ 16) && (List.range l.length).all fun i => isNm (l.getD i []) && ascends l i
def okLink (b : Big) (l : Int) : Bool := within l 0 (b.edges + b.outer.length - 1)
def okParent (sig : Sig) (b : Big) (parent : Int) (below : Nat) : Bool :=
  if parent < 0 then decide (-b.roots ≤ parent) else decide (parent < below) && decide ((sig.getD (b.nodes.getD parent.toNat default).control.toNat default).kind ≠ 2)
def okNodeB (sig : Sig) (b : Big) (i : Nat) : Bool :=
  within (b.nodes.getD i default).control 0 (sig.length - 1) && okParent sig b (b.nodes.getD i default).parent i && decide ((b.nodes.getD i default).links.length = (sig.getD (b.nodes.getD i default).control.toNat default).ports) &&
    (b.nodes.getD i default).links.all (okLink b)
def goodB (sig : Sig) (b : Big) : Bool :=
  goodSig sig && within b.roots 0 4 && decide (b.nodes.length ≤ 8) && decide (b.sites.length ≤ 4) && within b.edges 0 8 && goodNames b.outer && goodNames (b.inner.map (·.name)) &&
    (List.range b.nodes.length).all (okNodeB sig b) && b.sites.all (fun p => okParent sig b p b.nodes.length) && b.inner.all (fun w => okLink b w.link)
end Go.Ab

/- The conversion of bytes to a string; laws.markText. -/
namespace Go.Ab
set_option linter.unusedSimpArgs false

theorem bytes_fold : ∀ (ns : List Int) (s : Array UInt8), ns.foldl (fun r n => r.push (UInt8.ofNat n.toNat)) (ByteArray.mk s) = ByteArray.mk (s ++ (ns.map fun n => UInt8.ofNat n.toNat).toArray)
  | [], s => by simp
  | n :: ns, s => by
    have h : (ByteArray.mk s).push (UInt8.ofNat n.toNat) = ByteArray.mk (s.push (UInt8.ofNat n.toNat)) := rfl
    rw [List.foldl_cons, h, bytes_fold ns]
    congr 1
    simp

/-- The conversion of a slice of bytes to a string. -/
theorem step_convertBytes {P : Program} {N : Nat} {Ty : Types} (hT : TypesOk P Ty) {ρ : Env} {H : Heap} {n : Nat} {d : Option Tmp} {ty : TypeId} {pos : String} {af : Array Edge} {gu : Option (Nat × Bool)} {s t : TypeId} {x : Operand} {j : TI} {els : List (List AVal)} {ns : List Int}
    (hs : kd Ty s = .slice j) (hj : j.desc = .int .u8) (ht : kd Ty t = .string) (hx : srcOf H (ρ.ev x) = some els) (hn : els = ns.map fun n => [.v (.int .u8 n)]) :
    OpSem P N ⟨d, .convert s t x, ty, pos, af, gu⟩ ρ H n fun v1 H1 n1 => v1 = str (ns.map fun n => UInt8.ofNat n.toNat) ∧ H1 = H ∧ n1 = n := by
  refine OpSem.of_value fun c a hH hn' g r => ?_
  subst hH hn'
  obtain ⟨i1, e, hi1, hd1, he⟩ := kd_slice hs
  obtain ⟨i2, hi2, hd2⟩ := kd_string ht
  have d1 := (hT s i1 hi1).1
  rw [hd1] at d1
  have d2 := (hT t i2 hi2).1
  rw [hd2] at d2
  have d3 := (hT e j he).1
  rw [hj] at d3
  have hsrc := srcOf_ok (sz := 1) g (r.ev x) hx (by subst hn; simp)
  refine ⟨_, .string ⟨(ns.map fun n => UInt8.ofNat n.toNat).toArray⟩, c, ?_, ⟨rfl, rfl, rfl⟩, .v _, g, Keeps.refl c⟩
  rcases hsrc with ⟨h1, h2⟩ | ⟨ad, cap, news, h1, h2, h3, h4⟩
  · have h0 : ns = [] := by rw [h2] at hn; simpa using hn.symm
    subst h0
    have := run_convert_bytes_string (P := P) c.w s t e none 0 0 d1 d3 d2
    simp [execOp, h1, this, Conv.bytesToString, Sem.run_pure]
    rfl
  · have hnews : news = ns.map (Value.int .u8) := by
      apply List.ext_getElem?
      intro q
      rcases Nat.lt_or_ge q ns.length with hq | hq
      · have hel : els[q]? = some [.v (.int .u8 ns[q])] := by rw [hn]; simp [hq]
        obtain ⟨_, h5⟩ := h4 q _ hel
        obtain ⟨u, hu, hr⟩ := h5 0 _ rfl
        simp only [Nat.mul_one, Nat.add_zero] at hu
        rw [hu, hr.v_inv]
        simp [hq]
      · rw [List.getElem?_eq_none (by rw [h2, hn]; simpa using hq), List.getElem?_eq_none (by simpa using hq)]
    have hl := run_loadCells_list (P := P) c.w ad news h3
    have hlen : news.length = els.length := by rw [h2, Nat.mul_one]
    rw [hlen, hnews] at hl
    have h5 := run_bytesToString c.w ad els.length cap ns hl
    have h6 := run_convert_bytes_string (P := P) c.w s t e (some ad) els.length cap d1 d3 d2
    have h7 := bytes_fold ns #[]
    have h8 : (ByteArray.empty : ByteArray) = ByteArray.mk #[] := rfl
    simp [execOp, h1, h6, h5, h8, h7]
end Go.Ab

/- Contract of laws.markText. -/
namespace Go.Ab
open Go.Proofs
set_option linter.unusedSimpArgs false

/-- The digits of a number ahead of a text. -/
def digs (k : Nat) (out : Str) : Str := if k = 0 then out else digs (k / 10) (UInt8.ofNat (48 + k % 10) :: out)
  termination_by k
  decreasing_by omega
def markTextL (k : Nat) : Str := if k = 0 then [109, 48] else 109 :: digs k []

theorem wrap_u8 {a : Int} (h : 0 ≤ a) (h2 : a < 256) : IntKind.u8.wrap a = a := by
  unfold IntKind.wrap
  simp [IntKind.min, IntKind.max, IntKind.bits, IntKind.signed]
  omega

theorem e99 : Ent Tryd.prog 99 := Ent.of Tryd.func99 (by kernel_rfl) rfl

set_option maxRecDepth 20000 in
theorem markText_ok (k : Nat) (hk : k ≤ 1152921504606846976) : PureC Tryd.prog 99 [int k] (fun r => r = str (markTextL k)) := by
  refine PureC.of Tryd.func99 rfl Tryd.ntmps99 (by simp) fun Q hQ => ?_
  refine Runs.seqE Ty_ok (by decide) fun k' hk' => ?_
  simp   -- R0
  refine hk' _ _ _ ?_
  refine Runs.seq ?_
  refine Runs.seqE Ty_ok (by decide) fun k' hk' => ?_
  simp   -- R1
  refine hk' _ _ _ ?_
  refine Runs.ite rfl (fun hc1 => ?_) (fun hc1 => ?_)   -- t5
  · simp at hc1
    refine Runs.seqE Ty_ok (by decide) fun k' hk' => ?_
    simp   -- R2
    refine hk' _ _ _ ?_
    refine Runs.ret Tryd.func99 (RetOk.one Tryd.results99) (hQ _ _ _ _ (.v _ _ _) ?_)
    simp [markTextL, hc1]
  · simp at hc1
    refine Runs.skip ?_
    refine Runs.seqE Ty_ok (by decide) fun k' hk' => ?_
    simp   -- R3
    refine hk' _ _ _ ?_
    refine Runs.seq ?_
    refine Runs.block (Runs.loopM (fun m ρ H n => ρ 0 = int m ∧ ∃ out : Str, ρ 3 = str out ∧ out.length + m ≤ k ∧ digs m out = digs k []) k ?_ ?_)
    · simp
    · rintro m ρ H n ⟨h0, out, h3, hlen, hd⟩ IH
      refine Runs.seq ?_
      refine Runs.seqE Ty_ok (by decide) fun k' hk' => ?_
      simp [h0]   -- R4
      refine hk' _ _ _ ?_
      refine Runs.ite rfl (fun hc2 => ?_) (fun hc2 => ?_)   -- t7
      · simp at hc2
        refine Runs.skip ?_
        refine Runs.block ?_
        refine Runs.seqE Ty_ok (by decide) fun k' hk' => ?_
        obtain ⟨g, hg⟩ : ∃ g : Nat, g = 48 + m % 10 := ⟨_, rfl⟩
        obtain ⟨q, hq'⟩ : ∃ q : Nat, q = m / 10 := ⟨_, rfl⟩
        have hq : ((m : Int).tdiv 10) = (q : Int) := by rw [Int.tdiv_eq_ediv_of_nonneg (by omega)]; omega
        have hw : IntKind.i64.wrap (48 + ((m : Int).tmod 10)) = (g : Int) := by
          rw [Int.tmod_eq_emod_of_nonneg (by omega), wrap64] <;> omega
        have hw2 : IntKind.i64.wrap (q : Int) = (q : Int) := by rw [wrap64] <;> omega
        have hw3 : IntKind.u8.wrap (g : Int) = (g : Int) := wrap_u8 (by omega) (by omega)
        simp [h0, h3, hw, hw3]   -- R5
        refine RunK.op Ty_ok (by decide) (by decide) rfl (step_convertBytes (ns := [(g : Int)]) (els := [[.v (.int .u8 g)]]) Ty_ok kd_43 (by kernel_rfl) kd_9 (by simp [srcOf]) rfl) ?_
        rintro v H' n' ⟨rfl, rfl, rfl⟩
        simp [h3, show 1 + out.length < 4611686018427387904 by omega]
        refine hk' _ _ _ ?_
        refine Runs.evalE Ty_ok (by decide) fun k' hk' => ?_
        simp [h0, hq, hw2]   -- R6
        refine hk' _ _ _ ?_
        refine Runs.inBlock ?_
        refine IH q _ _ _ (by omega) ⟨by simp, UInt8.ofNat g :: out, by simp, by simp; omega, ?_⟩
        rw [← hd, hg, hq']
        conv => rhs; rw [digs, if_neg (by omega)]
      · simp at hc2
        subst hc2
        rw [digs, if_pos rfl] at hd
        refine Runs.exit rfl ?_
        refine Runs.seqE Ty_ok (by decide) fun k' hk' => ?_
        simp [h3, show 1 + out.length < 4611686018427387904 by omega]   -- R7
        refine hk' _ _ _ ?_
        refine Runs.ret Tryd.func99 (RetOk.one Tryd.results99) (hQ _ _ _ _ (.v _ _ _) ?_)
        simp [markTextL, hc1, hd, show ¬ k = 0 by omega]
end Go.Ab

/- The laws' own functions on bigraphs' types: copies, marks, and whether marks are held. -/
namespace Go.Ab.Vg
set_option linter.unusedSimpArgs false
set_option linter.unusedVariables false
theorem list_fill {α : Type} [Inhabited α] {a : List α} {k : Nat} (hk : k < a.length) : (a.take k ++ List.replicate (a.length - k) default).set k a[k] = a.take (k + 1) ++ List.replicate (a.length - (k + 1)) default := by
  rw [List.set_append_right _ _ (by simp; omega)]
  rw [List.take_succ_eq_append_getElem hk, List.append_assoc]
  congr 1
  have h1 : a.length - k = (a.length - (k + 1)) + 1 := by omega
  have h2 : k - (a.take k).length = 0 := by simp; omega
  rw [h1, h2, List.replicate_succ]
  rfl
abbrev filled {α : Type} [Inhabited α] (a : List α) (k : Nat) : List α := a.take k ++ List.replicate (a.length - k) default
theorem filled_len {α : Type} [Inhabited α] {a : List α} {k : Nat} (hk : k ≤ a.length) : (filled a k).length = a.length := by simp [filled]; omega
theorem filled_set {α : Type} [Inhabited α] {a : List α} {k : Nat} (hk : k < a.length) : (filled a k).set k (at' a (k : Int)) = filled a (k + 1) := by rw [at_lt hk]; exact list_fill hk
theorem filled_end {α : Type} [Inhabited α] (a : List α) : filled a a.length = a := by simp [filled]
theorem filled_zero {α : Type} [Inhabited α] (a : List α) : filled a 0 = List.replicate a.length default := by simp [filled]

abbrev toIntS (a : List Int) := a
abbrev toIntS_pre (a : List Int) : Prop := a.length ≤ 1048576
def toIntS_wp (a : List Int) (Z : (List Int) → Prop) : Prop :=
  ∀ len2 : Int, len2 = (a.length : Int) → (0 ≤ len2 ∧ len2 ≤ 1073741824) ∧ ∀ l5 : List Int, l5 = List.replicate len2.toNat default → loopW (σ := Int × (List Int)) (fun (i16, l17) K20 => ∀ len21 : Int, len21 = (a.length : Int) → ∀ c23 : Bool, c23 = decide (i16 < len21) → ((c23 = true → (0 ≤ i16 ∧ i16 < a.length) ∧ ∀ x26 : Int, x26 = at' a i16 → (0 ≤ i16 ∧ i16 < l17.length) ∧ ∀ x33 : Int, x33 = at' l17 i16 → ∀ l36 : List Int, l36 = l17.set i16.toNat x26 → (I64 (i16 + 1)) ∧ ∀ v42 : Int, v42 = i16 + 1 → K20 (v42, l36)) ∧ (c23 = false → Z l17))) (0, l5)
theorem toIntS_vc (a : List Int) (h : toIntS_pre a) : toIntS_wp a (fun y => y = toIntS a) := by
  unfold toIntS_wp
  simp only [toIntS_pre] at h
  simp only [forall_eq, Int.toNat_natCast]
  refine ⟨by omega, loopW.upL a.length (fun k out => out = filled a k) _ (filled_zero a).symm ?_⟩
  rintro k out K hk rfl IH
  have hl := filled_len hk
  simp only [decide_eq_true_eq, decide_eq_false_iff_not, I64, Int.toNat_natCast]
  refine ⟨fun h1 => ⟨by omega, by omega, by omega, IH (by omega) _ (filled_set (by omega))⟩, fun h1 => ?_⟩
  rw [show k = a.length by omega]
  exact filled_end a
abbrev toStringS (a : List Str) := a
abbrev toStringS_pre (a : List Str) : Prop := a.length ≤ 1048576
def toStringS_wp (a : List Str) (Z : (List Str) → Prop) : Prop :=
  ∀ len2 : Int, len2 = (a.length : Int) → (0 ≤ len2 ∧ len2 ≤ 1073741824) ∧ ∀ l5 : List Str, l5 = List.replicate len2.toNat default → loopW (σ := Int × (List Str)) (fun (i16, l17) K20 => ∀ len21 : Int, len21 = (a.length : Int) → ∀ c23 : Bool, c23 = decide (i16 < len21) → ((c23 = true → (0 ≤ i16 ∧ i16 < a.length) ∧ ∀ x26 : Str, x26 = at' a i16 → (0 ≤ i16 ∧ i16 < l17.length) ∧ ∀ x33 : Str, x33 = at' l17 i16 → ∀ l36 : List Str, l36 = l17.set i16.toNat x26 → (I64 (i16 + 1)) ∧ ∀ v42 : Int, v42 = i16 + 1 → K20 (v42, l36)) ∧ (c23 = false → Z l17))) (0, l5)
theorem toStringS_vc (a : List Str) (h : toStringS_pre a) : toStringS_wp a (fun y => y = toStringS a) := by
  unfold toStringS_wp
  simp only [toStringS_pre] at h
  simp only [forall_eq, Int.toNat_natCast]
  refine ⟨by omega, loopW.upL a.length (fun k out => out = filled a k) _ (filled_zero a).symm ?_⟩
  rintro k out K hk rfl IH
  have hl := filled_len hk
  simp only [decide_eq_true_eq, decide_eq_false_iff_not, I64, Int.toNat_natCast]
  refine ⟨fun h1 => ⟨by omega, by omega, by omega, IH (by omega) _ (filled_set (by omega))⟩, fun h1 => ?_⟩
  rw [show k = a.length by omega]
  exact filled_end a
abbrev toControl (a : Control) := a
def toControl_wp (a : Control) (Z : Control → Prop) : Prop :=
  Z a
theorem toControl_vc (a : Control) : toControl_wp a (fun y => y = toControl a) := rfl
abbrev toControlS (a : List Control) := a
abbrev toControlS_pre (a : List Control) : Prop := a.length ≤ 1048576
def toControlS_wp (a : List Control) (Z : (List Control) → Prop) : Prop :=
  ∀ len2 : Int, len2 = (a.length : Int) → (0 ≤ len2 ∧ len2 ≤ 1073741824) ∧ ∀ l5 : List Control, l5 = List.replicate len2.toNat default → loopW (σ := Int × (List Control)) (fun (i16, l17) K20 => ∀ len21 : Int, len21 = (a.length : Int) → ∀ c23 : Bool, c23 = decide (i16 < len21) → ((c23 = true → (0 ≤ i16 ∧ i16 < a.length) ∧ ∀ x26 : Control, x26 = at' a i16 → ∀ r28 : Control, r28 = toControl x26 → (0 ≤ i16 ∧ i16 < l17.length) ∧ ∀ x34 : Control, x34 = at' l17 i16 → ∀ l37 : List Control, l37 = l17.set i16.toNat r28 → (I64 (i16 + 1)) ∧ ∀ v43 : Int, v43 = i16 + 1 → K20 (v43, l37)) ∧ (c23 = false → Z l17))) (0, l5)
theorem toControlS_vc (a : List Control) (h : toControlS_pre a) : toControlS_wp a (fun y => y = toControlS a) := by
  unfold toControlS_wp
  simp only [toControlS_pre] at h
  simp only [forall_eq, Int.toNat_natCast]
  refine ⟨by omega, loopW.upL a.length (fun k out => out = filled a k) _ (filled_zero a).symm ?_⟩
  rintro k out K hk rfl IH
  have hl := filled_len hk
  simp only [decide_eq_true_eq, decide_eq_false_iff_not, I64, Int.toNat_natCast]
  refine ⟨fun h1 => ⟨by omega, by omega, by omega, IH (by omega) _ (filled_set (by omega))⟩, fun h1 => ?_⟩
  rw [show k = a.length by omega]
  exact filled_end a
abbrev toWire (a : Wire) := a
def toWire_wp (a : Wire) (Z : Wire → Prop) : Prop :=
  Z a
theorem toWire_vc (a : Wire) : toWire_wp a (fun y => y = toWire a) := rfl
abbrev toWireS (a : List Wire) := a
abbrev toWireS_pre (a : List Wire) : Prop := a.length ≤ 1048576
def toWireS_wp (a : List Wire) (Z : (List Wire) → Prop) : Prop :=
  ∀ len2 : Int, len2 = (a.length : Int) → (0 ≤ len2 ∧ len2 ≤ 1073741824) ∧ ∀ l5 : List Wire, l5 = List.replicate len2.toNat default → loopW (σ := Int × (List Wire)) (fun (i16, l17) K20 => ∀ len21 : Int, len21 = (a.length : Int) → ∀ c23 : Bool, c23 = decide (i16 < len21) → ((c23 = true → (0 ≤ i16 ∧ i16 < a.length) ∧ ∀ x26 : Wire, x26 = at' a i16 → ∀ r28 : Wire, r28 = toWire x26 → (0 ≤ i16 ∧ i16 < l17.length) ∧ ∀ x34 : Wire, x34 = at' l17 i16 → ∀ l37 : List Wire, l37 = l17.set i16.toNat r28 → (I64 (i16 + 1)) ∧ ∀ v43 : Int, v43 = i16 + 1 → K20 (v43, l37)) ∧ (c23 = false → Z l17))) (0, l5)
theorem toWireS_vc (a : List Wire) (h : toWireS_pre a) : toWireS_wp a (fun y => y = toWireS a) := by
  unfold toWireS_wp
  simp only [toWireS_pre] at h
  simp only [forall_eq, Int.toNat_natCast]
  refine ⟨by omega, loopW.upL a.length (fun k out => out = filled a k) _ (filled_zero a).symm ?_⟩
  rintro k out K hk rfl IH
  have hl := filled_len hk
  simp only [decide_eq_true_eq, decide_eq_false_iff_not, I64, Int.toNat_natCast]
  refine ⟨fun h1 => ⟨by omega, by omega, by omega, IH (by omega) _ (filled_set (by omega))⟩, fun h1 => ?_⟩
  rw [show k = a.length by omega]
  exact filled_end a
abbrev toNode (a : GNode) := a
abbrev toNode_pre (a : GNode) : Prop := a.links.length ≤ 1048576
def toNode_wp (a : GNode) (Z : GNode → Prop) : Prop :=
  (toIntS_pre a.links) ∧ ∀ r10 : List Int, r10 = toIntS a.links → Z (GNode.mk a.control a.parent r10)
theorem toNode_vc (a : GNode) (h : toNode_pre a) : toNode_wp a (fun y => y = toNode a) := by
  unfold toNode_wp
  exact ⟨h, by rintro _ rfl; rfl⟩
abbrev toNodeS (a : List GNode) := a
abbrev toNodeS_pre (a : List GNode) : Prop := a.length ≤ 1048576 ∧ ∀ x ∈ a, x.links.length ≤ 1048576
def toNodeS_wp (a : List GNode) (Z : (List GNode) → Prop) : Prop :=
  ∀ len2 : Int, len2 = (a.length : Int) → (0 ≤ len2 ∧ len2 ≤ 1073741824) ∧ ∀ l5 : List GNode, l5 = List.replicate len2.toNat default → loopW (σ := Int × (List GNode)) (fun (i16, l17) K20 => ∀ len21 : Int, len21 = (a.length : Int) → ∀ c23 : Bool, c23 = decide (i16 < len21) → ((c23 = true → (0 ≤ i16 ∧ i16 < a.length) ∧ ∀ x26 : GNode, x26 = at' a i16 → (toNode_pre x26) ∧ ∀ r29 : GNode, r29 = toNode x26 → (0 ≤ i16 ∧ i16 < l17.length) ∧ ∀ l44 : List GNode, l44 = l17.set i16.toNat r29 → (I64 (i16 + 1)) ∧ ∀ v50 : Int, v50 = i16 + 1 → K20 (v50, l44)) ∧ (c23 = false → Z l17))) (0, l5)
theorem toNodeS_vc (a : List GNode) (h : toNodeS_pre a) : toNodeS_wp a (fun y => y = toNodeS a) := by
  unfold toNodeS_wp
  obtain ⟨h, h'⟩ := h
  simp only [forall_eq, Int.toNat_natCast]
  refine ⟨by omega, loopW.upL a.length (fun k out => out = filled a k) _ (filled_zero a).symm ?_⟩
  rintro k out K hk rfl IH
  have hl := filled_len hk
  simp only [decide_eq_true_eq, decide_eq_false_iff_not, I64, Int.toNat_natCast]
  refine ⟨fun h1 => ⟨by omega, ?_, by omega, by omega, IH (by omega) _ (filled_set (by omega))⟩, fun h1 => ?_⟩
  · rw [at_lt (show k < a.length by omega)]
    exact h' _ (List.getElem_mem _)
  · rw [show k = a.length by omega]
    exact filled_end a
abbrev toBigraph (a : Big) := a
abbrev toBigraph_pre (a : Big) : Prop := (a.nodes.length ≤ 1048576 ∧ ∀ x ∈ a.nodes, x.links.length ≤ 1048576) ∧ a.sites.length ≤ 1048576 ∧ a.outer.length ≤ 1048576 ∧ a.inner.length ≤ 1048576
def toBigraph_wp (a : Big) (Z : Big → Prop) : Prop :=
  (toNodeS_pre a.nodes) ∧ ∀ r9 : List GNode, r9 = toNodeS a.nodes → (toIntS_pre a.sites) ∧ ∀ r21 : List Int, r21 = toIntS a.sites → (toStringS_pre a.outer) ∧ ∀ r37 : List Str, r37 = toStringS a.outer → (toWireS_pre a.inner) ∧ ∀ r51 : List Wire, r51 = toWireS a.inner → Z (Big.mk a.roots r9 r21 a.edges r37 r51)
theorem toBigraph_vc (a : Big) (h : toBigraph_pre a) : toBigraph_wp a (fun y => y = toBigraph a) := by
  unfold toBigraph_wp
  simp only [forall_eq]
  exact ⟨h.1, h.2.1, h.2.2.1, h.2.2.2, trivial⟩

/-- Elements that are marked up to one. -/
def markPre {α : Type} (g : α → Int → α) (c : Int) (l : List α) (k : Int) (i : Nat) : List α := l.mapIdx fun j x => if j < i then g x (k + c * j) else x
def markL {α : Type} (g : α → Int → α) (c : Int) (l : List α) (k : Int) : List α × Int := (markPre g c l k l.length, k + c * l.length)
section
variable {α : Type} (g : α → Int → α) (c : Int) (l : List α) (k : Int)
theorem markPre_zero : markPre g c l k 0 = l := by
  apply List.ext_getElem
  · simp [markPre]
  · intro j h1 h2
    simp [markPre]
theorem markPre_len (i : Nat) : (markPre g c l k i).length = l.length := by simp [markPre]
theorem markPre_get [Inhabited α] {i : Nat} (hi : i < l.length) : at' (markPre g c l k i) (i : Int) = l[i] := by
  rw [at_lt (by rw [markPre_len]; exact hi)]
  simp [markPre]
theorem markPre_set {i : Nat} (hi : i < l.length) : (markPre g c l k i).set i (g l[i] (k + c * i)) = markPre g c l k (i + 1) := by
  apply List.ext_getElem
  · simp [markPre]
  · intro j h1 h2
    simp only [List.getElem_set, markPre, List.getElem_mapIdx]
    by_cases hj : i = j
    · subst hj
      simp
    · rw [if_neg hj]
      by_cases h3 : j < i
      · rw [if_pos h3, if_pos (by omega)]
      · rw [if_neg h3, if_neg (by omega)]
end
def markTxt (k : Int) : Str := markTextL k.toNat
abbrev markTxt_pre (k : Int) : Prop := 0 ≤ k ∧ k ≤ 1152921504606846976
abbrev MarkOk (c n k : Int) : Prop := 0 ≤ k ∧ n ≤ 1048576 ∧ k + c * n ≤ 1152921504606846976

abbrev markIntS (l : List Int) (k : Int) := markL (fun _ k => k) 1 l k
abbrev markIntS_pre (l : List Int) (k : Int) : Prop := MarkOk 1 l.length k
def markIntS_wp (a : List Int) (k_ : Int) (Z : ((List Int) × Int) → Prop) : Prop :=
  loopW (σ := Int × Int × (List Int)) (fun (k10, i11, l12) K14 => ∀ len15 : Int, len15 = (l12.length : Int) → ∀ c17 : Bool, c17 = decide (i11 < len15) → ((c17 = true → (0 ≤ i11 ∧ i11 < l12.length) ∧ ∀ x24 : Int, x24 = at' l12 i11 → ∀ l27 : List Int, l27 = l12.set i11.toNat k10 → (I64 (k10 + 1)) ∧ ∀ v32 : Int, v32 = k10 + 1 → (I64 (i11 + 1)) ∧ ∀ v35 : Int, v35 = i11 + 1 → K14 (v32, v35, l27)) ∧ (c17 = false → Z (l12, k10)))) (k_, 0, a)
theorem markIntS_vc (l : List Int) (k : Int) (h : markIntS_pre l k) : markIntS_wp l k (fun y => y = markIntS l k) := by
  unfold markIntS_wp
  obtain ⟨h1, h2, h3⟩ := h
  refine loopW.up l.length (fun s => s.2.1) (fun i t => (k + 1 * i, (i : Int), t)) (fun _ _ => rfl) (fun i out => out = markPre (fun _ k => k) 1 l k i) l (by simp) (markPre_zero _ _ _ _).symm ?_
  rintro i out K hk rfl IH
  have hl := markPre_len (fun _ k => k) 1 l k i
  simp only [forall_eq, decide_eq_true_eq, decide_eq_false_iff_not, I64, Int.toNat_natCast]
  refine ⟨fun h4 => ⟨by omega, by omega, by omega, ?_⟩, fun h4 => ?_⟩
  · have hi : i < l.length := by omega
    have := IH hi _ rfl
    rw [← markPre_set _ _ _ _ hi] at this
    rw [show k + 1 * (((i + 1 : Nat)) : Int) = k + 1 * i + 1 by omega] at this
    simpa using this
  · rw [show i = l.length by omega]
    rfl
abbrev markStringS (l : List Str) (k : Int) := markL (fun _ k => markTxt k) 1 l k
abbrev markStringS_pre (l : List Str) (k : Int) : Prop := MarkOk 1 l.length k
def markStringS_wp (a : List Str) (k_ : Int) (Z : ((List Str) × Int) → Prop) : Prop :=
  loopW (σ := Int × Int × (List Str)) (fun (k10, i11, l12) K14 => ∀ len15 : Int, len15 = (l12.length : Int) → ∀ c17 : Bool, c17 = decide (i11 < len15) → ((c17 = true → (markTxt_pre k10) ∧ ∀ r20 : Str, r20 = markTxt k10 → (0 ≤ i11 ∧ i11 < l12.length) ∧ ∀ x26 : Str, x26 = at' l12 i11 → ∀ l29 : List Str, l29 = l12.set i11.toNat r20 → (I64 (k10 + 1)) ∧ ∀ v34 : Int, v34 = k10 + 1 → (I64 (i11 + 1)) ∧ ∀ v37 : Int, v37 = i11 + 1 → K14 (v34, v37, l29)) ∧ (c17 = false → Z (l12, k10)))) (k_, 0, a)
theorem markStringS_vc (l : List Str) (k : Int) (h : markStringS_pre l k) : markStringS_wp l k (fun y => y = markStringS l k) := by
  unfold markStringS_wp
  obtain ⟨h1, h2, h3⟩ := h
  refine loopW.up l.length (fun s => s.2.1) (fun i t => (k + 1 * i, (i : Int), t)) (fun _ _ => rfl) (fun i out => out = markPre (fun _ k => markTxt k) 1 l k i) l (by simp) (markPre_zero _ _ _ _).symm ?_
  rintro i out K hk rfl IH
  have hl := markPre_len (fun _ k => markTxt k) 1 l k i
  simp only [forall_eq, decide_eq_true_eq, decide_eq_false_iff_not, I64, Int.toNat_natCast]
  refine ⟨fun h4 => ⟨by simp only [markTxt_pre]; omega, by omega, by omega, by omega, ?_⟩, fun h4 => ?_⟩
  · have hi : i < l.length := by omega
    have := IH hi _ rfl
    rw [← markPre_set _ _ _ _ hi] at this
    rw [show k + 1 * (((i + 1 : Nat)) : Int) = k + 1 * i + 1 by omega] at this
    simpa using this
  · rw [show i = l.length by omega]
    rfl
theorem at_set {α : Type} [Inhabited α] {l : List α} {i : Nat} {x : α} (hi : i < l.length) : at' (l.set i x) (i : Int) = x := by
  rw [at_lt (by simpa using hi)]
  simp
abbrev markWireS (l : List Wire) (k : Int) := markL (fun _ k => (⟨markTxt k, k + 1⟩ : Wire)) 2 l k
abbrev markWireS_pre (l : List Wire) (k : Int) : Prop := MarkOk 2 l.length k
def markWireS_wp (a : List Wire) (k_ : Int) (Z : ((List Wire) × Int) → Prop) : Prop :=
  loopW (σ := Int × Int × (List Wire)) (fun (k10, i11, l12) K14 => ∀ len15 : Int, len15 = (l12.length : Int) → ∀ c17 : Bool, c17 = decide (i11 < len15) → ((c17 = true → (markTxt_pre k10) ∧ ∀ r20 : Str, r20 = markTxt k10 → (0 ≤ i11 ∧ i11 < l12.length) ∧ ∀ x26 : Wire, x26 = at' l12 i11 → ∀ l29 : List Wire, l29 = l12.set i11.toNat (Wire.mk r20 x26.link) → (I64 (k10 + 1)) ∧ ∀ v34 : Int, v34 = k10 + 1 → (0 ≤ i11 ∧ i11 < l29.length) ∧ ∀ x42 : Wire, x42 = at' l29 i11 → ∀ l45 : List Wire, l45 = l29.set i11.toNat (Wire.mk x42.name v34) → (I64 (v34 + 1)) ∧ ∀ v50 : Int, v50 = v34 + 1 → (I64 (i11 + 1)) ∧ ∀ v53 : Int, v53 = i11 + 1 → K14 (v50, v53, l45)) ∧ (c17 = false → Z (l12, k10)))) (k_, 0, a)
theorem markWireS_vc (l : List Wire) (k : Int) (h : markWireS_pre l k) : markWireS_wp l k (fun y => y = markWireS l k) := by
  unfold markWireS_wp
  obtain ⟨h1, h2, h3⟩ := h
  refine loopW.up l.length (fun s => s.2.1) (fun i t => (k + 2 * i, (i : Int), t)) (fun _ _ => rfl) (fun i out => out = markPre (fun _ k => (⟨markTxt k, k + 1⟩ : Wire)) 2 l k i) l (by simp) (markPre_zero _ _ _ _).symm ?_
  rintro i out K hk rfl IH
  have hl := markPre_len (fun _ k => (⟨markTxt k, k + 1⟩ : Wire)) 2 l k i
  simp only [forall_eq, decide_eq_true_eq, decide_eq_false_iff_not, I64, Int.toNat_natCast, List.length_set]
  refine ⟨fun h4 => ⟨by simp only [markTxt_pre]; omega, by omega, by omega, by omega, by omega, by omega, ?_⟩, fun h4 => ?_⟩
  · have hi : i < l.length := by omega
    rw [at_set (by rw [hl]; exact hi), List.set_set]
    have := IH hi _ rfl
    rw [← markPre_set _ _ _ _ hi] at this
    rw [show k + 2 * (((i + 1 : Nat)) : Int) = k + 2 * i + 1 + 1 by omega] at this
    simpa using this
  · rw [show i = l.length by omega]
    rfl
abbrev markControlS (l : List Control) (k : Int) := markL (fun _ k => (⟨markTxt k, k + 1, k + 1 + 1⟩ : Control)) 3 l k
abbrev markControlS_pre (l : List Control) (k : Int) : Prop := MarkOk 3 l.length k
def markControlS_wp (a : List Control) (k_ : Int) (Z : ((List Control) × Int) → Prop) : Prop :=
  loopW (σ := Int × Int × (List Control)) (fun (k10, i11, l12) K14 => ∀ len15 : Int, len15 = (l12.length : Int) → ∀ c17 : Bool, c17 = decide (i11 < len15) → ((c17 = true → (markTxt_pre k10) ∧ ∀ r20 : Str, r20 = markTxt k10 → (0 ≤ i11 ∧ i11 < l12.length) ∧ ∀ x26 : Control, x26 = at' l12 i11 → ∀ l29 : List Control, l29 = l12.set i11.toNat (Control.mk r20 x26.ports x26.kind) → (I64 (k10 + 1)) ∧ ∀ v34 : Int, v34 = k10 + 1 → (0 ≤ i11 ∧ i11 < l29.length) ∧ ∀ x42 : Control, x42 = at' l29 i11 → ∀ l45 : List Control, l45 = l29.set i11.toNat (Control.mk x42.name v34 x42.kind) → (I64 (v34 + 1)) ∧ ∀ v50 : Int, v50 = v34 + 1 → (0 ≤ i11 ∧ i11 < l45.length) ∧ ∀ x58 : Control, x58 = at' l45 i11 → ∀ l61 : List Control, l61 = l45.set i11.toNat (Control.mk x58.name x58.ports v50) → (I64 (v50 + 1)) ∧ ∀ v66 : Int, v66 = v50 + 1 → (I64 (i11 + 1)) ∧ ∀ v69 : Int, v69 = i11 + 1 → K14 (v66, v69, l61)) ∧ (c17 = false → Z (l12, k10)))) (k_, 0, a)
theorem markControlS_vc (l : List Control) (k : Int) (h : markControlS_pre l k) : markControlS_wp l k (fun y => y = markControlS l k) := by
  unfold markControlS_wp
  obtain ⟨h1, h2, h3⟩ := h
  refine loopW.up l.length (fun s => s.2.1) (fun i t => (k + 3 * i, (i : Int), t)) (fun _ _ => rfl) (fun i out => out = markPre (fun _ k => (⟨markTxt k, k + 1, k + 1 + 1⟩ : Control)) 3 l k i) l (by simp) (markPre_zero _ _ _ _).symm ?_
  rintro i out K hk rfl IH
  have hl := markPre_len (fun _ k => (⟨markTxt k, k + 1, k + 1 + 1⟩ : Control)) 3 l k i
  simp only [forall_eq, decide_eq_true_eq, decide_eq_false_iff_not, I64, Int.toNat_natCast, List.length_set]
  refine ⟨fun h4 => ⟨by simp only [markTxt_pre]; omega, by omega, by omega, by omega, by omega, by omega, by omega, by omega, ?_⟩, fun h4 => ?_⟩
  · have hi : i < l.length := by omega
    rw [at_set (by rw [hl]; exact hi), List.set_set, at_set (by simp only [List.length_set, hl]; exact hi), List.set_set]
    have := IH hi _ rfl
    rw [← markPre_set _ _ _ _ hi] at this
    rw [show k + 3 * (((i + 1 : Nat)) : Int) = k + 3 * i + 1 + 1 + 1 by omega] at this
    simpa using this
  · rw [show i = l.length by omega]
    rfl
/-- Whether marks are there. -/
def heldIntS (l : List Int) (k : Int) : Int := if (List.range l.length).all (fun i => decide (at' l (i : Int) = k + i)) then k + l.length else -1
abbrev heldIntS_pre (l : List Int) (k : Int) : Prop := MarkOk 1 l.length k
def heldIntS_wp (a : List Int) (k_ : Int) (Z : Int → Prop) : Prop :=
  loopW (σ := Int × Int) (fun (k5, i6) K8 => ∀ len9 : Int, len9 = (a.length : Int) → ∀ c11 : Bool, c11 = decide (i6 < len9) → ((c11 = true → (0 ≤ i6 ∧ i6 < a.length) ∧ ∀ x14 : Int, x14 = at' a i6 → ∀ c16 : Bool, c16 = decide (x14 ≠ k5) → ((c16 = true → Z (-1)) ∧ (c16 = false → (I64 (k5 + 1)) ∧ ∀ v19 : Int, v19 = k5 + 1 → (I64 (i6 + 1)) ∧ ∀ v22 : Int, v22 = i6 + 1 → K8 (v19, v22)))) ∧ (c11 = false → Z k5))) (k_, 0)
theorem heldIntS_vc (l : List Int) (k : Int) (h : heldIntS_pre l k) : heldIntS_wp l k (fun y => y = heldIntS l k) := by
  unfold heldIntS_wp
  obtain ⟨h1, h2, h3⟩ := h
  refine loopW.up (τ := Unit) l.length (fun s => s.2) (fun i _ => (k + i, (i : Int))) (fun _ _ => rfl) (fun i _ => ∀ j < i, at' l (j : Int) = k + j) () (by simp) (by simp) ?_
  rintro i _ K hk hI IH
  simp only [forall_eq, decide_eq_true_eq, decide_eq_false_iff_not, I64]
  refine ⟨fun h4 => ⟨by omega, fun h5 => ?_, fun h5 => ⟨by omega, by omega, ?_⟩⟩, fun h4 => ?_⟩
  · rw [heldIntS, if_neg]
    rw [List.all_eq_true]
    intro h6
    exact h5 (by simpa using h6 i (List.mem_range.2 (by omega)))
  · have := IH (by omega) () (fun j hj => by
      rcases Nat.lt_or_ge j i with h6 | h6
      · exact hI j h6
      · rw [show j = i by omega]; omega)
    simpa [show k + ((i : Int) + 1) = k + i + 1 by omega] using this
  · have hi : i = l.length := by omega
    rw [heldIntS, if_pos, hi]
    rw [List.all_eq_true]
    intro j hj
    simpa using hI j (by have := List.mem_range.1 hj; omega)
theorem held_mark (l : List Int) (k : Int) : heldIntS (markIntS l k).1 k = (markIntS l k).2 := by
  have hl : (markIntS l k).1.length = l.length := by simp [markIntS, markL, markPre_len]
  rw [heldIntS, if_pos, hl]
  · simp [markIntS, markL]
  · rw [List.all_eq_true]
    intro j hj
    have hj := List.mem_range.1 hj
    rw [at_lt hj]
    rw [hl] at hj
    simp [markIntS, markL, markPre, hj]
theorem marked_len {α : Type} (g : α → Int → α) (c : Int) (l : List α) (k : Int) : (markL g c l k).1.length = l.length := by simp [markL, markPre_len]
end Go.Ab.Vg

/- Contracts of spec.l1In, spec.l2Name and spec.l12Good. -/
namespace Go.Ab
open Go.Proofs
set_option linter.unusedSimpArgs false
theorem e10 : Ent Tryd.prog 10 := Ent.of Tryd.func10 (by kernel_rfl) rfl
theorem e12 : Ent Tryd.prog 12 := Ent.of Tryd.func12 (by kernel_rfl) rfl
theorem e46 : Ent Tryd.prog 46 := Ent.of Tryd.func46 (by kernel_rfl) rfl
theorem e47 : Ent Tryd.prog 47 := Ent.of Tryd.func47 (by kernel_rfl) rfl
theorem e104 : Ent Tryd.prog 104 := Ent.of Tryd.func104 (by kernel_rfl) rfl
theorem e105 : Ent Tryd.prog 105 := Ent.of Tryd.func105 (by kernel_rfl) rfl
theorem e106 : Ent Tryd.prog 106 := Ent.of Tryd.func106 (by kernel_rfl) rfl
theorem e107 : Ent Tryd.prog 107 := Ent.of Tryd.func107 (by kernel_rfl) rfl
theorem e144 : Ent Tryd.prog 144 := Ent.of Tryd.func144 (by kernel_rfl) rfl

theorem l1In_ok (n lo hi : Int) : PureC Tryd.prog 104 [int n, int lo, int hi] (fun r => r = bool (within n lo hi)) := by
  refine PureC.of Tryd.func104 rfl Tryd.ntmps104 (by simp) fun Q hQ => ?_
  refine Runs.seqE Ty_ok (by decide) fun k' hk' => ?_
  simp
  refine hk' _ _ _ (Runs.seqE Ty_ok (by decide) fun k' hk' => ?_)
  simp
  by_cases h : lo ≤ n
  all_goals
    simp [h]
    refine hk' _ _ _ (Runs.ret Tryd.func104 (RetOk.one Tryd.results104) (hQ _ _ _ _ (ResOk.v _ _ _) ?_))
    simp [within, h]

theorem isNm_bad {s : Str} {k : Nat} (hk : k < s.length) (h : lower s[k] = false) : isNm s = false := by
  have : s.all lower = false := by
    rw [List.all_eq_false]
    exact ⟨s[k], List.getElem_mem hk, by simp [h]⟩
  simp [isNm, this]

theorem l2Name_ok (s : Str) (hs : s.length ≤ 1048576) : PureC Tryd.prog 105 [str s] (fun r => r = bool (isNm s)) := by
  refine PureC.of Tryd.func105 rfl Tryd.ntmps105 (by simp) fun Q hQ => ?_
  refine Runs.seqE Ty_ok (by decide) fun k' hk' => ?_
  simp   -- R0
  refine hk' _ _ _ ?_
  refine Runs.seq ?_
  refine Runs.seqE Ty_ok (by decide) fun k' hk' => ?_
  simp   -- R1
  refine hk' _ _ _ ?_
  refine Runs.block (Runs.loopUp s.length (fun k ρ H n => ρ 0 = str s ∧ ρ 3 = int k ∧ (s.take k).all lower = true) ?_ ?_)
  · simp
  · rintro k ρ H n hk ⟨h0, h3, hall⟩ IH
    refine Runs.seq ?_
    refine Runs.seqE Ty_ok (by decide) fun k' hk' => ?_
    simp [h0, h3]   -- R2
    refine hk' _ _ _ ?_
    refine Runs.ite rfl (fun hc1 => ?_) (fun hc1 => ?_)   -- t7
    · simp at hc1
      refine Runs.skip ?_
      refine Runs.seq ?_
      refine Runs.block ?_
      refine Runs.seqE Ty_ok (by decide) fun k' hk' => ?_
      simp [h0, h3, hc1]   -- R4
      by_cases ha : (s[k].toNat : Int) < 97
      · simp [ha]
        refine hk' _ _ _ ?_
        refine Runs.ite rfl (fun _ => ?_) (fun h => by simp at h)
        refine Runs.seqE Ty_ok (by decide) fun k' hk' => ?_
        simp   -- R5
        refine hk' _ _ _ ?_
        refine Runs.ret Tryd.func105 (RetOk.one Tryd.results105) (hQ _ _ _ _ (.v _ _ _) ?_)
        rw [isNm_bad hc1 (by simp [lower]; omega)]
      · by_cases hz : (122 : Int) < s[k].toNat
        · simp [ha, hz, h0, h3, hc1]
          refine hk' _ _ _ ?_
          refine Runs.ite rfl (fun _ => ?_) (fun h => by simp at h)
          refine Runs.seqE Ty_ok (by decide) fun k' hk' => ?_
          simp   -- R5
          refine hk' _ _ _ ?_
          refine Runs.ret Tryd.func105 (RetOk.one Tryd.results105) (hQ _ _ _ _ (.v _ _ _) ?_)
          rw [isNm_bad hc1 (by simp [lower]; omega)]
        · simp [ha, hz, h0, h3, hc1]
          refine hk' _ _ _ ?_
          refine Runs.ite rfl (fun h => by simp at h) (fun _ => ?_)
          refine Runs.skip ?_
          refine Runs.inBlock ?_
          refine Runs.evalE Ty_ok (by decide) fun k' hk' => ?_
          simp [h3, wrap_succ (show k < 4611686018427387904 by omega)]   -- R3
          refine hk' _ _ _ ?_
          refine IH hc1 _ _ _ ?_
          rw [List.take_succ_eq_append_getElem hc1, List.all_append, hall]
          simp [h0, lower]
          omega
    · simp at hc1
      refine Runs.exit rfl ?_
      refine Runs.seqE Ty_ok (by decide) fun k' hk' => ?_
      simp [h0]   -- R6
      refine RunK.callA Ty_ok (l1In_ok s.length 1 4) e104 (.cons (.v _ _ _) (.cons (.v _ _ _) (.cons (.v _ _ _) .nil))) (by decide) (by decide) rfl (by simp) ?_
      rintro _ rfl
      simp
      refine hk' _ _ _ ?_
      refine Runs.ret Tryd.func105 (RetOk.one Tryd.results105) (hQ _ _ _ _ (.v _ _ _) ?_)
      rw [List.take_of_length_le hc1] at hall
      simp only [isNm, hall, Bool.and_true]

theorem l12Good_ok (p : Proc) (hp : p.length ≤ 1048576) (hn : ∀ i, i < p.length → (p.getD i default).name.length ≤ 1048576) : PureC Tryd.prog 46 [encP false p] (fun r => r = bool (goodP p)) := by
  refine PureC.of Tryd.func46 rfl Tryd.ntmps46 (by simp) fun Q hQ => ?_
  refine Runs.seqE Ty_ok (by decide) fun k' hk' => ?_
  simp [encP]   -- R0
  refine hk' _ _ _ ?_
  refine Runs.seq ?_
  refine Runs.seqE Ty_ok (by decide) fun k' hk' => ?_
  simp   -- R1
  refine hk' _ _ _ ?_
  refine Runs.block (Runs.loopUp p.length (fun k ρ H n => ρ 1 = .ptr (0, 1) 1 0 0 ∧ H (0, 1) = some ⟨1, [[.list false (p.map AmbNode.cells)]]⟩ ∧ ρ 3 = int k ∧ ∀ i, i < k → okNode p i = true) ?_ ?_)
  · simp
  · rintro k ρ H n hk ⟨h1, hH, h3, hall⟩ IH
    refine Runs.seq ?_
    refine Runs.seqE Ty_ok (by decide) fun k' hk' => ?_
    simp [h1, hH, h3]   -- R2
    refine hk' _ _ _ ?_
    refine Runs.ite rfl (fun hc1 => ?_) (fun hc1 => ?_)   -- t9
    · simp at hc1
      refine Runs.skip ?_
      refine Runs.seq ?_
      refine Runs.block ?_
      refine Runs.seqE Ty_ok (by decide) fun k' hk' => ?_
      simp [h1, hH, h3, hc1, AmbNode.cells]   -- R3
      refine hk' _ _ _ ?_
      refine Runs.seqE Ty_ok (by decide) fun k' hk' => ?_
      simp   -- R4
      have hx : p.getD k default = p[k] := by simp [hc1]
      have hok : okNode p k = (within p[k].kind 0 3 && isNm p[k].name && within p[k].parent (-1) ((k : Int) - 1)) := by rw [okNode, hx]
      have hnm := hn k hc1
      rw [hx] at hnm
      refine RunK.callA Ty_ok (l1In_ok p[k].kind 0 3) e104 (.cons (.v _ _ _) (.cons (.v _ _ _) (.cons (.v _ _ _) .nil))) (by decide) (by decide) rfl (by simp) ?_
      rintro _ rfl
      cases hw : within p[k].kind 0 3
      · simp [hw]
        refine hk' _ _ _ ?_
        refine Runs.ite rfl (fun _ => ?_) (fun h => by simp at h)
        refine Runs.seqE Ty_ok (by decide) fun k' hk' => ?_
        simp   -- R5
        refine hk' _ _ _ ?_
        refine Runs.ret Tryd.func46 (RetOk.one Tryd.results46) (hQ _ _ _ _ (.v _ _ _) ?_)
        rw [goodP_bad hc1 (by rw [hok]; simp [hw])]
      · simp [hw]
        refine RunK.callA Ty_ok (l2Name_ok p[k].name hnm) e105 (.cons (.v _ _ _) .nil) (by decide) (by decide) rfl (by simp) ?_
        rintro _ rfl
        cases hs : isNm p[k].name
        · simp [hs]
          refine hk' _ _ _ ?_
          refine Runs.ite rfl (fun _ => ?_) (fun h => by simp at h)
          refine Runs.seqE Ty_ok (by decide) fun k' hk' => ?_
          simp   -- R5
          refine hk' _ _ _ ?_
          refine Runs.ret Tryd.func46 (RetOk.one Tryd.results46) (hQ _ _ _ _ (.v _ _ _) ?_)
          rw [goodP_bad hc1 (by rw [hok]; simp [hw, hs])]
        · simp [hs, h3, show -9223372036854775808 ≤ (k : Int) - 1 by omega, show (k : Int) - 1 ≤ 9223372036854775807 by omega]
          refine RunK.callA Ty_ok (l1In_ok p[k].parent (-1) ((k : Int) - 1)) e104 (.cons (.v _ _ _) (.cons (.v _ _ _) (.cons (.v _ _ _) .nil))) (by decide) (by decide) rfl (by simp) ?_
          rintro _ rfl
          cases hu : within p[k].parent (-1) ((k : Int) - 1)
          · simp [hu]
            refine hk' _ _ _ ?_
            refine Runs.ite rfl (fun _ => ?_) (fun h => by simp at h)
            refine Runs.seqE Ty_ok (by decide) fun k' hk' => ?_
            simp   -- R5
            refine hk' _ _ _ ?_
            refine Runs.ret Tryd.func46 (RetOk.one Tryd.results46) (hQ _ _ _ _ (.v _ _ _) ?_)
            rw [goodP_bad hc1 (by rw [hok]; simp [hw, hs, hu])]
          · simp [hu]
            refine hk' _ _ _ ?_
            refine Runs.ite rfl (fun h => by simp at h) (fun _ => ?_)
            refine Runs.skip ?_
            refine Runs.inBlock ?_
            refine Runs.evalE Ty_ok (by decide) fun k' hk' => ?_
            simp [h3, wrap_succ (show k < 4611686018427387904 by omega)]   -- R6
            refine hk' _ _ _ ?_
            refine IH hc1 _ _ _ ?_
            simp [h1, hH]
            intro i hi
            by_cases hik : i = k
            · subst hik
              rw [hok]; simp [hw, hs, hu]
            · exact hall i (by omega)
    · simp at hc1
      refine Runs.exit rfl ?_
      refine Runs.seqE Ty_ok (by decide) fun k' hk' => ?_
      simp [h1, hH]   -- R7
      refine hk' _ _ _ ?_
      refine Runs.ret Tryd.func46 (RetOk.one Tryd.results46) (hQ _ _ _ _ (.v _ _ _) ?_)
      rw [goodP_end (by rwa [show k = p.length by omega] at hall)]
      simp
      omega
end Go.Ab

/- Contracts of impl.isLink, impl.isParent, impl.isNode and of their like in the reference. -/
namespace Go.Ab
open Go.Proofs
set_option linter.unusedSimpArgs false
theorem e77 : Ent Tryd.prog 77 := Ent.of Tryd.func77 (by kernel_rfl) rfl
theorem e133 : Ent Tryd.prog 133 := Ent.of Tryd.func133 (by kernel_rfl) rfl
theorem e74 : Ent Tryd.prog 74 := Ent.of Tryd.func74 (by kernel_rfl) rfl
theorem e132 : Ent Tryd.prog 132 := Ent.of Tryd.func132 (by kernel_rfl) rfl
theorem e63 : Ent Tryd.prog 63 := Ent.of Tryd.func63 (by kernel_rfl) rfl
theorem e67 : Ent Tryd.prog 67 := Ent.of Tryd.func67 (by kernel_rfl) rfl

theorem isLink_ok (b : Big) (l : Int) (he : 0 ≤ b.edges ∧ b.edges ≤ 8) (ho : b.outer.length ≤ 1048576) : PureC Tryd.prog 77 [encB false b, int l] (fun r => r = bool (okLink b l)) := by
  have hw1 : IntKind.i64.wrap (b.edges + b.outer.length) = b.edges + b.outer.length := by rw [wrap64] <;> omega
  have hw2 : IntKind.i64.wrap (b.edges + b.outer.length - 1) = b.edges + b.outer.length - 1 := by rw [wrap64] <;> omega
  refine PureC.of Tryd.func77 rfl Tryd.ntmps77 (by simp) fun Q hQ => ?_
  refine Runs.seqE Ty_ok (by decide) fun k' hk' => ?_
  simp [encB, Big.cells]   -- R0
  refine hk' _ _ _ ?_
  refine Runs.seqE Ty_ok (by decide) fun k' hk' => ?_
  simp [encS, hw1, hw2]   -- R1
  refine RunK.callA Ty_ok (within_ok l 0 (b.edges + b.outer.length - 1)) e71 (.cons (.v _ _ _) (.cons (.v _ _ _) (.cons (.v _ _ _) .nil))) (by decide) (by decide) rfl (by simp) ?_
  rintro _ rfl
  simp
  refine hk' _ _ _ ?_
  exact Runs.ret Tryd.func77 (RetOk.one Tryd.results77) (hQ _ _ _ _ (.v _ _ _) rfl)

theorem l2Link_ok (b : Big) (l : Int) (he : 0 ≤ b.edges ∧ b.edges ≤ 8) (ho : b.outer.length ≤ 1048576) : PureC Tryd.prog 133 [encB false b, int l] (fun r => r = bool (okLink b l)) := by
  have hw1 : IntKind.i64.wrap (b.edges + b.outer.length) = b.edges + b.outer.length := by rw [wrap64] <;> omega
  have hw2 : IntKind.i64.wrap (b.edges + b.outer.length - 1) = b.edges + b.outer.length - 1 := by rw [wrap64] <;> omega
  refine PureC.of Tryd.func133 rfl Tryd.ntmps133 (by simp) fun Q hQ => ?_
  refine Runs.seqE Ty_ok (by decide) fun k' hk' => ?_
  simp [encB, Big.cells]   -- R0
  refine hk' _ _ _ ?_
  refine Runs.seqE Ty_ok (by decide) fun k' hk' => ?_
  simp [encS, hw1, hw2]   -- R1
  refine RunK.callA Ty_ok (l1In_ok l 0 (b.edges + b.outer.length - 1)) e104 (.cons (.v _ _ _) (.cons (.v _ _ _) (.cons (.v _ _ _) .nil))) (by decide) (by decide) rfl (by simp) ?_
  rintro _ rfl
  simp
  refine hk' _ _ _ ?_
  exact Runs.ret Tryd.func133 (RetOk.one Tryd.results133) (hQ _ _ _ _ (.v _ _ _) rfl)

def isNodeB (b : Big) (x : Int) : Bool := within x 0 ((b.nodes.length : Int) - 1)

theorem isNodeB_ok (b : Big) (x : Int) (hn : b.nodes.length ≤ 1048576) : PureC Tryd.prog 63 [encB false b, int x] (fun r => r = bool (isNodeB b x)) := by
  have hw2 : IntKind.i64.wrap ((b.nodes.length : Int) - 1) = (b.nodes.length : Int) - 1 := by rw [wrap64] <;> omega
  refine PureC.of Tryd.func63 rfl Tryd.ntmps63 (by simp) fun Q hQ => ?_
  refine Runs.seqE Ty_ok (by decide) fun k' hk' => ?_
  simp [encB, Big.cells]   -- R0
  refine hk' _ _ _ ?_
  refine Runs.seqE Ty_ok (by decide) fun k' hk' => ?_
  simp [encN, hw2]   -- R1
  refine RunK.callA Ty_ok (within_ok x 0 ((b.nodes.length : Int) - 1)) e71 (.cons (.v _ _ _) (.cons (.v _ _ _) (.cons (.v _ _ _) .nil))) (by decide) (by decide) rfl (by simp) ?_
  rintro _ rfl
  simp
  refine hk' _ _ _ ?_
  exact Runs.ret Tryd.func63 (RetOk.one Tryd.results63) (hQ _ _ _ _ (.v _ _ _) rfl)

theorem l2Is_ok (b : Big) (x : Int) (hn : b.nodes.length ≤ 1048576) : PureC Tryd.prog 67 [encB false b, int x] (fun r => r = bool (isNodeB b x)) := by
  have hw2 : IntKind.i64.wrap ((b.nodes.length : Int) - 1) = (b.nodes.length : Int) - 1 := by rw [wrap64] <;> omega
  refine PureC.of Tryd.func67 rfl Tryd.ntmps67 (by simp) fun Q hQ => ?_
  refine Runs.seqE Ty_ok (by decide) fun k' hk' => ?_
  simp [encB, Big.cells]   -- R0
  refine hk' _ _ _ ?_
  refine Runs.seqE Ty_ok (by decide) fun k' hk' => ?_
  simp [encN, hw2]   -- R1
  refine RunK.callA Ty_ok (l1In_ok x 0 ((b.nodes.length : Int) - 1)) e104 (.cons (.v _ _ _) (.cons (.v _ _ _) (.cons (.v _ _ _) .nil))) (by decide) (by decide) rfl (by simp) ?_
  rintro _ rfl
  simp
  refine hk' _ _ _ ?_
  exact Runs.ret Tryd.func67 (RetOk.one Tryd.results67) (hQ _ _ _ _ (.v _ _ _) rfl)

/-- The nodes below a number have controls. -/
def CtlOk (sig : Sig) (b : Big) (below : Nat) : Prop := ∀ i, i < below → 0 ≤ (b.nodes.getD i default).control ∧ (b.nodes.getD i default).control < sig.length

theorem isParent_ok (sig : Sig) (b : Big) (parent : Int) (below : Nat) (hr : 0 ≤ b.roots ∧ b.roots ≤ 4) (hb : below ≤ b.nodes.length) (hc : CtlOk sig b below) :
    PureC Tryd.prog 74 [encB false b, encSig false sig, int parent, int below] (fun r => r = bool (okParent sig b parent below)) := by
  refine PureC.of Tryd.func74 rfl Tryd.ntmps74 (by simp) fun Q hQ => ?_
  refine Runs.seqE Ty_ok (by decide) fun k' hk' => ?_
  simp [encB, Big.cells]   -- R0
  refine hk' _ _ _ ?_
  refine Runs.seq ?_
  refine Runs.seqE Ty_ok (by decide) fun k' hk' => ?_
  simp   -- R1
  refine hk' _ _ _ ?_
  refine Runs.ite rfl (fun hc1 => ?_) (fun hc1 => ?_)   -- t10
  · have hc1 : parent < 0 := by simpa using hc1
    have hw : IntKind.i64.wrap (0 - b.roots) = -b.roots := by rw [wrap64] <;> omega
    refine Runs.seqE Ty_ok (by decide) fun k' hk' => ?_
    have hw' : IntKind.i64.wrap (-b.roots) = -b.roots := by rw [wrap64] <;> omega
    simp [hw, hw']   -- R2
    refine hk' _ _ _ ?_
    exact Runs.ret Tryd.func74 (RetOk.one Tryd.results74) (hQ _ _ _ _ (.v _ _ _) (by simp [okParent, hc1]))
  · have hc1 : ¬ parent < 0 := by simpa using hc1
    refine Runs.skip ?_
    refine Runs.seqE Ty_ok (by decide) fun k' hk' => ?_
    by_cases hlt : parent < (below : Int)
    · obtain ⟨q, rfl⟩ : ∃ q : Nat, parent = q := ⟨parent.toNat, by omega⟩
      have hq : q < b.nodes.length := by omega
      have hcq := hc q (by omega)
      have hg : b.nodes.getD q default = b.nodes[q] := by simp [hq]
      rw [hg] at hcq
      obtain ⟨c, hcc⟩ : ∃ c : Nat, b.nodes[q].control = c := ⟨b.nodes[q].control.toNat, by omega⟩
      have hcl : c < sig.length := by omega
      simp [hlt, encN, encSig, hq, GNode.cells, hcc, hcl, Control.cells, guardOf]   -- R3
      refine hk' _ _ _ ?_
      refine Runs.ret Tryd.func74 (RetOk.one Tryd.results74) (hQ _ _ _ _ (.v _ _ _) ?_)
      have hlt' : q < below := by omega
      simp [okParent, hlt', hq, hcc, hcl]
      rfl
    · simp [hlt, guardOf]   -- R3
      refine hk' _ _ _ ?_
      exact Runs.ret Tryd.func74 (RetOk.one Tryd.results74) (hQ _ _ _ _ (.v _ _ _) (by simp [okParent, hc1, hlt]))

theorem l2Under_ok (sig : Sig) (b : Big) (parent : Int) (below : Nat) (hp : I64 parent) (hr : 0 ≤ b.roots ∧ b.roots ≤ 4) (hb : below ≤ b.nodes.length) (hc : CtlOk sig b below) :
    PureC Tryd.prog 132 [encSig false sig, encB false b, int parent, int below] (fun r => r = bool (okParent sig b parent below)) := by
  obtain ⟨hp1, hp2⟩ := hp
  refine PureC.of Tryd.func132 rfl Tryd.ntmps132 (by simp) fun Q hQ => ?_
  refine Runs.seqE Ty_ok (by decide) fun k' hk' => ?_
  simp [encB, Big.cells]   -- R0
  refine hk' _ _ _ ?_
  refine Runs.seq ?_
  refine Runs.seqE Ty_ok (by decide) fun k' hk' => ?_
  simp   -- R1
  refine hk' _ _ _ ?_
  refine Runs.ite rfl (fun hc1 => ?_) (fun hc1 => ?_)   -- t10
  · have hc1 : parent < 0 := by simpa using hc1
    have hw : IntKind.i64.wrap (-1 - parent) = -1 - parent := by rw [wrap64] <;> omega
    have hw2 : IntKind.i64.wrap (b.roots - 1) = b.roots - 1 := by rw [wrap64] <;> omega
    refine Runs.seqE Ty_ok (by decide) fun k' hk' => ?_
    simp [hw, hw2]   -- R2
    refine RunK.callA Ty_ok (l1In_ok (-1 - parent) 0 (b.roots - 1)) e104 (.cons (.v _ _ _) (.cons (.v _ _ _) (.cons (.v _ _ _) .nil))) (by decide) (by decide) rfl (by simp) ?_
    rintro _ rfl
    simp
    refine hk' _ _ _ ?_
    refine Runs.ret Tryd.func132 (RetOk.one Tryd.results132) (hQ _ _ _ _ (.v _ _ _) ?_)
    have : within (-1 - parent) 0 (b.roots - 1) = decide (-b.roots ≤ parent) := by
      simp only [within]
      by_cases h : -b.roots ≤ parent
      · simp [h]; omega
      · simp [h]; omega
    simp [okParent, hc1, this]
  · have hc1 : ¬ parent < 0 := by simpa using hc1
    refine Runs.skip ?_
    refine Runs.seqE Ty_ok (by decide) fun k' hk' => ?_
    by_cases hlt : parent < (below : Int)
    · obtain ⟨q, rfl⟩ : ∃ q : Nat, parent = q := ⟨parent.toNat, by omega⟩
      have hq : q < b.nodes.length := by omega
      have hcq := hc q (by omega)
      have hg : b.nodes.getD q default = b.nodes[q] := by simp [hq]
      rw [hg] at hcq
      obtain ⟨c, hcc⟩ : ∃ c : Nat, b.nodes[q].control = c := ⟨b.nodes[q].control.toNat, by omega⟩
      have hcl : c < sig.length := by omega
      simp [hlt, encN, encSig, hq, GNode.cells, hcc, hcl, Control.cells, guardOf]   -- R3
      refine hk' _ _ _ ?_
      refine Runs.ret Tryd.func132 (RetOk.one Tryd.results132) (hQ _ _ _ _ (.v _ _ _) ?_)
      have hlt' : q < below := by omega
      simp [okParent, hlt', hq, hcc, hcl]
      rfl
    · simp [hlt, guardOf]   -- R3
      refine hk' _ _ _ ?_
      exact Runs.ret Tryd.func132 (RetOk.one Tryd.results132) (hQ _ _ _ _ (.v _ _ _) (by simp [okParent, hc1, hlt]))
end Go.Ab

/- Contracts of impl.areNames and spec.l2Names. -/
namespace Go.Ab
open Go.Proofs
set_option linter.unusedSimpArgs false
theorem e72 : Ent Tryd.prog 72 := Ent.of Tryd.func72 (by kernel_rfl) rfl
theorem e129 : Ent Tryd.prog 129 := Ent.of Tryd.func129 (by kernel_rfl) rfl

theorem less_not : ∀ (s p : Str), (Op.bytesLess s p || s == p) = !Op.bytesLess p s
  | [], [] => by simp [Op.bytesLess]
  | [], _ :: _ => by simp [Op.bytesLess]
  | _ :: _, [] => by simp [Op.bytesLess]
  | a :: x, b :: y => by
    have ih := less_not x y
    simp only [Op.bytesLess]
    rcases Nat.lt_trichotomy a.toNat b.toNat with h | h | h
    · have h1 : a < b := h
      have h2 : ¬ b < a := fun h' => by have h' : b.toNat < a.toNat := h'; omega
      have h3 : (b == a) = false := by
        rw [beq_eq_false_iff_ne]
        rintro rfl
        omega
      simp [h1, h2, h3]
    · have h0 : a = b := UInt8.toNat_inj.1 h
      subst h0
      have h2 : ¬ a < a := fun h' => by have h' : a.toNat < a.toNat := h'; omega
      simp [h2]
      rw [← ih]
      try (cases Op.bytesLess x y <;> simp)
      try (by_cases hxy : x = y <;> simp [hxy])
    · have h1 : b < a := h
      have h2 : ¬ a < b := fun h' => by have h' : a.toNat < b.toNat := h'; omega
      have h3 : (a == b) = false := by
        rw [beq_eq_false_iff_ne]
        rintro rfl
        omega
      have h4 : ¬ a = b := by simpa using h3
      simp [h1, h2, h4]

theorem all_range_bad {n k : Nat} {q : Nat → Bool} (hk : k < n) (h : q k = false) : (List.range n).all q = false := by
  rw [List.all_eq_false]
  exact ⟨k, by simpa using hk, by simp [h]⟩
theorem all_range_end {n : Nat} {q : Nat → Bool} (h : ∀ i, i < n → q i = true) : (List.range n).all q = true := by
  simpa [List.all_eq_true] using h

def okName (l : List Str) (i : Nat) : Bool := isNm (l.getD i []) && ascends l i
theorem goodNames_eq (l : List Str) : goodNames l = (decide (l.length ≤ 16) && (List.range l.length).all (okName l)) := rfl

theorem areNames_ok (l : List Str) (hl : l.length ≤ 1048576) (hs : ∀ s ∈ l, s.length ≤ 1048576) : PureC Tryd.prog 72 [encS false l] (fun r => r = bool (goodNames l)) := by
  refine PureC.of Tryd.func72 rfl Tryd.ntmps72 (by simp) fun Q hQ => ?_
  refine Runs.seqE Ty_ok (by decide) fun k' hk' => ?_
  simp [encS]   -- R0
  refine hk' _ _ _ ?_
  refine Runs.seq ?_
  refine Runs.seqE Ty_ok (by decide) fun k' hk' => ?_
  simp   -- R1
  refine hk' _ _ _ ?_
  refine Runs.block (Runs.loopUp l.length (fun k ρ H n => ρ 0 = .list false (l.map strC) ∧ ρ 5 = .list false (l.map strC) ∧ ρ 6 = int l.length ∧ ρ 7 = int k ∧ ∀ i, i < k → okName l i = true) ?_ ?_)
  · simp
  · rintro k ρ H n hk ⟨h0, h5, h6, h7, hall⟩ IH
    refine Runs.seqE Ty_ok (by decide) fun k' hk' => ?_
    simp [h6, h7]   -- R2
    refine hk' _ _ _ ?_
    refine Runs.seq ?_
    refine Runs.ite rfl (fun hc1 => ?_) (fun hc1 => ?_)   -- t8
    · have hc1 : k < l.length := by simpa using hc1
      refine Runs.skip ?_
      refine Runs.seq ?_
      refine Runs.block ?_
      refine Runs.seqE Ty_ok (by decide) fun k' hk' => ?_
      simp [h5, h7, hc1, strC]   -- R3
      refine hk' _ _ _ ?_
      refine Runs.seqE Ty_ok (by decide) fun k' hk' => ?_
      have fin : ∀ ρ : Env, ρ 0 = .list false (l.map strC) → ρ 5 = .list false (l.map strC) → ρ 6 = int l.length → ρ 7 = int k → ρ 27 = bool (!okName l k) → Runs Tryd.prog 72 32 k' ρ H n Q := by
        intro ρ h0 h5 h6 h7 h27
        refine hk' _ _ _ ?_
        refine Runs.ite h27 (fun hc2 => ?_) (fun hc2 => ?_)   -- t27
        · have hb : okName l k = false := by simpa using hc2
          refine Runs.seqE Ty_ok (by decide) fun k' hk' => ?_
          simp   -- R5
          refine hk' _ _ _ ?_
          exact Runs.ret Tryd.func72 (RetOk.one Tryd.results72) (hQ _ _ _ _ (.v _ _ _) (by rw [goodNames_eq, all_range_bad hc1 hb, Bool.and_false]))
        · have hb : okName l k = true := by simpa using hc2
          refine Runs.skip ?_
          refine Runs.inBlock ?_
          refine Runs.evalE Ty_ok (by decide) fun k' hk' => ?_
          simp [h7, wrap_succ (show k < 4611686018427387904 by omega)]   -- R6
          refine hk' _ _ _ ?_
          refine IH hc1 _ _ _ ⟨by simp [h0], by simp [h5], by simp [h6], by simp, fun i hi => ?_⟩
          rcases Nat.lt_or_ge i k with h | h
          · exact hall i h
          · rw [show i = k by omega]; exact hb
      have hgk : l.getD k [] = l[k] := by simp [hc1]
      simp   -- R4
      refine RunK.callA Ty_ok (isName_ok l[k] (hs _ (List.getElem_mem hc1))) e109 (.cons (.v _ _ _) .nil) (by decide) (by decide) rfl (by simp) ?_
      rintro _ rfl
      cases hnm : isNm l[k]
      · simp [guardOf]
        exact fin _ (by simp [h0]) (by simp [h5]) (by simp [h6]) (by simp [h7]) (by simp [okName, hc1, hnm])
      · by_cases hk0 : k = 0
        · subst hk0
          simp [guardOf]
          exact fin _ (by simp [h0]) (by simp [h5]) (by simp [h6]) (by simp [h7]) (by simp [okName, hc1, hnm, ascends])
        · have hk1 : 0 < k := by omega
          have hw : IntKind.i64.wrap ((k : Int) - 1) = ((k - 1 : Nat) : Int) := by rw [wrap64] <;> omega
          have hkl : k - 1 < l.length := by omega
          have hgk1 : l.getD (k - 1) [] = l[k - 1] := by simp [hkl]
          have hp := less_not l[k] l[k - 1]
          simp [guardOf, hk1, h0, hw, hkl, strC]
          refine fin _ (by simp [h0]) (by simp [h5]) (by simp [h6]) (by simp [h7]) ?_
          simp only [okName, hgk, hnm, ascends, hgk1, hk0, decide_false, Bool.false_or, Bool.true_and]
          rw [← hp]
          simp
    · have hc1 : ¬ k < l.length := by simpa using hc1
      have hke : k = l.length := by omega
      subst hke
      refine Runs.exit rfl ?_
      refine Runs.seqE Ty_ok (by decide) fun k' hk' => ?_
      simp [h0]   -- R7
      refine hk' _ _ _ ?_
      refine Runs.ret Tryd.func72 (RetOk.one Tryd.results72) (hQ _ _ _ _ (.v _ _ _) ?_)
      rw [goodNames_eq, all_range_end hall]
      simp
      omega
end Go.Ab

/- Contracts of spec.l2Names, impl.innerNames and spec.l2Inner. -/
namespace Go.Ab
open Go.Proofs
set_option linter.unusedSimpArgs false
theorem e73 : Ent Tryd.prog 73 := Ent.of Tryd.func73 (by kernel_rfl) rfl
theorem e130 : Ent Tryd.prog 130 := Ent.of Tryd.func130 (by kernel_rfl) rfl

theorem l2Names_ok (l : List Str) (hl : l.length ≤ 1048576) (hs : ∀ s ∈ l, s.length ≤ 1048576) : PureC Tryd.prog 129 [encS false l] (fun r => r = bool (goodNames l)) := by
  refine PureC.of Tryd.func129 rfl Tryd.ntmps129 (by simp) fun Q hQ => ?_
  refine Runs.seqE Ty_ok (by decide) fun k' hk' => ?_
  simp [encS]   -- R0
  refine hk' _ _ _ ?_
  refine Runs.seq ?_
  refine Runs.seqE Ty_ok (by decide) fun k' hk' => ?_
  simp   -- R1
  refine hk' _ _ _ ?_
  refine Runs.block (Runs.loopUp l.length (fun k ρ H n => ρ 0 = .list false (l.map strC) ∧ ρ 3 = int k ∧ ∀ i, i < k → okName l i = true) ?_ ?_)
  · simp
  · rintro k ρ H n hk ⟨h0, h3, hall⟩ IH
    refine Runs.seq ?_
    refine Runs.seqE Ty_ok (by decide) fun k' hk' => ?_
    simp [h0, h3]   -- R2
    refine hk' _ _ _ ?_
    refine Runs.ite rfl (fun hc1 => ?_) (fun hc1 => ?_)   -- t7
    · have hc1 : k < l.length := by simpa using hc1
      refine Runs.skip ?_
      refine Runs.seq ?_
      refine Runs.block ?_
      refine Runs.seqD Ty_ok kindOp_ok draws (by decide) (by kernel_rfl) fun k' hk' => ?_
      have fin : ∀ ρ : Env, ρ 0 = .list false (l.map strC) → ρ 3 = int k → ρ 31 = bool (!okName l k) → Runs Tryd.prog 129 35 k' ρ H n Q := by
        intro ρ h0 h3 h31
        refine hk' _ _ _ ?_
        refine Runs.ite h31 (fun hc2 => ?_) (fun hc2 => ?_)
        · have hb : okName l k = false := by simpa using hc2
          refine Runs.seqE Ty_ok (by decide) fun k' hk' => ?_
          simp   -- R5
          refine hk' _ _ _ ?_
          exact Runs.ret Tryd.func129 (RetOk.one Tryd.results129) (hQ _ _ _ _ (.v _ _ _) (by rw [goodNames_eq, all_range_bad hc1 hb, Bool.and_false]))
        · have hb : okName l k = true := by simpa using hc2
          refine Runs.skip ?_
          refine Runs.inBlock ?_
          refine Runs.evalE Ty_ok (by decide) fun k' hk' => ?_
          simp [h3, wrap_succ (show k < 4611686018427387904 by omega)]   -- R3
          refine hk' _ _ _ ?_
          refine IH hc1 _ _ _ ⟨by simp [h0], by simp, fun i hi => ?_⟩
          rcases Nat.lt_or_ge i k with h | h
          · exact hall i h
          · rw [show i = k by omega]; exact hb
      have hgk : l.getD k [] = l[k] := by simp [hc1]
      simp [h0, h3, hc1, strC]   -- R4
      refine RunDK.callA Ty_ok kindOp_ok (l2Name_ok l[k] (hs _ (List.getElem_mem hc1))) e105 (.cons (.v _ _ _) .nil) (by decide) rfl (by simp) ?_
      cases hnm : isNm l[k]
      · simp [guardOf]
        exact fin _ (by simp [h0, strC]) (by simp [h3]) (by simp [okName, hc1, hnm])
      · by_cases hk0 : k = 0
        · subst hk0
          simp [h3, guardOf]
          exact fin _ (by simp [h0, strC]) (by simp [h3]) (by simp [okName, hc1, hnm, ascends])
        · have hk1 : 0 < k := by omega
          have hw : IntKind.i64.wrap ((k : Int) - 1) = ((k - 1 : Nat) : Int) := by rw [wrap64] <;> omega
          have hkl : k - 1 < l.length := by omega
          have hgk1 : l.getD (k - 1) [] = l[k - 1] := by simp [hkl]
          simp [guardOf, hk1, h0, h3, hw, hkl, hc1, strC]
          refine fin _ (by simp [h0, strC]) (by simp [h3]) ?_
          simp only [okName, hgk, hnm, ascends, hgk1, hk0, decide_false, Bool.false_or, Bool.true_and]
          simp
    · have hc1 : ¬ k < l.length := by simpa using hc1
      have hke : k = l.length := by omega
      subst hke
      refine Runs.exit rfl ?_
      refine Runs.seqE Ty_ok (by decide) fun k' hk' => ?_
      simp [h0]   -- R6
      refine hk' _ _ _ ?_
      refine Runs.ret Tryd.func129 (RetOk.one Tryd.results129) (hQ _ _ _ _ (.v _ _ _) ?_)
      rw [goodNames_eq, all_range_end hall]
      simp
      omega

def names (b : Big) : List Str := b.inner.map (·.name)

theorem innerNames_ok (b : Big) (hl : b.inner.length ≤ 1048576) : PureC Tryd.prog 73 [encB false b] (fun r => r = encS true (names b)) := by
  refine PureC.of Tryd.func73 rfl Tryd.ntmps73 (by simp) fun Q hQ => ?_
  refine Runs.seqE Ty_ok (by decide) fun k' hk' => ?_
  simp [encB, Big.cells]   -- R0
  refine hk' _ _ _ ?_
  refine Runs.seqE Ty_ok (by decide) fun k' hk' => ?_
  simp   -- R1
  refine hk' _ _ _ ?_
  refine Runs.seq ?_
  refine Runs.seqE Ty_ok (by decide) fun k' hk' => ?_
  simp [encW]   -- R2
  refine hk' _ _ _ ?_
  refine Runs.block (Runs.loopUp b.inner.length (fun k ρ H n => ρ 8 = .list false (b.inner.map Wire.cells) ∧ ρ 9 = int b.inner.length ∧ ρ 10 = int k ∧ ρ 3 = .arr (1, 6) k 0 k ∧ H (1, 6) = some ⟨1, ((names b).take k).map strC⟩) ?_ ?_)
  · simp
  · rintro k ρ H n hk ⟨h8, h9, h10, h3, hH⟩ IH
    refine Runs.seqE Ty_ok (by decide) fun k' hk' => ?_
    simp [h9, h10]   -- R3
    refine hk' _ _ _ ?_
    refine Runs.seq ?_
    refine Runs.ite rfl (fun hc1 => ?_) (fun hc1 => ?_)   -- t11
    · have hc1 : k < b.inner.length := by simpa using hc1
      have htk : (((names b).take k).map strC).length = k := by simp [names]; omega
      have hts : (names b).take (k + 1) = (names b).take k ++ [b.inner[k].name] := by
        rw [List.take_succ_eq_append_getElem (by simpa [names] using hc1)]
        simp [names]
      refine Runs.skip ?_
      refine Runs.seq ?_
      refine Runs.block ?_
      refine Runs.seqE Ty_ok (by decide) fun k' hk' => ?_
      simp [h8, h10, hc1, Wire.cells]   -- R4
      refine hk' _ _ _ ?_
      refine Runs.evalE Ty_ok (by decide) fun k' hk' => ?_
      generalize hels : ((names b).take k).map strC = els at hH htk
      simp [h3, hH, htk, live, show k ≤ 1073741823 by omega]   -- R5
      refine hk' _ _ _ ?_
      refine Runs.inBlock ?_
      refine Runs.evalE Ty_ok (by decide) fun k' hk' => ?_
      simp [h10, wrap_succ (show k < 4611686018427387904 by omega)]   -- R6
      refine hk' _ _ _ ?_
      refine IH hc1 _ _ _ ⟨by simp [h8], by simp [h9], by simp, by simp, ?_⟩
      simp [hts, ← hels, strC]
    · have hc1 : ¬ k < b.inner.length := by simpa using hc1
      have hke : k = b.inner.length := by omega
      subst hke
      refine Runs.exit rfl ?_
      refine Runs.seqE Ty_ok (by decide) fun k' hk' => ?_
      simp [h3]   -- R7
      refine hk' _ _ _ ?_
      have he : (names b).take b.inner.length = names b := List.take_of_length_le (by simp [names])
      rw [he] at hH
      exact Runs.ret Tryd.func73 (RetOk.one Tryd.results73) (hQ _ _ _ _ (.of (Ret.arrF (by simp [live, hH, names]; rfl) (by simp [strC]))) rfl)

theorem l2Inner_ok (b : Big) (hl : b.inner.length ≤ 1048576) : PureC Tryd.prog 130 [encB false b] (fun r => r = encS true (names b)) := by
  refine PureC.of Tryd.func130 rfl Tryd.ntmps130 (by simp) fun Q hQ => ?_
  refine Runs.seqE Ty_ok (by decide) fun k' hk' => ?_
  simp [encB, Big.cells]   -- R0
  refine hk' _ _ _ ?_
  refine Runs.seqE Ty_ok (by decide) fun k' hk' => ?_
  simp   -- R1
  refine hk' _ _ _ ?_
  refine Runs.seq ?_
  refine Runs.seqE Ty_ok (by decide) fun k' hk' => ?_
  simp [encW]   -- R2
  refine hk' _ _ _ ?_
  refine Runs.block (Runs.loopUp b.inner.length (fun k ρ H n => ρ 1 = .ptr (0, 1) 1 0 0 ∧ H (0, 1) = some ⟨6, [b.cells false]⟩ ∧ ρ 4 = int k ∧ ρ 3 = .arr (1, 5) k 0 k ∧ H (1, 5) = some ⟨1, ((names b).take k).map strC⟩) ?_ ?_)
  · simp [Big.cells, encW]
  · rintro k ρ H n hk ⟨h1, hb, h4, h3, hH⟩ IH
    refine Runs.seq ?_
    refine Runs.seqE Ty_ok (by decide) fun k' hk' => ?_
    simp [h1, hb, h4, Big.cells, encW]   -- R3
    refine hk' _ _ _ ?_
    refine Runs.ite rfl (fun hc1 => ?_) (fun hc1 => ?_)   -- t10
    · have hc1 : k < b.inner.length := by simpa using hc1
      have htk : (((names b).take k).map strC).length = k := by simp [names]; omega
      have hts : (names b).take (k + 1) = (names b).take k ++ [b.inner[k].name] := by
        rw [List.take_succ_eq_append_getElem (by simpa [names] using hc1)]
        simp [names]
      refine Runs.skip ?_
      refine Runs.seq ?_
      refine Runs.block ?_
      refine Runs.evalE Ty_ok (by decide) fun k' hk' => ?_
      generalize hels : ((names b).take k).map strC = els at hH htk
      simp [h1, hb, h3, h4, hH, htk, hc1, live, Big.cells, encW, Wire.cells, show k ≤ 1073741823 by omega]   -- R5
      refine hk' _ _ _ ?_
      refine Runs.inBlock ?_
      refine Runs.evalE Ty_ok (by decide) fun k' hk' => ?_
      simp [h4, wrap_succ (show k < 4611686018427387904 by omega)]   -- R4
      refine hk' _ _ _ ?_
      refine IH hc1 _ _ _ ⟨by simp [h1], by simp [hb, Big.cells, encW], by simp, by simp, ?_⟩
      simp [hts, ← hels, strC]
    · have hc1 : ¬ k < b.inner.length := by simpa using hc1
      have hke : k = b.inner.length := by omega
      subst hke
      refine Runs.exit rfl ?_
      refine Runs.seqE Ty_ok (by decide) fun k' hk' => ?_
      simp [h3]   -- R6
      refine hk' _ _ _ ?_
      have he : (names b).take b.inner.length = names b := List.take_of_length_le (by simp [names])
      rw [he] at hH
      exact Runs.ret Tryd.func130 (RetOk.one Tryd.results130) (hQ _ _ _ _ (.of (Ret.arrF (by simp [live, hH, names]; rfl) (by simp [strC]))) rfl)
end Go.Ab

/- Contracts of slices.IndexFunc and slices.ContainsFunc at three types. By program. -/
namespace Go.Ab
open Go.Proofs
set_option linter.unusedSimpArgs false

def idxF {α : Type} (l : List α) (p : α → Bool) : Int := if l.findIdx p < l.length then (l.findIdx p : Int) else -1
theorem idxF_at {α : Type} {l : List α} {p : α → Bool} {k : Nat} (hk : k < l.length) (h : p l[k] = true) (hno : ∀ i (h : i < l.length), i < k → p l[i] = false) : idxF l p = k := by
  have : l.findIdx p = k := (List.findIdx_eq hk).2 ⟨h, fun j hj => hno j (by omega) hj⟩
  rw [idxF, this, if_pos hk]
theorem idxF_no {α : Type} {l : List α} {p : α → Bool} (hno : ∀ i (h : i < l.length), p l[i] = false) : idxF l p = -1 := by
  have : l.findIdx p = l.length := List.findIdx_eq_length.2 fun x hx => by
    obtain ⟨i, hi, rfl⟩ := List.getElem_of_mem hx
    exact hno i hi
  rw [idxF, this, if_neg (Nat.lt_irrefl _)]
theorem idxF_any {α : Type} (l : List α) (p : α → Bool) : decide (0 ≤ idxF l p) = l.any p := by
  unfold idxF
  cases h : l.any p
  · have : l.findIdx p = l.length := List.findIdx_eq_length.2 fun x hx => by
      rw [List.any_eq_false] at h
      simpa using h x hx
    rw [if_neg (by omega)]
    simp
  · have : l.findIdx p < l.length := by
      rw [List.findIdx_lt_length]
      simpa [List.any_eq_true] using h
    rw [if_pos this]
    simp

theorem e136 : Ent Tryd.prog 136 := Ent.of Tryd.func136 (by kernel_rfl) rfl
theorem e75 : Ent Tryd.prog 75 := Ent.of Tryd.func75 (by kernel_rfl) rfl

theorem indexFuncI_ok {H : Heap} {n : Nat} {cl : AVal} (t : Bool) (l : List (Int)) (p : Int → Bool) (hl : l.length ≤ 1048576) (hcl : ∀ x ∈ l, ClosC Tryd.prog H n cl [int x] (fun r => r = bool (p x))) :
    StillC Tryd.prog 136 [.list t (l.map intC), cl] H n (fun r => r = int (idxF l p)) := by
  refine StillC.of Tryd.func136 rfl Tryd.ntmps136 (by simp) fun Q _ hQ => ?_
  refine Runs.seqE Ty_ok (by decide) fun k' hk' => ?_
  simp   -- R0
  refine hk' _ _ _ ?_
  refine Runs.seq ?_
  refine Runs.seqE Ty_ok (by decide) fun k' hk' => ?_
  simp   -- R1
  refine hk' _ _ _ ?_
  refine Runs.block (Runs.loopUp l.length (fun k ρ H' n' => ρ 0 = .list t (l.map intC) ∧ ρ 1 = cl ∧ ρ 7 = int l.length ∧ ρ 8 = int k ∧ H' = H ∧ n' = n ∧ ∀ i (h : i < l.length), i < k → p l[i] = false) ?_ ?_)
  · simp
  · rintro k ρ H' n' hk ⟨h0, h1, h7, h8, rfl, rfl, hno⟩ IH
    refine Runs.seqE Ty_ok (by decide) fun k' hk' => ?_
    simp [h7, h8]   -- R2
    refine hk' _ _ _ ?_
    refine Runs.seq ?_
    refine Runs.ite rfl (fun hc1 => ?_) (fun hc1 => ?_)   -- t9
    · have hc1 : k < l.length := by simpa using hc1
      refine Runs.skip ?_
      refine Runs.seq ?_
      refine Runs.block ?_
      refine Runs.seqE Ty_ok (by decide) fun k' hk' => ?_
      simp [h8]   -- R3
      refine hk' _ _ _ ?_
      refine Runs.seqE Ty_ok (by decide) fun k' hk' => ?_
      simp [h0, h1, hc1, intC]   -- R4
      refine RunK.callF Ty_ok (hcl l[k] (List.getElem_mem hc1)) (by decide) (by decide) (by simp [h1]) (by simp) ?_
      rintro _ rfl
      simp
      refine hk' _ _ _ ?_
      refine Runs.ite rfl (fun hc2 => ?_) (fun hc2 => ?_)   -- t16
      · have hc2 : p l[k] = true := by simpa using hc2
        refine Runs.seqE Ty_ok (by decide) fun k' hk' => ?_
        simp   -- R5
        refine hk' _ _ _ ?_
        refine Runs.ret Tryd.func136 (RetOk.one Tryd.results136) (hQ _ _ _ _ (.bnd (.v _)) (Frame.refl _ _) ?_)
        simp [idxF_at hc1 hc2 hno]
      · have hc2 : p l[k] = false := by simpa using hc2
        refine Runs.skip ?_
        refine Runs.inBlock ?_
        refine Runs.evalE Ty_ok (by decide) fun k' hk' => ?_
        simp [h8, wrap_succ (show k < 4611686018427387904 by omega)]   -- R6
        refine hk' _ _ _ ?_
        refine IH hc1 _ _ _ ⟨by simp [h0, intC], by simp [h1], by simp [h7], by simp, rfl, rfl, fun i h hi => ?_⟩
        rcases Nat.lt_or_ge i k with hik | hik
        · exact hno i h hik
        · have : i = k := by omega
          subst this
          exact hc2
    · have hc1 : ¬ k < l.length := by simpa using hc1
      have hke : k = l.length := by omega
      subst hke
      refine Runs.exit rfl ?_
      refine Runs.seqE Ty_ok (by decide) fun k' hk' => ?_
      simp   -- R7
      refine hk' _ _ _ ?_
      refine Runs.ret Tryd.func136 (RetOk.one Tryd.results136) (hQ _ _ _ _ (.bnd (.v _)) (Frame.refl _ _) ?_)
      simp [idxF_no fun i h => hno i h h]

theorem containsFuncI_ok {H : Heap} {n : Nat} {cl : AVal} (t : Bool) (l : List (Int)) (p : Int → Bool) (hl : l.length ≤ 1048576) (hcl : ∀ x ∈ l, ClosC Tryd.prog H n cl [int x] (fun r => r = bool (p x))) :
    StillC Tryd.prog 75 [.list t (l.map intC), cl] H n (fun r => r = bool (l.any p)) := by
  refine StillC.of Tryd.func75 rfl Tryd.ntmps75 (by simp) fun Q _ hQ => ?_
  refine Runs.seqE Ty_ok (by decide) fun k' hk' => ?_
  simp   -- R0
  refine hk' _ _ _ ?_
  refine Runs.seqE Ty_ok (by decide) fun k' hk' => ?_
  simp   -- R1
  refine RunK.callT Ty_ok (indexFuncI_ok t l p hl hcl) e136 (by decide) (by decide) rfl (by simp) ?_
  rintro _ rfl
  simp
  refine hk' _ _ _ ?_
  refine Runs.ret Tryd.func75 (RetOk.one Tryd.results75) (hQ _ _ _ _ (.bnd (.v _)) (Frame.refl _ _) ?_)
  simp [idxF_any]

theorem e137 : Ent Tryd.prog 137 := Ent.of Tryd.func137 (by kernel_rfl) rfl
theorem e79 : Ent Tryd.prog 79 := Ent.of Tryd.func79 (by kernel_rfl) rfl

theorem indexFuncW_ok {H : Heap} {n : Nat} {cl : AVal} (t : Bool) (l : List (Wire)) (p : Wire → Bool) (hl : l.length ≤ 1048576) (hcl : ∀ x ∈ l, ClosC Tryd.prog H n cl [.agg x.cells] (fun r => r = bool (p x))) :
    StillC Tryd.prog 137 [.list t (l.map Wire.cells), cl] H n (fun r => r = int (idxF l p)) := by
  refine StillC.of Tryd.func137 rfl Tryd.ntmps137 (by simp) fun Q _ hQ => ?_
  refine Runs.seqE Ty_ok (by decide) fun k' hk' => ?_
  simp   -- R0
  refine hk' _ _ _ ?_
  refine Runs.seq ?_
  refine Runs.seqE Ty_ok (by decide) fun k' hk' => ?_
  simp   -- R1
  refine hk' _ _ _ ?_
  refine Runs.block (Runs.loopUp l.length (fun k ρ H' n' => ρ 0 = .list t (l.map Wire.cells) ∧ ρ 1 = cl ∧ ρ 7 = int l.length ∧ ρ 8 = int k ∧ H' = H ∧ n' = n ∧ ∀ i (h : i < l.length), i < k → p l[i] = false) ?_ ?_)
  · simp
  · rintro k ρ H' n' hk ⟨h0, h1, h7, h8, rfl, rfl, hno⟩ IH
    refine Runs.seqE Ty_ok (by decide) fun k' hk' => ?_
    simp [h7, h8]   -- R2
    refine hk' _ _ _ ?_
    refine Runs.seq ?_
    refine Runs.ite rfl (fun hc1 => ?_) (fun hc1 => ?_)   -- t9
    · have hc1 : k < l.length := by simpa using hc1
      refine Runs.skip ?_
      refine Runs.seq ?_
      refine Runs.block ?_
      refine Runs.seqE Ty_ok (by decide) fun k' hk' => ?_
      simp [h8]   -- R3
      refine hk' _ _ _ ?_
      refine Runs.seqE Ty_ok (by decide) fun k' hk' => ?_
      simp [h0, h1, hc1, Wire.cells]   -- R4
      refine RunK.callF Ty_ok (hcl l[k] (List.getElem_mem hc1)) (by decide) (by decide) (by simp [h1]) (by simp [Wire.cells]) ?_
      rintro _ rfl
      simp
      refine hk' _ _ _ ?_
      refine Runs.ite rfl (fun hc2 => ?_) (fun hc2 => ?_)   -- t16
      · have hc2 : p l[k] = true := by simpa using hc2
        refine Runs.seqE Ty_ok (by decide) fun k' hk' => ?_
        simp   -- R5
        refine hk' _ _ _ ?_
        refine Runs.ret Tryd.func137 (RetOk.one Tryd.results137) (hQ _ _ _ _ (.bnd (.v _)) (Frame.refl _ _) ?_)
        simp [idxF_at hc1 hc2 hno]
      · have hc2 : p l[k] = false := by simpa using hc2
        refine Runs.skip ?_
        refine Runs.inBlock ?_
        refine Runs.evalE Ty_ok (by decide) fun k' hk' => ?_
        simp [h8, wrap_succ (show k < 4611686018427387904 by omega)]   -- R6
        refine hk' _ _ _ ?_
        refine IH hc1 _ _ _ ⟨by simp [h0, Wire.cells], by simp [h1], by simp [h7], by simp, rfl, rfl, fun i h hi => ?_⟩
        rcases Nat.lt_or_ge i k with hik | hik
        · exact hno i h hik
        · have : i = k := by omega
          subst this
          exact hc2
    · have hc1 : ¬ k < l.length := by simpa using hc1
      have hke : k = l.length := by omega
      subst hke
      refine Runs.exit rfl ?_
      refine Runs.seqE Ty_ok (by decide) fun k' hk' => ?_
      simp   -- R7
      refine hk' _ _ _ ?_
      refine Runs.ret Tryd.func137 (RetOk.one Tryd.results137) (hQ _ _ _ _ (.bnd (.v _)) (Frame.refl _ _) ?_)
      simp [idxF_no fun i h => hno i h h]

theorem containsFuncW_ok {H : Heap} {n : Nat} {cl : AVal} (t : Bool) (l : List (Wire)) (p : Wire → Bool) (hl : l.length ≤ 1048576) (hcl : ∀ x ∈ l, ClosC Tryd.prog H n cl [.agg x.cells] (fun r => r = bool (p x))) :
    StillC Tryd.prog 79 [.list t (l.map Wire.cells), cl] H n (fun r => r = bool (l.any p)) := by
  refine StillC.of Tryd.func79 rfl Tryd.ntmps79 (by simp) fun Q _ hQ => ?_
  refine Runs.seqE Ty_ok (by decide) fun k' hk' => ?_
  simp   -- R0
  refine hk' _ _ _ ?_
  refine Runs.seqE Ty_ok (by decide) fun k' hk' => ?_
  simp   -- R1
  refine RunK.callT Ty_ok (indexFuncW_ok t l p hl hcl) e137 (by decide) (by decide) rfl (by simp) ?_
  rintro _ rfl
  simp
  refine hk' _ _ _ ?_
  refine Runs.ret Tryd.func79 (RetOk.one Tryd.results79) (hQ _ _ _ _ (.bnd (.v _)) (Frame.refl _ _) ?_)
  simp [idxF_any]

theorem e154 : Ent Tryd.prog 154 := Ent.of Tryd.func154 (by kernel_rfl) rfl
theorem e134 : Ent Tryd.prog 134 := Ent.of Tryd.func134 (by kernel_rfl) rfl

theorem indexFuncC_ok {H : Heap} {n : Nat} {cl : AVal} (t : Bool) (l : List (Control)) (p : Control → Bool) (hl : l.length ≤ 1048576) (hcl : ∀ x ∈ l, ClosC Tryd.prog H n cl [.agg x.cells] (fun r => r = bool (p x))) :
    StillC Tryd.prog 154 [.list t (l.map Control.cells), cl] H n (fun r => r = int (idxF l p)) := by
  refine StillC.of Tryd.func154 rfl Tryd.ntmps154 (by simp) fun Q _ hQ => ?_
  refine Runs.seqE Ty_ok (by decide) fun k' hk' => ?_
  simp   -- R0
  refine hk' _ _ _ ?_
  refine Runs.seq ?_
  refine Runs.seqE Ty_ok (by decide) fun k' hk' => ?_
  simp   -- R1
  refine hk' _ _ _ ?_
  refine Runs.block (Runs.loopUp l.length (fun k ρ H' n' => ρ 0 = .list t (l.map Control.cells) ∧ ρ 1 = cl ∧ ρ 7 = int l.length ∧ ρ 8 = int k ∧ H' = H ∧ n' = n ∧ ∀ i (h : i < l.length), i < k → p l[i] = false) ?_ ?_)
  · simp
  · rintro k ρ H' n' hk ⟨h0, h1, h7, h8, rfl, rfl, hno⟩ IH
    refine Runs.seqE Ty_ok (by decide) fun k' hk' => ?_
    simp [h7, h8]   -- R2
    refine hk' _ _ _ ?_
    refine Runs.seq ?_
    refine Runs.ite rfl (fun hc1 => ?_) (fun hc1 => ?_)   -- t9
    · have hc1 : k < l.length := by simpa using hc1
      refine Runs.skip ?_
      refine Runs.seq ?_
      refine Runs.block ?_
      refine Runs.seqE Ty_ok (by decide) fun k' hk' => ?_
      simp [h8]   -- R3
      refine hk' _ _ _ ?_
      refine Runs.seqE Ty_ok (by decide) fun k' hk' => ?_
      simp [h0, h1, hc1, Control.cells]   -- R4
      refine RunK.callF Ty_ok (hcl l[k] (List.getElem_mem hc1)) (by decide) (by decide) (by simp [h1]) (by simp [Control.cells]) ?_
      rintro _ rfl
      simp
      refine hk' _ _ _ ?_
      refine Runs.ite rfl (fun hc2 => ?_) (fun hc2 => ?_)   -- t16
      · have hc2 : p l[k] = true := by simpa using hc2
        refine Runs.seqE Ty_ok (by decide) fun k' hk' => ?_
        simp   -- R5
        refine hk' _ _ _ ?_
        refine Runs.ret Tryd.func154 (RetOk.one Tryd.results154) (hQ _ _ _ _ (.bnd (.v _)) (Frame.refl _ _) ?_)
        simp [idxF_at hc1 hc2 hno]
      · have hc2 : p l[k] = false := by simpa using hc2
        refine Runs.skip ?_
        refine Runs.inBlock ?_
        refine Runs.evalE Ty_ok (by decide) fun k' hk' => ?_
        simp [h8, wrap_succ (show k < 4611686018427387904 by omega)]   -- R6
        refine hk' _ _ _ ?_
        refine IH hc1 _ _ _ ⟨by simp [h0, Control.cells], by simp [h1], by simp [h7], by simp, rfl, rfl, fun i h hi => ?_⟩
        rcases Nat.lt_or_ge i k with hik | hik
        · exact hno i h hik
        · have : i = k := by omega
          subst this
          exact hc2
    · have hc1 : ¬ k < l.length := by simpa using hc1
      have hke : k = l.length := by omega
      subst hke
      refine Runs.exit rfl ?_
      refine Runs.seqE Ty_ok (by decide) fun k' hk' => ?_
      simp   -- R7
      refine hk' _ _ _ ?_
      refine Runs.ret Tryd.func154 (RetOk.one Tryd.results154) (hQ _ _ _ _ (.bnd (.v _)) (Frame.refl _ _) ?_)
      simp [idxF_no fun i h => hno i h h]

theorem containsFuncC_ok {H : Heap} {n : Nat} {cl : AVal} (t : Bool) (l : List (Control)) (p : Control → Bool) (hl : l.length ≤ 1048576) (hcl : ∀ x ∈ l, ClosC Tryd.prog H n cl [.agg x.cells] (fun r => r = bool (p x))) :
    StillC Tryd.prog 134 [.list t (l.map Control.cells), cl] H n (fun r => r = bool (l.any p)) := by
  refine StillC.of Tryd.func134 rfl Tryd.ntmps134 (by simp) fun Q _ hQ => ?_
  refine Runs.seqE Ty_ok (by decide) fun k' hk' => ?_
  simp   -- R0
  refine hk' _ _ _ ?_
  refine Runs.seqE Ty_ok (by decide) fun k' hk' => ?_
  simp   -- R1
  refine RunK.callT Ty_ok (indexFuncC_ok t l p hl hcl) e154 (by decide) (by decide) rfl (by simp) ?_
  rintro _ rfl
  simp
  refine hk' _ _ _ ?_
  refine Runs.ret Tryd.func134 (RetOk.one Tryd.results134) (hQ _ _ _ _ (.bnd (.v _)) (Frame.refl _ _) ?_)
  simp [idxF_any]

end Go.Ab

/- Contracts of impl.IsSignature and spec.l2Sig. -/
namespace Go.Ab
open Go.Proofs
set_option linter.unusedSimpArgs false
theorem e70 : Ent Tryd.prog 70 := Ent.of Tryd.func70 (by kernel_rfl) rfl
theorem e128 : Ent Tryd.prog 128 := Ent.of Tryd.func128 (by kernel_rfl) rfl
theorem e135 : Ent Tryd.prog 135 := Ent.of Tryd.func135 (by kernel_rfl) rfl

theorem clos135 {H : Heap} {n : Nat} {X : Id} (c : Control) (hX : H X = some ⟨3, [c.cells]⟩) (d : Control) : ClosC Tryd.prog H n (.fn (.func 135) [] [.ptr X 1 0 0]) [.agg d.cells] (fun r => r = bool (d.name == c.name)) := by
  refine ⟨135, [], [.ptr X 1 0 0], rfl, e135, ?_⟩
  refine StillC.of Tryd.func135 rfl Tryd.ntmps135 (by simp) fun Q hB hQ => ?_
  have hXn := (hB X _ hX).1
  have hX2 : ¬ X = (n, 2) := by rintro rfl; simp at hXn
  refine Runs.seqE Ty_ok (by decide) fun k' hk' => ?_
  simp [Control.cells]   -- R0
  refine hk' _ _ _ ?_
  refine Runs.seqE Ty_ok (by decide) fun k' hk' => ?_
  simp [hX2, hX, Control.cells]   -- R1
  refine hk' _ _ _ ?_
  exact Runs.ret Tryd.func135 (RetOk.one Tryd.results135) (hQ _ _ _ _ (.bnd (.v _)) (Frame.set (by simp) (Frame.refl _ _)) (by simp))

def okCtl (sig : Sig) (i : Nat) : Bool := okControl (sig.getD i default) && newName sig i
theorem goodSig_eq (sig : Sig) : goodSig sig = (within sig.length 1 6 && (List.range sig.length).all (okCtl sig)) := rfl

theorem IsSignature_ok (sig : Sig) (hl : sig.length ≤ 1048576) (hs : ∀ c ∈ sig, c.name.length ≤ 1048576) : PureC Tryd.prog 70 [encSig false sig] (fun r => r = bool (goodSig sig)) := by
  refine PureC.of Tryd.func70 rfl Tryd.ntmps70 (by simp) fun Q hQ => ?_
  refine Runs.seqE Ty_ok (by decide) fun k' hk' => ?_
  simp [encSig]   -- R0
  refine hk' _ _ _ ?_
  refine Runs.seq ?_
  refine Runs.seqE Ty_ok (by decide) fun k' hk' => ?_
  simp   -- R1
  refine RunK.callA Ty_ok (within_ok sig.length 1 6) e71 (.cons (.v _ _ _) (.cons (.v _ _ _) (.cons (.v _ _ _) .nil))) (by decide) (by decide) rfl (by simp) ?_
  rintro _ rfl
  simp
  refine hk' _ _ _ ?_
  refine Runs.ite rfl (fun hc1 => ?_) (fun hc1 => ?_)   -- t8
  · have hw : within sig.length 1 6 = false := by simpa using hc1
    refine Runs.seqE Ty_ok (by decide) fun k' hk' => ?_
    simp   -- R2
    refine hk' _ _ _ ?_
    exact Runs.ret Tryd.func70 (RetOk.one Tryd.results70) (hQ _ _ _ _ (.v _ _ _) (by rw [goodSig_eq, hw, Bool.false_and]))
  · have hw : within sig.length 1 6 = true := by simpa using hc1
    refine Runs.skip ?_
    refine Runs.seq ?_
    refine Runs.seqE Ty_ok (by decide) fun k' hk' => ?_
    simp   -- R3
    refine hk' _ _ _ ?_
    refine Runs.block (Runs.loopUp sig.length (fun k ρ H n => ρ 0 = .list false (sig.map Control.cells) ∧ ρ 9 = .list false (sig.map Control.cells) ∧ ρ 10 = int sig.length ∧ ρ 11 = int k ∧ ∀ i, i < k → okCtl sig i = true) ?_ ?_)
    · simp
    · rintro k ρ H n hk ⟨h0, h9, h10, h11, hall⟩ IH
      refine Runs.seqE Ty_ok (by decide) fun k' hk' => ?_
      simp [h10, h11]   -- R4
      refine hk' _ _ _ ?_
      refine Runs.seq ?_
      refine Runs.ite rfl (fun hc1 => ?_) (fun hc1 => ?_)   -- t12
      · have hc1 : k < sig.length := by simpa using hc1
        have hgk : sig.getD k default = sig[k] := by simp [hc1]
        refine Runs.skip ?_
        refine Runs.seq ?_
        refine Runs.block ?_
        refine Runs.seqE Ty_ok (by decide) fun k' hk' => ?_
        simp [h9, h11, hc1, Control.cells]   -- R5
        refine hk' _ _ _ ?_
        refine Runs.cut (fun ρ H n => ρ 0 = .list false (sig.map Control.cells) ∧ ρ 9 = .list false (sig.map Control.cells) ∧ ρ 10 = int sig.length ∧ ρ 11 = int k ∧ ρ 3 = int k ∧ ∃ m, ρ 4 = .ptr (m, 4) 1 0 0 ∧ H (m, 4) = some ⟨3, [sig[k].cells]⟩) ?_ ?_
        · exact ⟨by simp [h0], by simp [h9], by simp [h10], by simp [h11], by simp, n, by simp, by simp [Control.cells]⟩
        clear hk' h0 h9 h10 h11
        rintro ρ H n ⟨h0, h9, h10, h11, h3, m, h4, hm⟩
        refine Runs.seqE Ty_ok (by decide) fun k' hk' => ?_
        have fin : ∀ ρ : Env, ρ 0 = .list false (sig.map Control.cells) → ρ 9 = .list false (sig.map Control.cells) → ρ 10 = int sig.length → ρ 11 = int k → ρ 38 = bool (!okCtl sig k) → Runs Tryd.prog 70 40 k' ρ H n Q := by
          intro ρ h0 h9 h10 h11 h38
          refine hk' _ _ _ ?_
          refine Runs.ite h38 (fun hc2 => ?_) (fun hc2 => ?_)   -- t38
          · have hb : okCtl sig k = false := by simpa using hc2
            refine Runs.seqE Ty_ok (by decide) fun k' hk' => ?_
            simp   -- R7
            refine hk' _ _ _ ?_
            exact Runs.ret Tryd.func70 (RetOk.one Tryd.results70) (hQ _ _ _ _ (.v _ _ _) (by rw [goodSig_eq, all_range_bad hc1 hb, Bool.and_false]))
          · have hb : okCtl sig k = true := by simpa using hc2
            refine Runs.skip ?_
            refine Runs.inBlock ?_
            refine Runs.evalE Ty_ok (by decide) fun k' hk' => ?_
            simp [h11, wrap_succ (show k < 4611686018427387904 by omega)]   -- R8
            refine hk' _ _ _ ?_
            refine IH hc1 _ _ _ ⟨by simp [h0], by simp [h9], by simp [h10], by simp, fun i hi => ?_⟩
            rcases Nat.lt_or_ge i k with h | h
            · exact hall i h
            · rw [show i = k by omega]; exact hb
        have hm' := hm
        simp only [Control.cells] at hm'
        simp [h4, hm']   -- R6
        refine RunK.callA Ty_ok (isName_ok sig[k].name (hs _ (List.getElem_mem hc1))) e109 (.cons (.v _ _ _) .nil) (by decide) (by decide) rfl (by simp) ?_
        rintro _ rfl
        cases hnm : isNm sig[k].name
        · simp [guardOf]
          exact fin _ (by simp [h0]) (by simp [h9]) (by simp [h10]) (by simp [h11]) (by simp only [okCtl, hgk, okControl, hnm]; simp)
        · simp [h4, hm', guardOf]
          refine RunK.callA Ty_ok (within_ok sig[k].ports 0 3) e71 (.cons (.v _ _ _) (.cons (.v _ _ _) (.cons (.v _ _ _) .nil))) (by decide) (by decide) rfl (by simp) ?_
          rintro _ rfl
          cases hpo : within sig[k].ports 0 3
          · simp [guardOf]
            exact fin _ (by simp [h0]) (by simp [h9]) (by simp [h10]) (by simp [h11]) (by simp only [okCtl, hgk, okControl, hnm, hpo]; simp)
          · simp [h4, hm', guardOf]
            refine RunK.callA Ty_ok (within_ok sig[k].kind 0 2) e71 (.cons (.v _ _ _) (.cons (.v _ _ _) (.cons (.v _ _ _) .nil))) (by decide) (by decide) rfl (by simp) ?_
            rintro _ rfl
            cases hki : within sig[k].kind 0 2
            · simp [guardOf]
              exact fin _ (by simp [h0]) (by simp [h9]) (by simp [h10]) (by simp [h11]) (by simp only [okCtl, hgk, okControl, hnm, hpo, hki]; simp)
            · have hkl : (k : Int) ≤ sig.length := by omega
              simp [h0, h3, h4, hkl, guardOf, Control.cells]
              refine RunK.callT Ty_ok (containsFuncC_ok false (sig.take k) (fun d => d.name == sig[k].name) (by simp; omega) (fun d _ => clos135 sig[k] hm d)) e134 (by decide) (by decide) rfl (by simp [Control.cells]) ?_
              rintro _ rfl
              simp [guardOf]
              refine fin _ (by simp [h0, Control.cells]) (by simp [h9, Control.cells]) (by simp [h10]) (by simp [h11]) ?_
              simp only [okCtl, hgk, okControl, hnm, hpo, hki, newName]
              simp
      · have hc1 : ¬ k < sig.length := by simpa using hc1
        have hke : k = sig.length := by omega
        subst hke
        refine Runs.exit rfl ?_
        refine Runs.seqE Ty_ok (by decide) fun k' hk' => ?_
        simp   -- R9
        refine hk' _ _ _ ?_
        exact Runs.ret Tryd.func70 (RetOk.one Tryd.results70) (hQ _ _ _ _ (.v _ _ _) (by rw [goodSig_eq, hw, all_range_end hall]; rfl))
end Go.Ab

/- Contract of spec.l2Sig. -/
namespace Go.Ab
open Go.Proofs
set_option linter.unusedSimpArgs false

theorem newName_at {sig : Sig} {i j : Nat} (hi : i < sig.length) (hj : j < i) (h : sig[j].name = sig[i].name) : newName sig i = false := by
  have hg : sig.getD i default = sig[i] := by simp [hi]
  have : (sig.take i).any (fun d => d.name == sig[i].name) = true := by
    rw [List.any_eq_true]
    refine ⟨sig[j], ?_, by simpa using h⟩
    rw [List.mem_take_iff_getElem]
    exact ⟨j, by omega, rfl⟩
  rw [newName, hg, this]
  rfl
theorem newName_end {sig : Sig} {i : Nat} (hi : i < sig.length) (h : ∀ j (hj : j < sig.length), j < i → ¬ sig[j].name = sig[i].name) : newName sig i = true := by
  have hg : sig.getD i default = sig[i] := by simp [hi]
  have : (sig.take i).any (fun d => d.name == sig[i].name) = false := by
    rw [List.any_eq_false]
    intro d hd
    rw [List.mem_take_iff_getElem] at hd
    obtain ⟨j, hj, rfl⟩ := hd
    have := h j (by omega) (by omega)
    simpa using this
  rw [newName, hg, this]
  rfl

theorem l2Sig_ok (sig : Sig) (hl : sig.length ≤ 1048576) (hs : ∀ c ∈ sig, c.name.length ≤ 1048576) : PureC Tryd.prog 128 [encSig false sig] (fun r => r = bool (goodSig sig)) := by
  refine PureC.of Tryd.func128 rfl Tryd.ntmps128 (by simp) fun Q hQ => ?_
  refine Runs.seqE Ty_ok (by decide) fun k' hk' => ?_
  simp [encSig]   -- R0
  refine hk' _ _ _ ?_
  refine Runs.seq ?_
  refine Runs.seqE Ty_ok (by decide) fun k' hk' => ?_
  simp   -- R1
  refine hk' _ _ _ ?_
  have bad : ∀ k, k < sig.length → okCtl sig k = false → ∀ H n, Q (bool false) H n := fun k hk hb H n => hQ _ _ _ _ (.v _ _ _) (by rw [goodSig_eq, all_range_bad hk hb, Bool.and_false])
  refine Runs.block (Runs.loopUp sig.length (fun k ρ H n => ρ 0 = .list false (sig.map Control.cells) ∧ ρ 3 = int k ∧ ∀ i, i < k → okCtl sig i = true) ?_ ?_)
  · simp
  · rintro k ρ H n hk ⟨h0, h3, hall⟩ IH
    refine Runs.seq ?_
    refine Runs.seqE Ty_ok (by decide) fun k' hk' => ?_
    simp [h0, h3]   -- R2
    refine hk' _ _ _ ?_
    refine Runs.ite rfl (fun hc1 => ?_) (fun hc1 => ?_)   -- t8
    · have hc1 : k < sig.length := by simpa using hc1
      have hgk : sig.getD k default = sig[k] := by simp [hc1]
      refine Runs.skip ?_
      refine Runs.seq ?_
      refine Runs.block ?_
      refine Runs.seq ?_
      refine Runs.seqE Ty_ok (by decide) fun k' hk' => ?_
      have fin : ∀ ρ : Env, ρ 0 = .list false (sig.map Control.cells) → ρ 3 = int k → ρ 35 = bool (!okControl sig[k]) → Runs Tryd.prog 128 55 k' ρ H n Q := by
        intro ρ h0 h3 h35
        refine hk' _ _ _ ?_
        refine Runs.ite h35 (fun hc2 => ?_) (fun hc2 => ?_)   -- t35
        · have hb : okControl sig[k] = false := by simpa using hc2
          refine Runs.seqE Ty_ok (by decide) fun k' hk' => ?_
          simp   -- R5
          refine hk' _ _ _ ?_
          exact Runs.ret Tryd.func128 (RetOk.one Tryd.results128) (bad k hc1 (by rw [okCtl, hgk, hb, Bool.false_and]) _ _)
        · have hb : okControl sig[k] = true := by simpa using hc2
          refine Runs.skip ?_
          refine Runs.seqE Ty_ok (by decide) fun k' hk' => ?_
          simp   -- R6
          refine hk' _ _ _ ?_
          refine Runs.block (Runs.loopUp k (fun j ρ H n => ρ 0 = .list false (sig.map Control.cells) ∧ ρ 3 = int k ∧ ρ 4 = int j ∧ ∀ q (hq : q < sig.length), q < j → ¬ sig[q].name = sig[k].name) ?_ ?_)
          · simp [h0, h3]
          · rintro j ρ H n hj ⟨h0, h3, h4, hno⟩ IH2
            refine Runs.seq ?_
            refine Runs.seqE Ty_ok (by decide) fun k' hk' => ?_
            simp [h3, h4]   -- R7
            refine hk' _ _ _ ?_
            refine Runs.ite rfl (fun hc3 => ?_) (fun hc3 => ?_)   -- t38
            · have hc3 : j < k := by simpa using hc3
              have hjl : j < sig.length := by omega
              refine Runs.skip ?_
              refine Runs.seq ?_
              refine Runs.block ?_
              refine Runs.seqD Ty_ok kindOp_ok draws (by decide) (by kernel_rfl) fun k' hk' => ?_
              simp [h0, h3, h4, hc1, hjl, Control.cells]   -- R9
              refine hk' _ _ _ ?_
              refine Runs.ite rfl (fun hc4 => ?_) (fun hc4 => ?_)   -- t51
              · have hc4 : sig[j].name = sig[k].name := by simpa using hc4
                refine Runs.seqE Ty_ok (by decide) fun k' hk' => ?_
                simp   -- R10
                refine hk' _ _ _ ?_
                exact Runs.ret Tryd.func128 (RetOk.one Tryd.results128) (bad k hc1 (by rw [okCtl, newName_at hc1 hc3 hc4, Bool.and_false]) _ _)
              · have hc4 : ¬ sig[j].name = sig[k].name := by simpa using hc4
                refine Runs.skip ?_
                refine Runs.inBlock ?_
                refine Runs.evalE Ty_ok (by decide) fun k' hk' => ?_
                simp [h4, wrap_succ (show j < 4611686018427387904 by omega)]   -- R8
                refine hk' _ _ _ ?_
                refine IH2 hc3 _ _ _ ⟨by simp [h0, Control.cells], by simp [h3], by simp, fun q hq hqj => ?_⟩
                rcases Nat.lt_or_ge q j with h | h
                · exact hno q hq h
                · have : q = j := by omega
                  subst this
                  exact hc4
            · have hc3 : ¬ j < k := by simpa using hc3
              have hje : j = k := by omega
              subst hje
              refine Runs.exit rfl ?_
              refine Runs.inBlock ?_
              refine Runs.evalE Ty_ok (by decide) fun k' hk' => ?_
              simp [h3, wrap_succ (show j < 4611686018427387904 by omega)]   -- R3
              refine hk' _ _ _ ?_
              refine IH hc1 _ _ _ ⟨by simp [h0], by simp, fun i hi => ?_⟩
              rcases Nat.lt_or_ge i j with h | h
              · exact hall i h
              · rw [show i = j by omega, okCtl, hgk, hb, newName_end hc1 hno]
                rfl
      simp [h0, h3, hc1, Control.cells]   -- R4
      refine RunK.callA Ty_ok (l2Name_ok sig[k].name (hs _ (List.getElem_mem hc1))) e105 (.cons (.v _ _ _) .nil) (by decide) (by decide) rfl (by simp) ?_
      rintro _ rfl
      cases hnm : isNm sig[k].name
      · simp [guardOf]
        exact fin _ (by simp [h0, Control.cells]) (by simp [h3]) (by simp only [okControl, hnm]; simp)
      · simp [h0, h3, hc1, Control.cells, guardOf]
        refine RunK.callA Ty_ok (l1In_ok sig[k].ports 0 3) e104 (.cons (.v _ _ _) (.cons (.v _ _ _) (.cons (.v _ _ _) .nil))) (by decide) (by decide) rfl (by simp) ?_
        rintro _ rfl
        cases hpo : within sig[k].ports 0 3
        · simp [guardOf]
          exact fin _ (by simp [h0, Control.cells]) (by simp [h3]) (by simp only [okControl, hnm, hpo]; simp)
        · simp [h0, h3, hc1, Control.cells, guardOf]
          refine RunK.callA Ty_ok (l1In_ok sig[k].kind 0 2) e104 (.cons (.v _ _ _) (.cons (.v _ _ _) (.cons (.v _ _ _) .nil))) (by decide) (by decide) rfl (by simp) ?_
          rintro _ rfl
          simp [guardOf]
          exact fin _ (by simp [h0, Control.cells]) (by simp [h3]) (by simp only [okControl, hnm, hpo]; simp)
    · have hc1 : ¬ k < sig.length := by simpa using hc1
      have hke : k = sig.length := by omega
      subst hke
      refine Runs.exit rfl ?_
      refine Runs.seqE Ty_ok (by decide) fun k' hk' => ?_
      simp [h0]   -- R11
      refine RunK.callA Ty_ok (l1In_ok sig.length 1 6) e104 (.cons (.v _ _ _) (.cons (.v _ _ _) (.cons (.v _ _ _) .nil))) (by decide) (by decide) rfl (by simp) ?_
      rintro _ rfl
      simp
      refine hk' _ _ _ ?_
      exact Runs.ret Tryd.func128 (RetOk.one Tryd.results128) (hQ _ _ _ _ (.v _ _ _) (by rw [goodSig_eq, all_range_end hall, Bool.and_true]))
end Go.Ab

/- Contract of impl.IsBigraph. -/
namespace Go.Ab
open Go.Proofs
set_option linter.unusedSimpArgs false
theorem e27 : Ent Tryd.prog 27 := Ent.of Tryd.func27 (by kernel_rfl) rfl
theorem e76 : Ent Tryd.prog 76 := Ent.of Tryd.func76 (by kernel_rfl) rfl
theorem e78 : Ent Tryd.prog 78 := Ent.of Tryd.func78 (by kernel_rfl) rfl
theorem e80 : Ent Tryd.prog 80 := Ent.of Tryd.func80 (by kernel_rfl) rfl

/-- Bounds that the laws' own sizes give. -/
structure SmallB (sig : Sig) (b : Big) : Prop where
  sigLen : sig.length ≤ 1048576
  sigNames : ∀ c ∈ sig, c.name.length ≤ 1048576
  nodesLen : b.nodes.length ≤ 1048576
  sitesLen : b.sites.length ≤ 1048576
  outerLen : b.outer.length ≤ 1048576
  innerLen : b.inner.length ≤ 1048576
  outerNames : ∀ s ∈ b.outer, s.length ≤ 1048576
  innerNames : ∀ w ∈ b.inner, w.name.length ≤ 1048576
  linksLen : ∀ x ∈ b.nodes, x.links.length ≤ 1048576
  parents : ∀ x ∈ b.nodes, I64 x.parent
  sites64 : ∀ p ∈ b.sites, I64 p

theorem clos76 {H : Heap} {n : Nat} {X : Id} (b : Big) (he : 0 ≤ b.edges ∧ b.edges ≤ 8) (ho : b.outer.length ≤ 1048576) (hX : H X = some ⟨6, [b.cells false]⟩) (l : Int) : ClosC Tryd.prog H n (.fn (.func 76) [] [.ptr X 1 0 0]) [int l] (fun r => r = bool (!okLink b l)) := by
  refine ⟨76, [], [.ptr X 1 0 0], rfl, e76, ?_⟩
  have hX' := hX
  simp only [Big.cells] at hX'
  refine StillC.of Tryd.func76 rfl Tryd.ntmps76 (by simp) fun Q hB hQ => ?_
  refine Runs.seqE Ty_ok (by decide) fun k' hk' => ?_
  simp   -- R0
  refine hk' _ _ _ ?_
  refine Runs.seqE Ty_ok (by decide) fun k' hk' => ?_
  simp [hX']   -- R1
  refine RunK.callA Ty_ok (isLink_ok b l he ho) e77 (.cons (ArgOk.encB false b) (.cons (.v _ _ _) .nil)) (by decide) (by decide) rfl (by simp [encB, Big.cells]) ?_
  rintro _ rfl
  simp
  refine hk' _ _ _ ?_
  exact Runs.ret Tryd.func76 (RetOk.one Tryd.results76) (hQ _ _ _ _ (.bnd (.v _)) (Frame.refl _ _) (by simp))

theorem clos80 {H : Heap} {n : Nat} {X : Id} (b : Big) (he : 0 ≤ b.edges ∧ b.edges ≤ 8) (ho : b.outer.length ≤ 1048576) (hX : H X = some ⟨6, [b.cells false]⟩) (w : Wire) : ClosC Tryd.prog H n (.fn (.func 80) [] [.ptr X 1 0 0]) [.agg w.cells] (fun r => r = bool (!okLink b w.link)) := by
  refine ⟨80, [], [.ptr X 1 0 0], rfl, e80, ?_⟩
  have hX' := hX
  simp only [Big.cells] at hX'
  refine StillC.of Tryd.func80 rfl Tryd.ntmps80 (by simp) fun Q hB hQ => ?_
  have hXn := (hB X _ hX).1
  have hX2 : ¬ X = (n, 2) := by rintro rfl; simp at hXn
  refine Runs.seqE Ty_ok (by decide) fun k' hk' => ?_
  simp [Wire.cells]   -- R0
  refine hk' _ _ _ ?_
  refine Runs.seqE Ty_ok (by decide) fun k' hk' => ?_
  simp [hX2, hX']   -- R1
  refine RunK.callA Ty_ok (isLink_ok b w.link he ho) e77 (.cons (ArgOk.encB false b) (.cons (.v _ _ _) .nil)) (by decide) (by decide) rfl (by simp [encB, Big.cells]) ?_
  rintro _ rfl
  simp
  refine hk' _ _ _ ?_
  exact Runs.ret Tryd.func80 (RetOk.one Tryd.results80) (hQ _ _ _ _ (.bnd (.v _)) (Frame.set (by simp) (Frame.refl _ _)) (by simp))

theorem clos78 {H : Heap} {n : Nat} {X Y : Id} (sig : Sig) (b : Big) (hr : 0 ≤ b.roots ∧ b.roots ≤ 4) (hc : CtlOk sig b b.nodes.length) (hX : H X = some ⟨6, [b.cells false]⟩) (hY : H Y = some ⟨1, [[encSig false sig]]⟩) (p : Int) :
    ClosC Tryd.prog H n (.fn (.func 78) [] [.ptr X 1 0 0, .ptr Y 1 0 0]) [int p] (fun r => r = bool (!okParent sig b p b.nodes.length)) := by
  refine ⟨78, [], [.ptr X 1 0 0, .ptr Y 1 0 0], rfl, e78, ?_⟩
  have hX' := hX
  simp only [Big.cells, encN] at hX'
  have hY' := hY
  simp only [encSig] at hY'
  refine StillC.of Tryd.func78 rfl Tryd.ntmps78 (by simp) fun Q hB hQ => ?_
  refine Runs.seqE Ty_ok (by decide) fun k' hk' => ?_
  simp   -- R0
  refine hk' _ _ _ ?_
  refine Runs.seqE Ty_ok (by decide) fun k' hk' => ?_
  simp [hX', hY']   -- R1
  refine RunK.callA Ty_ok (isParent_ok sig b p b.nodes.length hr (Nat.le_refl _) hc) e74 (.cons (ArgOk.encB false b) (.cons (ArgOk.encSig false sig) (.cons (.v _ _ _) (.cons (.v _ _ _) .nil)))) (by decide) (by decide) rfl (by simp [encB, Big.cells, encN, encSig]) ?_
  rintro _ rfl
  simp
  refine hk' _ _ _ ?_
  exact Runs.ret Tryd.func78 (RetOk.one Tryd.results78) (hQ _ _ _ _ (.bnd (.v _)) (Frame.refl _ _) (by simp))

theorem ctl_step {sig : Sig} {b : Big} {k : Nat} (h : okNodeB sig b k = true) (hk : CtlOk sig b k) : CtlOk sig b (k + 1) := by
  intro i hi
  rcases Nat.lt_or_ge i k with h1 | h1
  · exact hk i h1
  · have : i = k := by omega
    subst this
    simp only [okNodeB, within, Bool.and_eq_true, decide_eq_true_eq] at h
    omega

/-- What stands ahead of the nodes. -/
def goodPre (sig : Sig) (b : Big) : Bool :=
  goodSig sig && within b.roots 0 4 && decide (b.nodes.length ≤ 8) && decide (b.sites.length ≤ 4) && within b.edges 0 8 && goodNames b.outer && goodNames (names b)
theorem goodB_eq (sig : Sig) (b : Big) : goodB sig b = (goodPre sig b && (List.range b.nodes.length).all (okNodeB sig b) && b.sites.all (fun p => okParent sig b p b.nodes.length) && b.inner.all (fun w => okLink b w.link)) := rfl

theorem any_not {α : Type} (l : List α) (p : α → Bool) : (l.any fun x => !p x) = !l.all p := by
  induction l with
  | nil => rfl
  | cons a l ih => simp [ih]

theorem IsBigraph_ok (sig : Sig) (b : Big) (hs : SmallB sig b) : PureC Tryd.prog 27 [encSig false sig, encB false b] (fun r => r = bool (goodB sig b)) := by
  obtain ⟨s1, s2, s3, s4, s5, s6, s7, s8, s9, _, _⟩ := hs
  have hnl : (names b).length ≤ 1048576 := by simpa [names] using s6
  have hnn : ∀ s ∈ names b, s.length ≤ 1048576 := by
    intro s hs
    obtain ⟨w, hw, rfl⟩ := List.mem_map.1 hs
    exact s8 w hw
  refine PureC.of Tryd.func27 rfl Tryd.ntmps27 (by simp) fun Q hQ => ?_
  refine Runs.seqE Ty_ok (by decide) fun k' hk' => ?_
  simp [encSig, encB, Big.cells]   -- R0
  refine hk' _ _ _ ?_
  refine Runs.cut (fun ρ H n => ρ 2 = .ptr (0, 2) 1 0 0 ∧ ρ 3 = .ptr (1, 3) 1 0 0 ∧ H (0, 2) = some ⟨1, [[encSig false sig]]⟩ ∧ H (1, 3) = some ⟨6, [b.cells false]⟩) ⟨by simp, by simp, by simp [encSig], by simp [Big.cells]⟩ ?_
  clear hk'
  rintro ρ H n ⟨h2, h3, hm2, hm3⟩
  have hm2' := hm2
  simp only [encSig] at hm2'
  have hm3' := hm3
  simp only [Big.cells, encN, encI, encS, encW] at hm3'
  refine Runs.seq ?_
  refine Runs.seqE Ty_ok (by decide) fun k' hk' => ?_
  have fin : ∀ ρ : Env, ρ 2 = .ptr (0, 2) 1 0 0 → ρ 3 = .ptr (1, 3) 1 0 0 → ρ 45 = bool (!goodPre sig b) → Runs Tryd.prog 27 101 k' ρ H n Q := by
    intro ρ h2 h3 h45
    refine hk' _ _ _ ?_
    refine Runs.ite h45 (fun hc1 => ?_) (fun hc1 => ?_)   -- t45
    · have hb : goodPre sig b = false := by simpa using hc1
      refine Runs.seqE Ty_ok (by decide) fun k' hk' => ?_
      simp   -- R2
      refine hk' _ _ _ ?_
      exact Runs.ret Tryd.func27 (RetOk.one Tryd.results27) (hQ _ _ _ _ (.v _ _ _) (by rw [goodB_eq, hb]; rfl))
    · have hb : goodPre sig b = true := by simpa using hc1
      have hb' := hb
      simp only [goodPre, within, Bool.and_eq_true, decide_eq_true_eq] at hb'
      obtain ⟨⟨⟨⟨⟨⟨_, hr⟩, hn8⟩, _⟩, hed⟩, _⟩, _⟩ := hb'
      refine Runs.skip ?_
      refine Runs.seq ?_
      refine Runs.seqE Ty_ok (by decide) fun k' hk' => ?_
      simp [h3, hm3']   -- R3
      refine hk' _ _ _ ?_
      refine Runs.block (Runs.loopUp b.nodes.length (fun k ρ H n => ρ 2 = .ptr (0, 2) 1 0 0 ∧ ρ 3 = .ptr (1, 3) 1 0 0 ∧ ρ 47 = .list false (b.nodes.map (GNode.cells false)) ∧ ρ 48 = int b.nodes.length ∧ ρ 49 = int k ∧
        H (0, 2) = some ⟨1, [[encSig false sig]]⟩ ∧ H (1, 3) = some ⟨6, [b.cells false]⟩ ∧ CtlOk sig b k ∧ (∀ i, i < k → okNodeB sig b i = true)) ?_ ?_)
      · exact ⟨by simp [h2], by simp [h3], by simp, by simp, by simp, hm2, hm3, fun i hi => by omega, fun i hi => by omega⟩
      · clear h2 h3 hm2' hm3'
        rintro k ρ H n hk ⟨h2, h3, h47, h48, h49, hm2, hm3, hctl, hall⟩ IH
        have hm2' := hm2
        simp only [encSig] at hm2'
        have hm3' := hm3
        simp only [Big.cells, encN, encI, encS, encW] at hm3'
        refine Runs.seqE Ty_ok (by decide) fun k' hk' => ?_
        simp [h48, h49]   -- R4
        refine hk' _ _ _ ?_
        refine Runs.seq ?_
        refine Runs.ite rfl (fun hc2 => ?_) (fun hc2 => ?_)   -- t50
        · have hc2 : k < b.nodes.length := by simpa using hc2
          have hgk : b.nodes.getD k default = b.nodes[k] := by simp [hc2]
          refine Runs.skip ?_
          refine Runs.seq ?_
          refine Runs.block ?_
          refine Runs.seqE Ty_ok (by decide) fun k' hk' => ?_
          simp [h47, h49, hc2, GNode.cells]   -- R5
          refine hk' _ _ _ ?_
          refine Runs.cut (fun ρ H m => ρ 2 = .ptr (0, 2) 1 0 0 ∧ ρ 3 = .ptr (1, 3) 1 0 0 ∧ ρ 47 = .list false (b.nodes.map (GNode.cells false)) ∧ ρ 48 = int b.nodes.length ∧ ρ 49 = int k ∧ ρ 5 = int k ∧ ρ 6 = .ptr (n, 6) 1 0 0 ∧
            H (0, 2) = some ⟨1, [[encSig false sig]]⟩ ∧ H (1, 3) = some ⟨6, [b.cells false]⟩ ∧ H (n, 6) = some ⟨3, [b.nodes[k].cells false]⟩ ∧ m = n + 1) ?_ ?_
          · exact ⟨by simp [h2], by simp [h3], by simp [h47], by simp [h48], by simp [h49], by simp, by simp, by simp [hm2], by simp [hm3], by simp [GNode.cells], rfl⟩
          clear hk' h2 h3 h47 h48 h49 hm2 hm3 hm2' hm3'
          rintro ρ H m ⟨h2, h3, h47, h48, h49, h5, h6, hm2, hm3, hm6, rfl⟩
          have hm2' := hm2
          simp only [encSig] at hm2'
          have hm3' := hm3
          simp only [Big.cells, encN, encI, encS, encW] at hm3'
          have hm6' := hm6
          simp only [GNode.cells] at hm6'
          refine Runs.seqD Ty_ok kindOp_ok draws (by decide) (by kernel_rfl) fun k' hk' => ?_
          have fin : ∀ ρ : Env, ρ 2 = .ptr (0, 2) 1 0 0 → ρ 3 = .ptr (1, 3) 1 0 0 → ρ 47 = .list false (b.nodes.map (GNode.cells false)) → ρ 48 = int b.nodes.length → ρ 49 = int k → ρ 87 = bool (!okNodeB sig b k) → Runs Tryd.prog 27 101 k' ρ H (n + 1) Q := by
            intro ρ h2 h3 h47 h48 h49 h87
            refine hk' _ _ _ ?_
            refine Runs.ite h87 (fun hc3 => ?_) (fun hc3 => ?_)   -- t87
            · have hb : okNodeB sig b k = false := by simpa using hc3
              refine Runs.seqE Ty_ok (by decide) fun k' hk' => ?_
              simp   -- R7
              refine hk' _ _ _ ?_
              exact Runs.ret Tryd.func27 (RetOk.one Tryd.results27) (hQ _ _ _ _ (.v _ _ _) (by rw [goodB_eq, all_range_bad hc2 hb, Bool.and_false]; rfl))
            · have hb : okNodeB sig b k = true := by simpa using hc3
              refine Runs.skip ?_
              refine Runs.inBlock ?_
              refine Runs.evalE Ty_ok (by decide) fun k' hk' => ?_
              simp [h49, wrap_succ (show k < 4611686018427387904 by omega)]   -- R8
              refine hk' _ _ _ ?_
              refine IH hc2 _ _ _ ⟨by simp [h2], by simp [h3], by simp [h47], by simp [h48], by simp, hm2, hm3, ctl_step hb hctl, fun i hi => ?_⟩
              rcases Nat.lt_or_ge i k with h | h
              · exact hall i h
              · rw [show i = k by omega]; exact hb
          have hw : IntKind.i64.wrap ((sig.length : Int) - 1) = (sig.length : Int) - 1 := by rw [wrap64] <;> omega
          simp [h2, h6, hm2', hm6', hw]   -- R6
          refine RunDK.callA Ty_ok kindOp_ok (within_ok b.nodes[k].control 0 ((sig.length : Int) - 1)) e71 (.cons (.v _ _ _) (.cons (.v _ _ _) (.cons (.v _ _ _) .nil))) (by decide) rfl (by simp) ?_
          cases q1 : within b.nodes[k].control 0 ((sig.length : Int) - 1)
          · simp [guardOf]
            exact fin _ (by simp [h2]) (by simp [h3]) (by simp [h47]) (by simp [h48]) (by simp [h49]) (by simp only [okNodeB, hgk, q1]; simp)
          simp [h2, h3, h5, h6, hm2', hm3', hm6', guardOf]
          refine RunDK.callA Ty_ok kindOp_ok (isParent_ok sig b b.nodes[k].parent k hr (by omega) hctl) e74 (.cons (ArgOk.encB false b) (.cons (ArgOk.encSig false sig) (.cons (.v _ _ _) (.cons (.v _ _ _) .nil)))) (by decide) rfl (by simp [encB, Big.cells, encN, encI, encS, encW, encSig]) ?_
          cases q2 : okParent sig b b.nodes[k].parent k
          · simp [guardOf]
            exact fin _ (by simp [h2]) (by simp [h3]) (by simp [h47]) (by simp [h48]) (by simp [h49]) (by simp only [okNodeB, hgk, q2]; simp)
          have q1' := q1
          simp only [within, Bool.and_eq_true, decide_eq_true_eq] at q1'
          obtain ⟨c, hc⟩ : ∃ c : Nat, b.nodes[k].control = c := ⟨b.nodes[k].control.toNat, by omega⟩
          have hcl : c < sig.length := by omega
          have q1c := q1
          rw [hc] at q1c
          have hgc : sig.getD c default = sig[c] := by simp [hcl]
          by_cases q3 : (b.nodes[k].links.length : Int) = sig[c].ports
          · have q3' : ((b.nodes[k].links.length : Int) != sig[c].ports) = false := by simpa using q3
            simp [h2, h3, h6, hm2', hm6', hc, hcl, q3', Control.cells, guardOf]
            refine RunDK.callT Ty_ok kindOp_ok (containsFuncI_ok false b.nodes[k].links (fun l => !okLink b l) (s9 _ (List.getElem_mem hc2)) (fun l _ => clos76 b hed s5 hm3 l)) e75 (by decide) rfl (by simp) ?_
            simp
            refine fin _ (by simp [h2]) (by simp [h3]) (by simp [h47]) (by simp [h48]) (by simp [h49]) ?_
            simp only [okNodeB, hgk, q1c, q2, hc, Int.toNat_natCast, hgc, q3, any_not]
            simp
          · have q3' : ((b.nodes[k].links.length : Int) != sig[c].ports) = true := by simpa using q3
            simp [h2, h3, h6, hm2', hm6', hc, hcl, q3', Control.cells, guardOf]
            exact fin _ (by simp [h2]) (by simp [h3]) (by simp [h47]) (by simp [h48]) (by simp [h49]) (by simp only [okNodeB, hgk, q1c, q2, hc, Int.toNat_natCast, hgc, q3]; simp)
        · have hc2 : ¬ k < b.nodes.length := by simpa using hc2
          have hke : k = b.nodes.length := by omega
          subst hke
          have hnodes := all_range_end hall
          refine Runs.exit rfl ?_
          refine Runs.seqE Ty_ok (by decide) fun k' hk' => ?_
          simp [h2, h3, hm3']   -- R9
          refine RunK.callT Ty_ok (containsFuncI_ok false b.sites (fun p => !okParent sig b p b.nodes.length) s4 (fun p _ => clos78 sig b hr hctl hm3 hm2 p)) e75 (by decide) (by decide) rfl (by simp) ?_
          rintro _ rfl
          rw [any_not]
          cases r1 : b.sites.all (fun p => okParent sig b p b.nodes.length)
          · simp [guardOf]
            refine hk' _ _ _ ?_
            exact Runs.ret Tryd.func27 (RetOk.one Tryd.results27) (hQ _ _ _ _ (.v _ _ _) (by rw [goodB_eq, r1]; simp))
          · simp [h3, hm3', guardOf]
            refine RunK.callT Ty_ok (containsFuncW_ok false b.inner (fun w => !okLink b w.link) s6 (fun w _ => clos80 b hed s5 hm3 w)) e79 (by decide) (by decide) rfl (by simp) ?_
            rintro _ rfl
            rw [any_not]
            simp
            refine hk' _ _ _ ?_
            exact Runs.ret Tryd.func27 (RetOk.one Tryd.results27) (hQ _ _ _ _ (.v _ _ _) (by rw [goodB_eq, hb, hnodes, r1]; simp))
  simp [h2, hm2']   -- R1
  refine RunK.callA Ty_ok (IsSignature_ok sig s1 s2) e70 (.cons (ArgOk.encSig false sig) .nil) (by decide) (by decide) rfl (by simp [encSig]) ?_
  rintro _ rfl
  cases p1 : goodSig sig
  · simp [guardOf]
    exact fin _ (by simp [h2]) (by simp [h3]) (by simp only [goodPre, p1]; simp)
  simp [h3, hm3', guardOf]
  refine RunK.callA Ty_ok (within_ok b.roots 0 4) e71 (.cons (.v _ _ _) (.cons (.v _ _ _) (.cons (.v _ _ _) .nil))) (by decide) (by decide) rfl (by simp) ?_
  rintro _ rfl
  cases p2 : within b.roots 0 4
  · simp [guardOf]
    exact fin _ (by simp [h2]) (by simp [h3]) (by simp only [goodPre, p2]; simp)
  by_cases p3 : (8 : Int) < b.nodes.length
  · simp [h3, hm3', p3, guardOf]
    exact fin _ (by simp [h2]) (by simp [h3]) (by simp only [goodPre, show ¬ b.nodes.length ≤ 8 by omega]; simp)
  by_cases p4 : (4 : Int) < b.sites.length
  · simp [h3, hm3', p3, p4, guardOf]
    exact fin _ (by simp [h2]) (by simp [h3]) (by simp only [goodPre, show ¬ b.sites.length ≤ 4 by omega]; simp)
  simp [h3, hm3', p3, p4, guardOf]
  refine RunK.callA Ty_ok (within_ok b.edges 0 8) e71 (.cons (.v _ _ _) (.cons (.v _ _ _) (.cons (.v _ _ _) .nil))) (by decide) (by decide) rfl (by simp) ?_
  rintro _ rfl
  cases p5 : within b.edges 0 8
  · simp [guardOf]
    exact fin _ (by simp [h2]) (by simp [h3]) (by simp only [goodPre, p5]; simp)
  simp [h3, hm3', guardOf]
  refine RunK.callA Ty_ok (areNames_ok b.outer s5 s7) e72 (.cons (ArgOk.encS false b.outer) .nil) (by decide) (by decide) rfl (by simp [encS]) ?_
  rintro _ rfl
  cases p6 : goodNames b.outer
  · simp [guardOf]
    exact fin _ (by simp [h2]) (by simp [h3]) (by simp only [goodPre, p6]; simp)
  simp [h3, hm3', guardOf]
  refine RunK.callA Ty_ok (innerNames_ok b s6) e73 (.cons (ArgOk.encB false b) .nil) (by decide) (by decide) rfl (by simp [encB, Big.cells, encN, encI, encS, encW]) ?_
  rintro _ rfl
  simp
  refine RunK.callA Ty_ok (areNames_ok (names b) hnl hnn) e72 (.cons (ArgOk.encS true (names b)) .nil) (by decide) (by decide) rfl (by simp [encS]) ?_
  rintro _ rfl
  simp
  exact fin _ (by simp [h2]) (by simp [h3]) (by simp only [goodPre, p1, p2, p5, p6, show b.nodes.length ≤ 8 by omega, show b.sites.length ≤ 4 by omega]; simp)
end Go.Ab

/- Contracts of spec.l2Node and spec.l2Good. -/
namespace Go.Ab
open Go.Proofs
set_option linter.unusedSimpArgs false
theorem e66 : Ent Tryd.prog 66 := Ent.of Tryd.func66 (by kernel_rfl) rfl
theorem e131 : Ent Tryd.prog 131 := Ent.of Tryd.func131 (by kernel_rfl) rfl

theorem all_bad {α : Type} {l : List α} {p : α → Bool} {k : Nat} (hk : k < l.length) (h : p l[k] = false) : l.all p = false := by
  rw [List.all_eq_false]
  exact ⟨l[k], List.getElem_mem hk, by simp [h]⟩
theorem all_end {α : Type} {l : List α} {p : α → Bool} (h : ∀ i (hi : i < l.length), p l[i] = true) : l.all p = true := by
  rw [List.all_eq_true]
  intro x hx
  obtain ⟨i, hi, rfl⟩ := List.getElem_of_mem hx
  exact h i hi

theorem l2Node_ok (sig : Sig) (b : Big) (hs : SmallB sig b) (k : Nat) (hk : k < b.nodes.length) (hr : 0 ≤ b.roots ∧ b.roots ≤ 4) (he : 0 ≤ b.edges ∧ b.edges ≤ 8) (hctl : CtlOk sig b k) :
    PureC Tryd.prog 131 [encSig false sig, encB false b, int k] (fun r => r = bool (okNodeB sig b k)) := by
  have hgk : b.nodes.getD k default = b.nodes[k] := by simp [hk]
  have hll := hs.linksLen _ (List.getElem_mem hk)
  have hpar := hs.parents _ (List.getElem_mem hk)
  have hol := hs.outerLen
  have hsl := hs.sigLen
  refine PureC.of Tryd.func131 rfl Tryd.ntmps131 (by simp) fun Q hQ => ?_
  refine Runs.seqE Ty_ok (by decide) fun k' hk' => ?_
  simp [encSig, encB, Big.cells]   -- R0
  refine hk' _ _ _ ?_
  refine Runs.seqE Ty_ok (by decide) fun k' hk' => ?_
  simp [encN, hk, GNode.cells]   -- R1
  refine hk' _ _ _ ?_
  refine Runs.cut (fun ρ H n => ρ 0 = .list false (sig.map Control.cells) ∧ ρ 2 = int k ∧ ρ 4 = .ptr (0, 4) 1 0 0 ∧ ρ 7 = .ptr (1, 7) 1 0 0 ∧ H (0, 4) = some ⟨6, [b.cells false]⟩ ∧ H (1, 7) = some ⟨3, [b.nodes[k].cells false]⟩) ⟨by simp, by simp, by simp, by simp, by simp [Big.cells, encN, GNode.cells], by simp [GNode.cells]⟩ ?_
  clear hk'
  rintro ρ H n ⟨h0, h2, h4, h7, hm4, hm7⟩
  have hm4' := hm4
  simp only [Big.cells, encN, encI, encS, encW] at hm4'
  have hm7' := hm7
  simp only [GNode.cells] at hm7'
  refine Runs.seq ?_
  refine Runs.seqD Ty_ok kindOp_ok draws (by decide) (by kernel_rfl) fun k' hk' => ?_
  have fin : ∀ (ρ : Env) (pre : Bool), ρ 4 = .ptr (0, 4) 1 0 0 → ρ 7 = .ptr (1, 7) 1 0 0 → ρ 41 = bool (!pre) → okNodeB sig b k = (pre && b.nodes[k].links.all (okLink b)) → Runs Tryd.prog 131 57 k' ρ H n Q := by
    intro ρ pre h4 h7 h41 hpre
    refine hk' _ _ _ ?_
    refine Runs.ite h41 (fun hc1 => ?_) (fun hc1 => ?_)   -- t41
    · have hb : pre = false := by simpa using hc1
      refine Runs.seqE Ty_ok (by decide) fun k' hk' => ?_
      simp   -- R3
      refine hk' _ _ _ ?_
      exact Runs.ret Tryd.func131 (RetOk.one Tryd.results131) (hQ _ _ _ _ (.v _ _ _) (by rw [hpre, hb]; rfl))
    · have hb : pre = true := by simpa using hc1
      rw [hb, Bool.true_and] at hpre
      refine Runs.skip ?_
      refine Runs.seq ?_
      refine Runs.seqE Ty_ok (by decide) fun k' hk' => ?_
      simp   -- R4
      refine hk' _ _ _ ?_
      refine Runs.block (Runs.loopUp b.nodes[k].links.length (fun j ρ' H' n' => ρ' 4 = .ptr (0, 4) 1 0 0 ∧ ρ' 7 = .ptr (1, 7) 1 0 0 ∧ ρ' 8 = int j ∧ H' = H ∧ n' = n ∧ ∀ i (hi : i < b.nodes[k].links.length), i < j → okLink b b.nodes[k].links[i] = true) ?_ ?_)
      · exact ⟨by simp [h4], by simp [h7], by simp, rfl, rfl, fun i hi h => by omega⟩
      · clear h4 h7
        rintro j ρ H' n' hj ⟨h4, h7, h8, rfl, rfl, hall⟩ IH
        refine Runs.seq ?_
        refine Runs.seqE Ty_ok (by decide) fun k' hk' => ?_
        simp [h7, h8, hm7']   -- R5
        refine hk' _ _ _ ?_
        refine Runs.ite rfl (fun hc2 => ?_) (fun hc2 => ?_)   -- t46
        · have hc2 : j < b.nodes[k].links.length := by simpa using hc2
          refine Runs.skip ?_
          refine Runs.seq ?_
          refine Runs.block ?_
          refine Runs.seqD Ty_ok kindOp_ok draws (by decide) (by kernel_rfl) fun k' hk' => ?_
          simp [h4, h7, h8, hm4', hm7', hc2, intC]   -- R7
          refine RunDK.callA Ty_ok kindOp_ok (l2Link_ok b b.nodes[k].links[j] he hol) e133 (.cons (ArgOk.encB false b) (.cons (.v _ _ _) .nil)) (by decide) rfl (by simp [encB, Big.cells, encN, encI, encS, encW, intC]) ?_
          simp
          refine hk' _ _ _ ?_
          refine Runs.ite rfl (fun hc3 => ?_) (fun hc3 => ?_)   -- t56
          · have hb3 : okLink b b.nodes[k].links[j] = false := by simpa using hc3
            refine Runs.seqE Ty_ok (by decide) fun k' hk' => ?_
            simp   -- R8
            refine hk' _ _ _ ?_
            exact Runs.ret Tryd.func131 (RetOk.one Tryd.results131) (hQ _ _ _ _ (.v _ _ _) (by rw [hpre, all_bad hc2 hb3]))
          · have hb3 : okLink b b.nodes[k].links[j] = true := by simpa using hc3
            refine Runs.skip ?_
            refine Runs.inBlock ?_
            refine Runs.evalE Ty_ok (by decide) fun k' hk' => ?_
            simp [h8, wrap_succ (show j < 4611686018427387904 by omega)]   -- R6
            refine hk' _ _ _ ?_
            refine IH hc2 _ _ _ ⟨by simp [h4], by simp [h7], by simp, rfl, rfl, fun i hi hij => ?_⟩
            rcases Nat.lt_or_ge i j with h | h
            · exact hall i hi h
            · have : i = j := by omega
              subst this
              exact hb3
        · have hc2 : ¬ j < b.nodes[k].links.length := by simpa using hc2
          have hje : j = b.nodes[k].links.length := by omega
          subst hje
          refine Runs.exit rfl ?_
          refine Runs.seqE Ty_ok (by decide) fun k' hk' => ?_
          simp   -- R9
          refine hk' _ _ _ ?_
          exact Runs.ret Tryd.func131 (RetOk.one Tryd.results131) (hQ _ _ _ _ (.v _ _ _) (by rw [hpre, all_end fun i hi => hall i hi hi]))
  have hw : IntKind.i64.wrap ((sig.length : Int) - 1) = (sig.length : Int) - 1 := by rw [wrap64] <;> omega
  simp [h0, h7, hm7', hw]   -- R2
  refine RunDK.callA Ty_ok kindOp_ok (l1In_ok b.nodes[k].control 0 ((sig.length : Int) - 1)) e104 (.cons (.v _ _ _) (.cons (.v _ _ _) (.cons (.v _ _ _) .nil))) (by decide) rfl (by simp) ?_
  cases q1 : within b.nodes[k].control 0 ((sig.length : Int) - 1)
  · simp [guardOf]
    exact fin _ false (by simp [h4]) (by simp [h7]) (by simp) (by simp only [okNodeB, hgk, q1]; simp)
  simp [h0, h2, h4, h7, hm4', hm7', guardOf]
  refine RunDK.callA Ty_ok kindOp_ok (l2Under_ok sig b b.nodes[k].parent k hpar hr (by omega) hctl) e132 (.cons (ArgOk.encSig false sig) (.cons (ArgOk.encB false b) (.cons (.v _ _ _) (.cons (.v _ _ _) .nil)))) (by decide) rfl (by simp [encB, Big.cells, encN, encI, encS, encW, encSig]) ?_
  cases q2 : okParent sig b b.nodes[k].parent k
  · simp [guardOf]
    exact fin _ false (by simp [h4]) (by simp [h7]) (by simp) (by simp only [okNodeB, hgk, q2]; simp)
  have q1' := q1
  simp only [within, Bool.and_eq_true, decide_eq_true_eq] at q1'
  obtain ⟨c, hc⟩ : ∃ c : Nat, b.nodes[k].control = c := ⟨b.nodes[k].control.toNat, by omega⟩
  have hcl : c < sig.length := by omega
  have q1c := q1
  rw [hc] at q1c
  have hgc : sig.getD c default = sig[c] := by simp [hcl]
  by_cases q3 : (b.nodes[k].links.length : Int) = sig[c].ports
  · have q3' : ((b.nodes[k].links.length : Int) != sig[c].ports) = false := by simpa using q3
    simp [h0, h7, hm7', hc, hcl, q3', Control.cells, guardOf]
    exact fin _ true (by simp [h4]) (by simp [h7]) (by simp) (by simp only [okNodeB, hgk, q1c, q2, hc, Int.toNat_natCast, hgc, q3]; simp)
  · have q3' : ((b.nodes[k].links.length : Int) != sig[c].ports) = true := by simpa using q3
    simp [h0, h7, hm7', hc, hcl, q3', Control.cells, guardOf]
    exact fin _ false (by simp [h4]) (by simp [h7]) (by simp) (by simp only [okNodeB, hgk, q1c, q2, hc, Int.toNat_natCast, hgc, q3]; simp)
end Go.Ab

/- Contract of spec.l2Good. -/
namespace Go.Ab
open Go.Proofs
set_option linter.unusedSimpArgs false

theorem ctl_all {sig : Sig} {b : Big} {k : Nat} (h : ∀ i, i < k → okNodeB sig b i = true) : CtlOk sig b k := by
  induction k with
  | zero => intro i hi; omega
  | succ k ih => exact ctl_step (h k (by omega)) (ih fun i hi => h i (by omega))

def pre1 (sig : Sig) (b : Big) : Bool := goodSig sig && within b.roots 0 4 && decide (b.nodes.length ≤ 8) && decide (b.sites.length ≤ 4) && within b.edges 0 8
def pre2 (b : Big) : Bool := goodNames b.outer && goodNames (names b)
theorem goodPre_eq (sig : Sig) (b : Big) : goodPre sig b = (pre1 sig b && pre2 b) := by
  simp only [goodPre, pre1, pre2, Bool.and_assoc]

theorem l2Good_ok (sig : Sig) (b : Big) (hs : SmallB sig b) : PureC Tryd.prog 66 [encSig false sig, encB false b] (fun r => r = bool (goodB sig b)) := by
  obtain ⟨s1, s2, s3, s4, s5, s6, s7, s8, s9, s10, s11⟩ := id hs
  have hnl : (names b).length ≤ 1048576 := by simpa [names] using s6
  have hnn : ∀ s ∈ names b, s.length ≤ 1048576 := by
    intro s hs
    obtain ⟨w, hw, rfl⟩ := List.mem_map.1 hs
    exact s8 w hw
  refine PureC.of Tryd.func66 rfl Tryd.ntmps66 (by simp) fun Q hQ => ?_
  have no : goodB sig b = false → ∀ H n, Q (bool false) H n := fun h H n => hQ _ _ _ _ (.v _ _ _) (by rw [h])
  refine Runs.seqE Ty_ok (by decide) fun k' hk' => ?_
  simp [encSig, encB, Big.cells]   -- R0
  refine hk' _ _ _ ?_
  refine Runs.cut (fun ρ H n => ρ 0 = .list false (sig.map Control.cells) ∧ ρ 3 = .ptr (0, 3) 1 0 0 ∧ H (0, 3) = some ⟨6, [b.cells false]⟩) ⟨by simp, by simp, by simp [Big.cells]⟩ ?_
  clear hk'
  rintro ρ H n ⟨h0, h3, hm3⟩
  have hm3' := hm3
  simp only [Big.cells, encN, encI, encS, encW] at hm3'
  refine Runs.seq ?_
  refine Runs.seqE Ty_ok (by decide) fun k' hk' => ?_
  have fin : ∀ ρ : Env, ρ 0 = .list false (sig.map Control.cells) → ρ 3 = .ptr (0, 3) 1 0 0 → ρ 34 = bool (!pre1 sig b) → Runs Tryd.prog 66 98 k' ρ H n Q := by
    clear h0 h3
    intro ρ h0 h3 h34
    refine hk' _ _ _ ?_
    refine Runs.ite h34 (fun hc1 => ?_) (fun hc1 => ?_)   -- t34
    · have hb : pre1 sig b = false := by simpa using hc1
      refine Runs.seqE Ty_ok (by decide) fun k' hk' => ?_
      simp   -- R2
      refine hk' _ _ _ ?_
      exact Runs.ret Tryd.func66 (RetOk.one Tryd.results66) (no (by rw [goodB_eq, goodPre_eq, hb]; rfl) _ _)
    · have hb1 : pre1 sig b = true := by simpa using hc1
      have hb' := hb1
      simp only [pre1, within, Bool.and_eq_true, decide_eq_true_eq] at hb'
      obtain ⟨⟨⟨⟨_, hr⟩, hn8⟩, _⟩, hed⟩ := hb'
      refine Runs.skip ?_
      refine Runs.seq ?_
      refine Runs.seqE Ty_ok (by decide) fun k' hk' => ?_
      have fin2 : ∀ ρ : Env, ρ 0 = .list false (sig.map Control.cells) → ρ 3 = .ptr (0, 3) 1 0 0 → ρ 50 = bool (!pre2 b) → Runs Tryd.prog 66 98 k' ρ H n Q := by
        clear h0 h3
        intro ρ h0 h3 h50
        refine hk' _ _ _ ?_
        refine Runs.ite h50 (fun hc1 => ?_) (fun hc1 => ?_)   -- t50
        · have hb : pre2 b = false := by simpa using hc1
          refine Runs.seqE Ty_ok (by decide) fun k' hk' => ?_
          simp   -- R4
          refine hk' _ _ _ ?_
          exact Runs.ret Tryd.func66 (RetOk.one Tryd.results66) (no (by rw [goodB_eq, goodPre_eq, hb, Bool.and_false]; rfl) _ _)
        · have hb2 : pre2 b = true := by simpa using hc1
          have hpre : goodPre sig b = true := by rw [goodPre_eq, hb1, hb2]; rfl
          refine Runs.skip ?_
          refine Runs.seq ?_
          refine Runs.seqE Ty_ok (by decide) fun k' hk' => ?_
          simp   -- R5
          refine hk' _ _ _ ?_
          refine Runs.block (Runs.loopUp b.nodes.length (fun k ρ' H' n' => ρ' 0 = .list false (sig.map Control.cells) ∧ ρ' 3 = .ptr (0, 3) 1 0 0 ∧ ρ' 5 = int k ∧ H' = H ∧ n' = n ∧ ∀ i, i < k → okNodeB sig b i = true) ?_ ?_)
          · exact ⟨by simp [h0], by simp [h3], by simp, rfl, rfl, fun i hi => by omega⟩
          · clear h0 h3
            rintro k ρ H' n' hk ⟨h0, h3, h5, rfl, rfl, hall⟩ IH
            refine Runs.seq ?_
            refine Runs.seqE Ty_ok (by decide) fun k' hk' => ?_
            simp [h3, h5, hm3']   -- R6
            refine hk' _ _ _ ?_
            refine Runs.ite rfl (fun hc2 => ?_) (fun hc2 => ?_)   -- t55
            · have hc2 : k < b.nodes.length := by simpa using hc2
              refine Runs.skip ?_
              refine Runs.seq ?_
              refine Runs.block ?_
              refine Runs.seqE Ty_ok (by decide) fun k' hk' => ?_
              simp [h0, h3, h5, hm3']   -- R8
              refine RunK.callA Ty_ok (l2Node_ok sig b hs k hc2 hr hed (ctl_all hall)) e131 (.cons (ArgOk.encSig false sig) (.cons (ArgOk.encB false b) (.cons (.v _ _ _) .nil))) (by decide) (by decide) rfl (by simp [h0, h5, encSig, encB, Big.cells, encN, encI, encS, encW]) ?_
              rintro _ rfl
              simp
              refine hk' _ _ _ ?_
              refine Runs.ite rfl (fun hc3 => ?_) (fun hc3 => ?_)   -- t62
              · have hb3 : okNodeB sig b k = false := by simpa using hc3
                refine Runs.seqE Ty_ok (by decide) fun k' hk' => ?_
                simp   -- R9
                refine hk' _ _ _ ?_
                exact Runs.ret Tryd.func66 (RetOk.one Tryd.results66) (no (by rw [goodB_eq, all_range_bad hc2 hb3, Bool.and_false]; rfl) _ _)
              · have hb3 : okNodeB sig b k = true := by simpa using hc3
                refine Runs.skip ?_
                refine Runs.inBlock ?_
                refine Runs.evalE Ty_ok (by decide) fun k' hk' => ?_
                simp [h5, wrap_succ (show k < 4611686018427387904 by omega)]   -- R7
                refine hk' _ _ _ ?_
                refine IH hc2 _ _ _ ⟨by simp [h0], by simp [h3], by simp, rfl, rfl, fun i hi => ?_⟩
                rcases Nat.lt_or_ge i k with h | h
                · exact hall i h
                · rw [show i = k by omega]; exact hb3
            · have hc2 : ¬ k < b.nodes.length := by simpa using hc2
              have hke : k = b.nodes.length := by omega
              subst hke
              have hnodes := all_range_end hall
              have hctl := ctl_all hall
              refine Runs.exit rfl ?_
              refine Runs.seq ?_
              refine Runs.seqE Ty_ok (by decide) fun k' hk' => ?_
              simp   -- R10
              refine hk' _ _ _ ?_
              clear IH hall h5
              refine Runs.block (Runs.loopUp b.sites.length (fun k ρ' H2 n2 => ρ' 0 = .list false (sig.map Control.cells) ∧ ρ' 3 = .ptr (0, 3) 1 0 0 ∧ ρ' 6 = int k ∧ H2 = H' ∧ n2 = n' ∧ ∀ i (hi : i < b.sites.length), i < k → okParent sig b b.sites[i] b.nodes.length = true) ?_ ?_)
              · exact ⟨by simp [h0], by simp [h3], by simp, rfl, rfl, fun i hi h => by omega⟩
              · clear h0 h3
                rintro k ρ H2 n2 hk2 ⟨h0, h3, h6, rfl, rfl, hall⟩ IH
                refine Runs.seq ?_
                refine Runs.seqE Ty_ok (by decide) fun k' hk' => ?_
                simp [h3, h6, hm3']   -- R11
                refine hk' _ _ _ ?_
                refine Runs.ite rfl (fun hc4 => ?_) (fun hc4 => ?_)   -- t67
                · have hc4 : k < b.sites.length := by simpa using hc4
                  refine Runs.skip ?_
                  refine Runs.seq ?_
                  refine Runs.block ?_
                  refine Runs.seqD Ty_ok kindOp_ok draws (by decide) (by kernel_rfl) fun k' hk' => ?_
                  simp [h0, h3, h6, hm3', hc4, intC]   -- R13
                  refine RunDK.callA Ty_ok kindOp_ok (l2Under_ok sig b b.sites[k] b.nodes.length (s11 _ (List.getElem_mem hc4)) hr (Nat.le_refl _) hctl) e132 (.cons (ArgOk.encSig false sig) (.cons (ArgOk.encB false b) (.cons (.v _ _ _) (.cons (.v _ _ _) .nil)))) (by decide) rfl (by simp [h0, encSig, encB, Big.cells, encN, encI, encS, encW, intC]) ?_
                  simp
                  refine hk' _ _ _ ?_
                  refine Runs.ite rfl (fun hc5 => ?_) (fun hc5 => ?_)   -- t81
                  · have hb3 : okParent sig b b.sites[k] b.nodes.length = false := by simpa using hc5
                    refine Runs.seqE Ty_ok (by decide) fun k' hk' => ?_
                    simp   -- R14
                    refine hk' _ _ _ ?_
                    exact Runs.ret Tryd.func66 (RetOk.one Tryd.results66) (no (by rw [goodB_eq, all_bad hc4 hb3, Bool.and_false]; rfl) _ _)
                  · have hb3 : okParent sig b b.sites[k] b.nodes.length = true := by simpa using hc5
                    refine Runs.skip ?_
                    refine Runs.inBlock ?_
                    refine Runs.evalE Ty_ok (by decide) fun k' hk' => ?_
                    simp [h6, wrap_succ (show k < 4611686018427387904 by omega)]   -- R12
                    refine hk' _ _ _ ?_
                    refine IH hc4 _ _ _ ⟨by simp [h0], by simp [h3], by simp, rfl, rfl, fun i hi hij => ?_⟩
                    rcases Nat.lt_or_ge i k with h | h
                    · exact hall i hi h
                    · have : i = k := by omega
                      subst this
                      exact hb3
                · have hc4 : ¬ k < b.sites.length := by simpa using hc4
                  have hke : k = b.sites.length := by omega
                  subst hke
                  have hsites := all_end (l := b.sites) (p := fun p => okParent sig b p b.nodes.length) fun i hi => hall i hi hi
                  refine Runs.exit rfl ?_
                  refine Runs.seq ?_
                  refine Runs.seqE Ty_ok (by decide) fun k' hk' => ?_
                  simp   -- R15
                  refine hk' _ _ _ ?_
                  clear IH hall h6
                  refine Runs.block (Runs.loopUp b.inner.length (fun k ρ' H3 n3 => ρ' 3 = .ptr (0, 3) 1 0 0 ∧ ρ' 7 = int k ∧ H3 = H2 ∧ n3 = n2 ∧ ∀ i (hi : i < b.inner.length), i < k → okLink b b.inner[i].link = true) ?_ ?_)
                  · exact ⟨by simp [h3], by simp, rfl, rfl, fun i hi h => by omega⟩
                  · clear h0 h3
                    rintro k ρ H3 n3 hk3 ⟨h3, h7, rfl, rfl, hall⟩ IH
                    refine Runs.seq ?_
                    refine Runs.seqE Ty_ok (by decide) fun k' hk' => ?_
                    simp [h3, h7, hm3']   -- R16
                    refine hk' _ _ _ ?_
                    refine Runs.ite rfl (fun hc6 => ?_) (fun hc6 => ?_)   -- t86
                    · have hc6 : k < b.inner.length := by simpa using hc6
                      refine Runs.skip ?_
                      refine Runs.seq ?_
                      refine Runs.block ?_
                      refine Runs.seqD Ty_ok kindOp_ok draws (by decide) (by kernel_rfl) fun k' hk' => ?_
                      simp [h3, h7, hm3', hc6, Wire.cells]   -- R18
                      refine RunDK.callA Ty_ok kindOp_ok (l2Link_ok b b.inner[k].link hed s5) e133 (.cons (ArgOk.encB false b) (.cons (.v _ _ _) .nil)) (by decide) rfl (by simp [encB, Big.cells, encN, encI, encS, encW, Wire.cells]) ?_
                      simp
                      refine hk' _ _ _ ?_
                      refine Runs.ite rfl (fun hc7 => ?_) (fun hc7 => ?_)   -- t97
                      · have hb3 : okLink b b.inner[k].link = false := by simpa using hc7
                        refine Runs.seqE Ty_ok (by decide) fun k' hk' => ?_
                        simp   -- R19
                        refine hk' _ _ _ ?_
                        exact Runs.ret Tryd.func66 (RetOk.one Tryd.results66) (no (by rw [goodB_eq, all_bad (l := b.inner) (p := fun w => okLink b w.link) hc6 hb3, Bool.and_false]) _ _)
                      · have hb3 : okLink b b.inner[k].link = true := by simpa using hc7
                        refine Runs.skip ?_
                        refine Runs.inBlock ?_
                        refine Runs.evalE Ty_ok (by decide) fun k' hk' => ?_
                        simp [h7, wrap_succ (show k < 4611686018427387904 by omega)]   -- R17
                        refine hk' _ _ _ ?_
                        refine IH hc6 _ _ _ ⟨by simp [h3], by simp, rfl, rfl, fun i hi hij => ?_⟩
                        rcases Nat.lt_or_ge i k with h | h
                        · exact hall i hi h
                        · have : i = k := by omega
                          subst this
                          exact hb3
                    · have hc6 : ¬ k < b.inner.length := by simpa using hc6
                      have hke : k = b.inner.length := by omega
                      subst hke
                      have hinner := all_end (l := b.inner) (p := fun w => okLink b w.link) fun i hi => hall i hi hi
                      refine Runs.exit rfl ?_
                      refine Runs.seqE Ty_ok (by decide) fun k' hk' => ?_
                      simp   -- R20
                      refine hk' _ _ _ ?_
                      exact Runs.ret Tryd.func66 (RetOk.one Tryd.results66) (hQ _ _ _ _ (.v _ _ _) (by rw [goodB_eq, hpre, hnodes, hsites, hinner]; rfl))
      simp [h3, hm3']   -- R3
      refine RunK.callA Ty_ok (l2Names_ok b.outer s5 s7) e129 (.cons (ArgOk.encS false b.outer) .nil) (by decide) (by decide) rfl (by simp [encS]) ?_
      rintro _ rfl
      cases p6 : goodNames b.outer
      · simp [guardOf]
        exact fin2 _ (by simp [h0]) (by simp [h3]) (by simp only [pre2, p6]; simp)
      by_cases p7 : (16 : Int) < b.inner.length
      · simp [h3, hm3', p7, guardOf]
        refine fin2 _ (by simp [h0]) (by simp [h3]) ?_
        have : goodNames (names b) = false := by
          rw [goodNames_eq, show decide ((names b).length ≤ 16) = false by simp [names]; omega, Bool.false_and]
        simp only [pre2, this]
        simp
      simp [h3, hm3', p7, guardOf]
      refine RunK.callA Ty_ok (l2Inner_ok b s6) e130 (.cons (ArgOk.encB false b) .nil) (by decide) (by decide) rfl (by simp [encB, Big.cells, encN, encI, encS, encW]) ?_
      rintro _ rfl
      simp
      refine RunK.callA Ty_ok (l2Names_ok (names b) hnl hnn) e129 (.cons (ArgOk.encS true (names b)) .nil) (by decide) (by decide) rfl (by simp [encS]) ?_
      rintro _ rfl
      simp
      exact fin2 _ (by simp [h0]) (by simp [h3]) (by simp only [pre2, p6]; simp)
  simp [h0]   -- R1
  refine RunK.callA Ty_ok (l2Sig_ok sig s1 s2) e128 (.cons (ArgOk.encSig false sig) .nil) (by decide) (by decide) rfl (by simp [encSig, h0]) ?_
  rintro _ rfl
  cases p1 : goodSig sig
  · simp [guardOf]
    exact fin _ (by simp [h0]) (by simp [h3]) (by simp only [pre1, p1]; simp)
  simp [h3, hm3', guardOf]
  refine RunK.callA Ty_ok (l1In_ok b.roots 0 4) e104 (.cons (.v _ _ _) (.cons (.v _ _ _) (.cons (.v _ _ _) .nil))) (by decide) (by decide) rfl (by simp) ?_
  rintro _ rfl
  cases p2 : within b.roots 0 4
  · simp [guardOf]
    exact fin _ (by simp [h0]) (by simp [h3]) (by simp only [pre1, p2]; simp)
  by_cases p3 : (8 : Int) < b.nodes.length
  · simp [h3, hm3', p3, guardOf]
    exact fin _ (by simp [h0]) (by simp [h3]) (by simp only [pre1, show ¬ b.nodes.length ≤ 8 by omega]; simp)
  by_cases p4 : (4 : Int) < b.sites.length
  · simp [h3, hm3', p3, p4, guardOf]
    exact fin _ (by simp [h0]) (by simp [h3]) (by simp only [pre1, show ¬ b.sites.length ≤ 4 by omega]; simp)
  simp [h3, hm3', p3, p4, guardOf]
  refine RunK.callA Ty_ok (l1In_ok b.edges 0 8) e104 (.cons (.v _ _ _) (.cons (.v _ _ _) (.cons (.v _ _ _) .nil))) (by decide) (by decide) rfl (by simp) ?_
  rintro _ rfl
  simp
  exact fin _ (by simp [h0]) (by simp [h3]) (by simp only [pre1, p1, p2, show b.nodes.length ≤ 8 by omega, show b.sites.length ≤ 4 by omega]; simp)
end Go.Ab

/- Contracts of impl.ancestorsOf, spec.l2Above, slices.Index, slices.Contains and spec.l1Has. -/
namespace Go.Ab
open Go.Proofs
set_option linter.unusedSimpArgs false
theorem e64 : Ent Tryd.prog 64 := Ent.of Tryd.func64 (by kernel_rfl) rfl
theorem e68 : Ent Tryd.prog 68 := Ent.of Tryd.func68 (by kernel_rfl) rfl
theorem e127 : Ent Tryd.prog 127 := Ent.of Tryd.func127 (by kernel_rfl) rfl
theorem e65 : Ent Tryd.prog 65 := Ent.of Tryd.func65 (by kernel_rfl) rfl
theorem e69 : Ent Tryd.prog 69 := Ent.of Tryd.func69 (by kernel_rfl) rfl

def parentB (b : Big) (i : Nat) : Int := (b.nodes.getD i default).parent
def aboveF (b : Big) : Nat → Int → List Int
  | 0, _ => []
  | d + 1, node => if node < 0 then [] else parentB b node.toNat :: aboveF b d (parentB b node.toNat)
def above (b : Big) (node : Int) : List Int := aboveF b (b.nodes.length + 1) node
/-- Parents come first. -/
def Down (b : Big) : Prop := b.nodes.length ≤ 8 ∧ ∀ i, i < b.nodes.length → parentB b i < i

theorem goodB_down {sig : Sig} {b : Big} (h : goodB sig b = true) : Down b := by
  rw [goodB_eq] at h
  simp only [goodPre, Bool.and_eq_true, List.all_eq_true, List.mem_range, decide_eq_true_eq] at h
  obtain ⟨⟨⟨hp, hn⟩, _⟩, _⟩ := h
  refine ⟨by have := hp.1.1.1.1.2; exact this, fun i hi => ?_⟩
  have := hn i hi
  simp only [okNodeB, okParent, Bool.and_eq_true] at this
  have h2 := this.1.1.2
  unfold parentB
  split at h2
  · omega
  · simp only [Bool.and_eq_true, decide_eq_true_eq] at h2
    exact h2.1

theorem aboveF_len (b : Big) : ∀ d node, (aboveF b d node).length ≤ d
  | 0, _ => by simp [aboveF]
  | d + 1, node => by
    rw [aboveF]
    split
    · simp
    · have := aboveF_len b d (parentB b node.toNat)
      simp
      omega

theorem ancestorsOf_ok {b : Big} (hd : Down b) (node : Int) (hn : node < b.nodes.length) : OwnC Tryd.prog 64 [encB false b, int node] 1 (fun r => r = encI true (above b node)) := by
  obtain ⟨hd8, hd⟩ := hd
  refine OwnC.of Tryd.func64 rfl Tryd.ntmps64 (by simp) fun Q hQ => ?_
  refine Runs.seqE Ty_ok (by decide) fun k' hk' => ?_
  simp [encB, Big.cells]   -- R0
  refine hk' _ _ _ ?_
  refine Runs.seqE Ty_ok (by decide) fun k' hk' => ?_
  simp   -- R1
  refine hk' _ _ _ ?_
  refine Runs.seq ?_
  refine Runs.block (Runs.loopM (fun m ρ H n => ρ 2 = .ptr (0, 2) 1 0 0 ∧ H (0, 2) = some ⟨6, [b.cells false]⟩ ∧ ∃ (cur : Int) (acc : List Int), ρ 1 = int cur ∧ cur + 1 ≤ m ∧ cur < b.nodes.length ∧ acc ++ aboveF b m cur = above b node ∧ acc.length + m ≤ b.nodes.length + 1 ∧
    ρ 5 = .arr (1, 6) acc.length 0 acc.length ∧ H (1, 6) = some ⟨1, acc.map intC⟩) (b.nodes.length + 1) ?_ ?_)
  · exact ⟨by simp, by simp [Big.cells], node, [], by simp, by omega, hn, by simp [above], by simp, by simp, by simp⟩
  · rintro m ρ H n ⟨h2, hm2, cur, acc, h1, hcm, hcl, htot, hal, h5, hm6⟩ IH
    have hm2' := hm2
    simp only [Big.cells, encN] at hm2'
    refine Runs.seq ?_
    refine Runs.seqE Ty_ok (by decide) fun k' hk' => ?_
    simp [h1]   -- R2
    refine hk' _ _ _ ?_
    refine Runs.ite rfl (fun hc1 => ?_) (fun hc1 => ?_)   -- t8
    · have hc1 : 0 ≤ cur := by simpa using hc1
      obtain ⟨q, rfl⟩ : ∃ q : Nat, cur = q := ⟨cur.toNat, by omega⟩
      have hq : q < b.nodes.length := by omega
      obtain ⟨m', rfl⟩ : ∃ m', m = m' + 1 := ⟨m - 1, by omega⟩
      have hpd := hd q hq
      have hpq : parentB b q = b.nodes[q].parent := by simp [parentB, hq]
      refine Runs.skip ?_
      refine Runs.block ?_
      refine Runs.seqE Ty_ok (by decide) fun k' hk' => ?_
      simp [h1, h2, hm2', hq, GNode.cells]   -- R3
      refine hk' _ _ _ ?_
      refine Runs.evalE Ty_ok (by decide) fun k' hk' => ?_
      have hlen : (acc.map intC).length = acc.length := by simp
      generalize hels : acc.map intC = els at hm6 hlen
      simp [h5, hm6, hlen, live, show acc.length ≤ 1073741823 by omega]   -- R4
      refine hk' _ _ _ ?_
      refine Runs.inBlock ?_
      refine IH m' _ _ _ (by omega) ⟨by simp [h2], by simp [hm2], b.nodes[q].parent, acc ++ [b.nodes[q].parent], by simp, by omega, by omega, ?_, by simp; omega, by simp, by simp [← hels, intC]⟩
      rw [← htot, aboveF, if_neg (by omega), Int.toNat_natCast, hpq]
      simp
    · have hc1 : cur < 0 := by
        have : ¬ 0 ≤ cur := by simpa using hc1
        omega
      have hacc : acc = above b node := by
        rw [← htot]
        cases m with
        | zero => simp [aboveF]
        | succ m => rw [aboveF, if_pos hc1]; simp
      refine Runs.exit rfl ?_
      refine Runs.seqE Ty_ok (by decide) fun k' hk' => ?_
      simp [h5]   -- R5
      refine hk' _ _ _ ?_
      rw [hacc] at hm6
      refine Runs.ret Tryd.func64 (RetOk.one Tryd.results64) (hQ _ _ _ _ [(1, 6)] ?_ rfl)
      simp only [Env.put]
      simp [hacc, encI]
      exact Own.arrF hm6 (by simp) (ints_flat _)

theorem l2Above_ok {b : Big} (hd : Down b) (node : Int) (hn : node < b.nodes.length) : OwnC Tryd.prog 68 [encB false b, int node] 1 (fun r => r = encI true (above b node)) := by
  obtain ⟨hd8, hd⟩ := hd
  refine OwnC.of Tryd.func68 rfl Tryd.ntmps68 (by simp) fun Q hQ => ?_
  refine Runs.seqE Ty_ok (by decide) fun k' hk' => ?_
  simp [encB, Big.cells]   -- R0
  refine hk' _ _ _ ?_
  refine Runs.seqE Ty_ok (by decide) fun k' hk' => ?_
  simp   -- R1
  refine hk' _ _ _ ?_
  refine Runs.seq ?_
  refine Runs.block (Runs.loopM (fun m ρ H n => ρ 2 = .ptr (0, 2) 1 0 0 ∧ H (0, 2) = some ⟨6, [b.cells false]⟩ ∧ ∃ (cur : Int) (acc : List Int), ρ 1 = int cur ∧ cur + 1 ≤ m ∧ cur < b.nodes.length ∧ acc ++ aboveF b m cur = above b node ∧ acc.length + m ≤ b.nodes.length + 1 ∧
    ρ 5 = .arr (1, 6) acc.length 0 acc.length ∧ H (1, 6) = some ⟨1, acc.map intC⟩) (b.nodes.length + 1) ?_ ?_)
  · exact ⟨by simp, by simp [Big.cells], node, [], by simp, by omega, hn, by simp [above], by simp, by simp, by simp⟩
  · rintro m ρ H n ⟨h2, hm2, cur, acc, h1, hcm, hcl, htot, hal, h5, hm6⟩ IH
    have hm2' := hm2
    simp only [Big.cells, encN] at hm2'
    refine Runs.seq ?_
    refine Runs.seqE Ty_ok (by decide) fun k' hk' => ?_
    simp [h1]   -- R2
    refine hk' _ _ _ ?_
    refine Runs.ite rfl (fun hc1 => ?_) (fun hc1 => ?_)   -- t8
    · have hc1 : 0 ≤ cur := by simpa using hc1
      obtain ⟨q, rfl⟩ : ∃ q : Nat, cur = q := ⟨cur.toNat, by omega⟩
      have hq : q < b.nodes.length := by omega
      obtain ⟨m', rfl⟩ : ∃ m', m = m' + 1 := ⟨m - 1, by omega⟩
      have hpd := hd q hq
      have hpq : parentB b q = b.nodes[q].parent := by simp [parentB, hq]
      refine Runs.skip ?_
      refine Runs.block ?_
      refine Runs.seqE Ty_ok (by decide) fun k' hk' => ?_
      simp [h1, h2, hm2', hq, GNode.cells]   -- R3
      refine hk' _ _ _ ?_
      refine Runs.evalE Ty_ok (by decide) fun k' hk' => ?_
      have hlen : (acc.map intC).length = acc.length := by simp
      generalize hels : acc.map intC = els at hm6 hlen
      simp [h5, hm6, hlen, live, show acc.length ≤ 1073741823 by omega]   -- R4
      refine hk' _ _ _ ?_
      refine Runs.inBlock ?_
      refine IH m' _ _ _ (by omega) ⟨by simp [h2], by simp [hm2], b.nodes[q].parent, acc ++ [b.nodes[q].parent], by simp, by omega, by omega, ?_, by simp; omega, by simp, by simp [← hels, intC]⟩
      rw [← htot, aboveF, if_neg (by omega), Int.toNat_natCast, hpq]
      simp
    · have hc1 : cur < 0 := by
        have : ¬ 0 ≤ cur := by simpa using hc1
        omega
      have hacc : acc = above b node := by
        rw [← htot]
        cases m with
        | zero => simp [aboveF]
        | succ m => rw [aboveF, if_pos hc1]; simp
      refine Runs.exit rfl ?_
      refine Runs.seqE Ty_ok (by decide) fun k' hk' => ?_
      simp [h5]   -- R5
      refine hk' _ _ _ ?_
      rw [hacc] at hm6
      refine Runs.ret Tryd.func68 (RetOk.one Tryd.results68) (hQ _ _ _ _ [(1, 6)] ?_ rfl)
      simp only [Env.put]
      simp [hacc, encI]
      exact Own.arrF hm6 (by simp) (ints_flat _)

theorem index_ok (t : Bool) (l : List Int) (x : Int) (hl : l.length ≤ 1048576) : PureC Tryd.prog 127 [encI t l, int x] (fun r => r = int (idxF l (fun y => x == y))) := by
  refine PureC.of Tryd.func127 rfl Tryd.ntmps127 (by simp) fun Q hQ => ?_
  refine Runs.seqE Ty_ok (by decide) fun k' hk' => ?_
  simp [encI]   -- R0
  refine hk' _ _ _ ?_
  refine Runs.seq ?_
  refine Runs.seqE Ty_ok (by decide) fun k' hk' => ?_
  simp   -- R1
  refine hk' _ _ _ ?_
  refine Runs.block (Runs.loopUp l.length (fun k ρ H' n' => ρ 0 = .list t (l.map intC) ∧ ρ 1 = int x ∧ ρ 7 = int l.length ∧ ρ 8 = int k ∧ ∀ i (h : i < l.length), i < k → (x == l[i]) = false) ?_ ?_)
  · simp
  · rintro k ρ H' n' hk ⟨h0, h1, h7, h8, hno⟩ IH
    refine Runs.seqE Ty_ok (by decide) fun k' hk' => ?_
    simp [h7, h8]   -- R2
    refine hk' _ _ _ ?_
    refine Runs.seq ?_
    refine Runs.ite rfl (fun hc1 => ?_) (fun hc1 => ?_)   -- t9
    · have hc1 : k < l.length := by simpa using hc1
      refine Runs.skip ?_
      refine Runs.seq ?_
      refine Runs.block ?_
      refine Runs.seqE Ty_ok (by decide) fun k' hk' => ?_
      simp [h8]   -- R3
      refine hk' _ _ _ ?_
      refine Runs.seqE Ty_ok (by decide) fun k' hk' => ?_
      simp [h0, h1, hc1, intC]   -- R4
      refine hk' _ _ _ ?_
      refine Runs.ite rfl (fun hc2 => ?_) (fun hc2 => ?_)   -- t16
      · have hc2 : (x == l[k]) = true := by simpa using hc2
        refine Runs.seqE Ty_ok (by decide) fun k' hk' => ?_
        simp   -- R5
        refine hk' _ _ _ ?_
        refine Runs.ret Tryd.func127 (RetOk.one Tryd.results127) (hQ _ _ _ _ (.v _ _ _) ?_)
        simp [idxF_at (p := fun y => x == y) hc1 hc2 hno]
      · have hc2 : (x == l[k]) = false := by simpa using hc2
        refine Runs.skip ?_
        refine Runs.inBlock ?_
        refine Runs.evalE Ty_ok (by decide) fun k' hk' => ?_
        simp [h8, wrap_succ (show k < 4611686018427387904 by omega)]   -- R6
        refine hk' _ _ _ ?_
        refine IH hc1 _ _ _ ⟨by simp [h0, intC], by simp [h1], by simp [h7], by simp, fun i h hi => ?_⟩
        rcases Nat.lt_or_ge i k with hik | hik
        · exact hno i h hik
        · have : i = k := by omega
          subst this
          exact hc2
    · have hc1 : ¬ k < l.length := by simpa using hc1
      have hke : k = l.length := by omega
      subst hke
      refine Runs.exit rfl ?_
      refine Runs.seqE Ty_ok (by decide) fun k' hk' => ?_
      simp   -- R7
      refine hk' _ _ _ ?_
      refine Runs.ret Tryd.func127 (RetOk.one Tryd.results127) (hQ _ _ _ _ (.v _ _ _) ?_)
      simp [idxF_no (p := fun y => x == y) fun i h => hno i h h]

theorem contains_ok (l : List Int) (x : Int) (hl : l.length ≤ 1048576) : PureC Tryd.prog 65 [encI false l, int x] (fun r => r = bool (l.any (fun y => x == y))) := by
  refine PureC.of Tryd.func65 rfl Tryd.ntmps65 (by simp) fun Q hQ => ?_
  refine Runs.seqE Ty_ok (by decide) fun k' hk' => ?_
  simp [encI]   -- R0
  refine hk' _ _ _ ?_
  refine Runs.seqE Ty_ok (by decide) fun k' hk' => ?_
  simp   -- R1
  refine RunK.callA Ty_ok (index_ok false l x hl) e127 (.cons (ArgOk.encI false l) (.cons (.v _ _ _) .nil)) (by decide) (by decide) rfl (by simp [encI]) ?_
  rintro _ rfl
  simp
  refine hk' _ _ _ ?_
  refine Runs.ret Tryd.func65 (RetOk.one Tryd.results65) (hQ _ _ _ _ (.v _ _ _) ?_)
  have := idxF_any l (fun y => x == y)
  simp only [Env.put]
  simp [this]

theorem l1Has_ok (l : List Int) (x : Int) (hl : l.length ≤ 1048576) : PureC Tryd.prog 69 [encI false l, int x] (fun r => r = bool (l.any (fun y => x == y))) := by
  refine PureC.of Tryd.func69 rfl Tryd.ntmps69 (by simp) fun Q hQ => ?_
  refine Runs.seqE Ty_ok (by decide) fun k' hk' => ?_
  simp [encI]   -- R0
  refine hk' _ _ _ ?_
  refine Runs.seq ?_
  refine Runs.seqE Ty_ok (by decide) fun k' hk' => ?_
  simp   -- R1
  refine hk' _ _ _ ?_
  refine Runs.block (Runs.loopUp l.length (fun k ρ H' n' => ρ 0 = .list false (l.map intC) ∧ ρ 1 = int x ∧ ρ 5 = int k ∧ ∀ i (h : i < l.length), i < k → ¬ l[i] = x) ?_ ?_)
  · simp
  · rintro k ρ H' n' hk ⟨h0, h1, h5, hno⟩ IH
    refine Runs.seq ?_
    refine Runs.seqE Ty_ok (by decide) fun k' hk' => ?_
    simp [h0, h5]   -- R2
    refine hk' _ _ _ ?_
    refine Runs.ite rfl (fun hc1 => ?_) (fun hc1 => ?_)   -- t9
    · have hc1 : k < l.length := by simpa using hc1
      refine Runs.skip ?_
      refine Runs.seq ?_
      refine Runs.block ?_
      refine Runs.seqE Ty_ok (by decide) fun k' hk' => ?_
      simp [h0, h1, h5, hc1, intC]   -- R4
      refine hk' _ _ _ ?_
      refine Runs.ite rfl (fun hc2 => ?_) (fun hc2 => ?_)   -- t17
      · have hc2 : l[k] = x := by simpa using hc2
        refine Runs.seqE Ty_ok (by decide) fun k' hk' => ?_
        simp   -- R5
        refine hk' _ _ _ ?_
        refine Runs.ret Tryd.func69 (RetOk.one Tryd.results69) (hQ _ _ _ _ (.v _ _ _) ?_)
        have : l.any (fun y => x == y) = true := by
          rw [List.any_eq_true]
          exact ⟨l[k], List.getElem_mem hc1, by simp [hc2]⟩
        rw [this]
        try rfl
      · have hc2 : ¬ l[k] = x := by simpa using hc2
        refine Runs.skip ?_
        refine Runs.inBlock ?_
        refine Runs.evalE Ty_ok (by decide) fun k' hk' => ?_
        simp [h5, wrap_succ (show k < 4611686018427387904 by omega)]   -- R3
        refine hk' _ _ _ ?_
        refine IH hc1 _ _ _ ⟨by simp [h0, intC], by simp [h1], by simp, fun i h hi => ?_⟩
        rcases Nat.lt_or_ge i k with hik | hik
        · exact hno i h hik
        · have : i = k := by omega
          subst this
          exact hc2
    · have hc1 : ¬ k < l.length := by simpa using hc1
      have hke : k = l.length := by omega
      subst hke
      refine Runs.exit rfl ?_
      refine Runs.seqE Ty_ok (by decide) fun k' hk' => ?_
      simp   -- R6
      refine hk' _ _ _ ?_
      refine Runs.ret Tryd.func69 (RetOk.one Tryd.results69) (hQ _ _ _ _ (.v _ _ _) ?_)
      have : l.any (fun y => x == y) = false := by
        rw [List.any_eq_false]
        intro y hy
        obtain ⟨i, hi, rfl⟩ := List.getElem_of_mem hy
        have := hno i hi hi
        simpa using fun h => this h.symm
      rw [this]
      try rfl
end Go.Ab
