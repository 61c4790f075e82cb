/- Contracts of impl.joinTexts and (impl.Proc).textIn, at valid processes. -/
import Derived.Test.YtgmjebjcomckaaaDoorAbP
import Derived.Test.YtgmjebjcomckaaaDoorAbS
namespace Go.Ab
open Go.Proofs
set_option linter.unusedSimpArgs false
theorem e50 : Ent Tryd.prog 50 := Ent.of Tryd.func50 (by kernel_rfl) rfl
theorem e110 : Ent Tryd.prog 110 := Ent.of Tryd.func110 (by kernel_rfl) rfl
theorem e111 : Ent Tryd.prog 111 := Ent.of Tryd.func111 (by kernel_rfl) rfl
theorem e112 : Ent Tryd.prog 112 := Ent.of Tryd.func112 (by kernel_rfl) rfl
theorem e145 : Ent Tryd.prog 145 := Ent.of Tryd.func145 (by kernel_rfl) rfl
theorem e147 : Ent Tryd.prog 147 := Ent.of Tryd.func147 (by kernel_rfl) rfl

def joinTexts (l : List Str) : Str := if l = [] then [48] else Lib.join l [124]

theorem joinTexts_ok (l : List Str) (hl : l.length ≤ 1073741824) (hj : (Lib.join l [124]).length ≤ 140737488355328) : PureC Tryd.prog 112 [encStrs false l] (fun r => r = str (joinTexts l)) := by
  refine PureC.of Tryd.func112 rfl Tryd.ntmps112 (by simp) fun Q hQ => ?_
  refine Runs.seqE Ty_ok (by decide) fun k' hk' => ?_
  simp
  refine hk' _ _ _ (Runs.seq (Runs.seqE Ty_ok (by decide) fun k' hk' => ?_))
  simp [encStrs]
  refine hk' _ _ _ (Runs.ite rfl (fun h => ?_) (fun h => ?_))
  · simp at h
    refine Runs.seqE Ty_ok (by decide) fun k' hk' => ?_
    simp
    refine hk' _ _ _ (Runs.ret Tryd.func112 (RetOk.one Tryd.results112) (hQ _ _ _ _ (.v _ _ _) ?_))
    simp [joinTexts, h]
  · simp at h
    refine Runs.skip (Runs.seqE Ty_ok (by decide) fun k' hk' => ?_)
    simp [encStrs]
    refine RunK.callA Ty_ok (join_ok l [124] (by omega) hj) e147 (.cons (.listF (fr := false) (by simp)) (.cons (.v _ _ _) .nil)) (by decide) (by decide) rfl (by simp) ?_
    rintro _ rfl
    simp
    refine hk' _ _ _ (Runs.ret Tryd.func112 (RetOk.one Tryd.results112) (hQ _ _ _ _ (.v _ _ _) ?_))
    simp [joinTexts, h]

def textIn (p : Proc) : Nat → Int → Str
  | 0, _ => []
  | d + 1, parent => joinTexts ((kidsFrom p parent p.length).map fun k => nodeText (p.getD k default) (textIn p d k))

structure Valid (p : Proc) : Prop where
  len : p.length ≤ 8
  kind : ∀ i, i < p.length → 0 ≤ (p.getD i default).kind ∧ (p.getD i default).kind ≤ 3
  name : ∀ i, i < p.length → (p.getD i default).name.length ≤ 4
  up : ∀ i, i < p.length → -1 ≤ (p.getD i default).parent ∧ (p.getD i default).parent < i

theorem nodeText_len (x : AmbNode) (s : Str) (hn : x.name.length ≤ 4) : (nodeText x s).length ≤ s.length + 12 := by
  have := word_len (x.kind - 1).toNat
  unfold nodeText
  split <;> simp only [List.length_append, List.length_cons, List.length_nil] <;> omega

theorem join_len (l : List Str) (sep : Str) (B : Nat) (h : ∀ s ∈ l, s.length ≤ B) : (Lib.join l sep).length ≤ l.length * (B + sep.length) := by
  induction l with
  | nil => simp [Lib.join]
  | cons a l ih =>
    have h1 := h a (by simp)
    have h2 := ih fun s hs => h s (by simp [hs])
    have h3 : (Lib.join (a :: l) sep).length ≤ a.length + sep.length + (Lib.join l sep).length := by
      cases l with
      | nil => simp [Lib.join]
      | cons b l => simp [Lib.join, List.intercalate]; omega
    have : (a :: l).length * (B + sep.length) = l.length * (B + sep.length) + (B + sep.length) := by rw [List.length_cons, Nat.add_mul, Nat.one_mul]
    omega

theorem kids_mem {p : Proc} {parent : Int} {n k : Nat} (h : k ∈ kidsFrom p parent n) : k < n ∧ (p.getD k default).parent = parent := by
  simp only [kidsFrom, List.mem_filter, List.mem_range, beq_iff_eq] at h
  exact h

theorem textIn_len {p : Proc} (hp : Valid p) : ∀ (d : Nat) (parent : Int), (textIn p d parent).length + 15 ≤ 16 * 8 ^ d
  | 0, _ => by simp [textIn]
  | d + 1, parent => by
    simp only [textIn]
    unfold joinTexts
    have h8 : 8 ^ (d + 1) = 8 * 8 ^ d := by rw [Nat.pow_succ, Nat.mul_comm]
    have h1 : 0 < 8 ^ d := Nat.pos_of_ne_zero (by simp)
    split
    · simp; omega
    · have := join_len ((kidsFrom p parent p.length).map fun k => nodeText (p.getD k default) (textIn p d k)) [124] (16 * 8 ^ d - 15 + 12) (fun s hs => by
        simp only [List.mem_map] at hs
        obtain ⟨k, hk, rfl⟩ := hs
        have h1 := nodeText_len (p.getD k default) (textIn p d k) (hp.name k (kids_mem hk).1)
        have h2 := textIn_len hp d k
        omega)
      have hl := kids_len p parent p.length
      have h9 := hp.len
      simp only [List.length_map, List.length_singleton] at this
      have hm : (kidsFrom p parent p.length).length * (16 * 8 ^ d - 15 + 12 + 1) ≤ 8 * (16 * 8 ^ d - 15 + 12 + 1) := Nat.mul_le_mul_right _ (by omega)
      omega

theorem old_encP (t : Bool) (p : Proc) : old (encP t p) = encP false p := by
  simp [encP, old_agg, old_list, AmbNode.cells, old_v]
theorem imm_encP (t : Bool) (p : Proc) : Imm (encP t p) := by
  simp [encP, AmbNode.cells]
theorem ArgOk.encP {H : Heap} {n : Nat} (t : Bool) (p : Proc) : ArgOk H n (encP t p) (encP false p) := ArgOk.imm' (imm_encP t p) (old_encP t p)
theorem ArgOk.node {H : Heap} {n : Nat} (x : AmbNode) : ArgOk H n (.agg x.cells) (.agg x.cells) := ArgOk.aggF (by simp [AmbNode.cells])

theorem textIn_ok {p : Proc} (hp : Valid p) : ∀ (d : Nat) (parent : Int), -1 ≤ parent → parent < p.length → (p.length : Int) - parent ≤ d → d ≤ 9 →
    PureC Tryd.prog 50 [encP false p, int parent] (fun r => r = str (textIn p d parent))
  | 0, parent, _, h1, h2, _ => by omega
  | d + 1, parent, h0, h1, h2, hd => by
    have hp8 := hp.len
    refine PureC.of Tryd.func50 rfl Tryd.ntmps50 (by simp) fun Q hQ => ?_
    refine Runs.seqE Ty_ok (by decide) fun k' hk' => ?_
    simp [encP]   -- R0
    refine hk' _ _ _ ?_
    refine Runs.seqE Ty_ok (by decide) fun k' hk' => ?_
    simp   -- R1
    refine hk' _ _ _ ?_
    refine Runs.seq ?_
    refine Runs.seqE Ty_ok (by decide) fun k' hk' => ?_
    simp   -- R2
    -- t11 := value f110(t9, t10)
    refine RunK.callA Ty_ok (kids_ok p parent (by omega)) e110 (.cons (ArgOk.encP false p) (.cons (.v _ _ _) .nil)) (by decide) (by decide) rfl (by simp [encP]) ?_
    rintro _ rfl
    simp [encNats]
    refine hk' _ _ _ ?_
    have hkl := kids_len p parent p.length
    refine Runs.block (Runs.loopUp (kidsFrom p parent p.length).length (fun k ρ H n => ρ 2 = .ptr (0, 2) 1 0 0 ∧ H (0, 2) = some ⟨1, [[.list false (p.map AmbNode.cells)]]⟩ ∧ ρ 11 = .list true ((kidsFrom p parent p.length).map fun (i : Nat) => [int (i : Int)]) ∧ ρ 12 = int (kidsFrom p parent p.length).length ∧ ρ 13 = int k ∧ ρ 5 = .arr (1, 8) k 0 k ∧ H (1, 8) = some ⟨1, ((kidsFrom p parent p.length).take k).map fun i => [str (nodeText (p.getD i default) (textIn p d i))]⟩) ?_ ?_)
    · simp
    · rintro k ρ H n hk ⟨h2, hH2, h11, h12, h13, h5, hH⟩ IH
      refine Runs.seqE Ty_ok (by decide) fun k' hk' => ?_
      simp [h11, h12, h13]   -- R3
      refine hk' _ _ _ ?_
      refine Runs.seq ?_
      refine Runs.ite rfl (fun hc1 => ?_) (fun hc1 => ?_)   -- t14
      · simp at hc1
        refine Runs.skip ?_
        refine Runs.seq ?_
        refine Runs.block ?_
        refine Runs.seqE Ty_ok (by decide) fun k' hk' => ?_
        simp [h11, h12, h13, hc1]   -- R4
        refine hk' _ _ _ ?_
        have him : (kidsFrom p parent p.length)[k] ∈ kidsFrom p parent p.length := List.getElem_mem hc1
        have hsk : (kidsFrom p parent p.length).take (k + 1) = (kidsFrom p parent p.length).take k ++ [(kidsFrom p parent p.length)[k]] := List.take_succ_eq_append_getElem hc1
        generalize (kidsFrom p parent p.length)[k] = i at him hsk ⊢
        obtain ⟨hilt, hip⟩ := kids_mem him
        have hup := hp.up i hilt
        have hkd := hp.kind i hilt
        have hnm := hp.name i hilt
        have hpd : 8 ^ d ≤ 8 ^ 8 := Nat.pow_le_pow_right (by omega) (by omega)
        have htl := textIn_len hp d i
        refine Runs.evalDE Ty_ok kindOp_ok draws (by decide) (by kernel_rfl) fun k' hk' => ?_
        simp [h11, h12, h13, h2, hH2, h5, hH, hc1, hilt, AmbNode.cells]   -- R5
        refine RunDK.callA Ty_ok kindOp_ok (textIn_ok hp d i (by omega) (by omega) (by omega) (by omega)) e50 (.cons (ArgOk.encP false p) (.cons (.v _ _ _) .nil)) (by decide) rfl (by simp [encP, AmbNode.cells]) ?_
        simp
        refine RunDK.callA Ty_ok kindOp_ok (nodeText_ok (p.getD i default) (textIn p d i) hkd (by omega) (by omega)) e111 (.cons (ArgOk.node _) (.cons (.v _ _ _) .nil)) (by decide) rfl (by simp [AmbNode.cells, hilt]) ?_
        simp [h5, hH, show k ≤ 1073741823 by omega, Nat.min_eq_left hk]
        refine hk' _ _ _ (Runs.inBlock (Runs.evalE Ty_ok (by decide) fun k' hk' => ?_))
        simp [h13, wrap_succ (show k < 4611686018427387904 by omega)]
        refine hk' _ _ _ (IH hc1 _ _ _ ?_)
        simp [h2, h11, h12, hH2, hsk]
      · simp at hc1
        have hke : k = (kidsFrom p parent p.length).length := by omega
        subst hke
        refine Runs.exit rfl (Runs.seqE Ty_ok (by decide) fun k' hk' => ?_)
        simp [h5]
        have hjl := join_len ((kidsFrom p parent p.length).map fun k => nodeText (p.getD k default) (textIn p d k)) [124] (16 * 8 ^ d - 15 + 12) (fun s hs => by
          simp only [List.mem_map] at hs
          obtain ⟨k, hk, rfl⟩ := hs
          have h1 := nodeText_len (p.getD k default) (textIn p d k) (hp.name k (kids_mem hk).1)
          have h2 := textIn_len hp d k
          omega)
        simp only [List.length_map, List.length_singleton] at hjl
        have hm : (kidsFrom p parent p.length).length * (16 * 8 ^ d - 15 + 12 + 1) ≤ 8 * (16 * 8 ^ d - 15 + 12 + 1) := Nat.mul_le_mul_right _ (by omega)
        have hpd : 8 ^ d ≤ 8 ^ 8 := Nat.pow_le_pow_right (by omega) (by omega)
        refine RunK.callA Ty_ok (joinTexts_ok ((kidsFrom p parent p.length).map fun k => nodeText (p.getD k default) (textIn p d k)) (by simp; omega) (by omega)) e112 (.cons (.arrF (g := (kidsFrom p parent p.length).length) (id := (1, 8)) (sz := 1) (by simp [live, hH]) (by simp)) .nil) (by decide) (by decide) rfl (by simp [h5]) ?_
        rintro _ rfl
        simp
        refine hk' _ _ _ (Runs.ret Tryd.func50 (RetOk.one Tryd.results50) (hQ _ _ _ _ (.v _ _ _) ?_))
        simp [textIn]
end Go.Ab
