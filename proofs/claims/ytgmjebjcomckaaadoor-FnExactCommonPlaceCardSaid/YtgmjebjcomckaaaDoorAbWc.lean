/- Contracts of spec.l12In and spec.ProcessText. -/
import Derived.Test.YtgmjebjcomckaaaDoorAbWb
namespace Go.Ab
open Go.Proofs
set_option linter.unusedSimpArgs false

theorem l12In_ok {p : Proc} (hp : Valid p) : ∀ (d : Nat) (parent : Int), -1 ≤ parent → parent < p.length → (p.length : Int) - parent ≤ d → d ≤ 9 →
    PureC Tryd.prog 47 [encP false p, int parent] (fun r => r = str (textIn p d parent))
  | 0, parent, _, h1, h2, _ => by omega
  | d + 1, parent, h0, h1, h2, hd => by
    have hp8 := hp.len
    have hkl := kids_len p parent p.length
    have hpd : 8 ^ d ≤ 8 ^ 8 := Nat.pow_le_pow_right (by omega) (by omega)
    have hjl : ∀ j, (Lib.join (((kidsFrom p parent p.length).take j).map fun k => nodeText (p.getD k default) (textIn p d k)) [124]).length ≤ 4294967296 := by
      intro j
      have := join_len (((kidsFrom p parent p.length).take j).map fun k => nodeText (p.getD k default) (textIn p d k)) [124] (16 * 8 ^ d - 15 + 12) (fun s hs => by
        simp only [List.mem_map] at hs
        obtain ⟨k, hk, rfl⟩ := hs
        have h1 := nodeText_len (p.getD k default) (textIn p d k) (hp.name k (kids_mem (List.mem_of_mem_take hk)).1)
        have h2 := textIn_len hp d k
        omega)
      simp only [List.length_map, List.length_singleton, List.length_take] at this
      have hm : min j (kidsFrom p parent p.length).length * (16 * 8 ^ d - 15 + 12 + 1) ≤ 8 * (16 * 8 ^ d - 15 + 12 + 1) := Nat.mul_le_mul_right _ (by omega)
      omega
    refine PureC.of Tryd.func47 rfl Tryd.ntmps47 (by simp) fun Q hQ => ?_
    refine Runs.seqE Ty_ok (by decide) fun k' hk' => ?_
    simp [encP]   -- R0
    refine hk' _ _ _ ?_
    refine Runs.seqE Ty_ok (by decide) fun k' hk' => ?_
    simp   -- R1
    refine RunK.callA Ty_ok (l12Kids_ok p parent (by omega)) e106 (.cons (ArgOk.encP false p) (.cons (.v _ _ _) .nil)) (by decide) (by decide) rfl (by simp [encP]) ?_
    rintro _ rfl
    simp [encNats]
    refine hk' _ _ _ ?_
    refine Runs.seq ?_
    refine Runs.seqE Ty_ok (by decide) fun k' hk' => ?_
    simp   -- R2
    refine hk' _ _ _ ?_
    refine Runs.block (Runs.loopUp (kidsFrom p parent p.length).length (fun k ρ H n => ρ 2 = .ptr (0, 2) 1 0 0 ∧ H (0, 2) = some ⟨1, [[.list false (p.map AmbNode.cells)]]⟩ ∧ ρ 5 = .list true ((kidsFrom p parent p.length).map fun (i : Nat) => [int (i : Int)]) ∧ ρ 7 = int k ∧ ρ 6 = str (Lib.join (((kidsFrom p parent p.length).take k).map fun i => nodeText (p.getD i default) (textIn p d i)) [124])) ?_ ?_)
    · simp [Lib.join]
    · rintro k ρ H n hk ⟨h2, hH2, h5, h7, h6⟩ IH
      refine Runs.seq ?_
      refine Runs.seqE Ty_ok (by decide) fun k' hk' => ?_
      simp [h5, h7]   -- R3
      refine hk' _ _ _ ?_
      refine Runs.ite rfl (fun hc1 => ?_) (fun hc1 => ?_)   -- t14
      · simp at hc1
        have him : (kidsFrom p parent p.length)[k] ∈ kidsFrom p parent p.length := List.getElem_mem hc1
        have hsk : (kidsFrom p parent p.length).take (k + 1) = (kidsFrom p parent p.length).take k ++ [(kidsFrom p parent p.length)[k]] := List.take_succ_eq_append_getElem hc1
        obtain ⟨i, hgk⟩ : ∃ i, (kidsFrom p parent p.length)[k] = i := ⟨_, rfl⟩
        rw [hgk] at him hsk
        obtain ⟨hilt, hip⟩ := kids_mem him
        have hup := hp.up i hilt
        have hkd := hp.kind i hilt
        have hnm := hp.name i hilt
        have htl := textIn_len hp d i
        have hjk := hjl k
        have hntl := nodeText_len (p.getD i default) (textIn p d i) hnm
        refine Runs.skip ?_
        refine Runs.seq ?_
        refine Runs.block ?_
        refine Runs.seq ?_
        refine Runs.seqE Ty_ok (by decide) fun k' hk' => ?_
        simp [h7]   -- R5
        refine hk' _ _ _ ?_
        refine Runs.ite rfl (fun hc2 => ?_) (fun hc2 => ?_)   -- t18
        · simp at hc2
          have hkz : ¬ ((kidsFrom p parent p.length).take k = []) := by
            intro he
            have := congrArg List.length he
            rw [List.length_take] at this
            simp only [List.length_nil] at this
            omega
          have hjs : Lib.join (((kidsFrom p parent p.length).take (k + 1)).map fun i => nodeText (p.getD i default) (textIn p d i)) [124] = Lib.join (((kidsFrom p parent p.length).take k).map fun i => nodeText (p.getD i default) (textIn p d i)) [124] ++ [124] ++ nodeText (p.getD i default) (textIn p d i) := by
            rw [hsk, List.map_append, List.map_singleton, intercalate_snoc _ _ (by simpa using hkz)]
          generalize hj0 : Lib.join (((kidsFrom p parent p.length).take k).map fun i => nodeText (p.getD i default) (textIn p d i)) [124] = s0 at hjk hjs h6
          refine Runs.evalE Ty_ok (by decide) fun k' hk' => ?_
          simp (disch := first | omega | simp) [h6, if_pos]   -- R6
          refine hk' _ _ _ ?_
          refine Runs.evalDE Ty_ok kindOp_ok draws (by decide) (by kernel_rfl) fun k' hk' => ?_
          simp [h2, hH2, h5, h7, hc1, hilt, hgk, AmbNode.cells]   -- R7
          refine RunDK.callA Ty_ok kindOp_ok (l12In_ok hp d i (by omega) (by omega) (by omega) (by omega)) e47 (.cons (ArgOk.encP false p) (.cons (.v _ _ _) .nil)) (by decide) rfl (by simp [encP, AmbNode.cells]) ?_
          simp
          refine RunDK.callA Ty_ok kindOp_ok (l12Around_ok (p.getD i default) (textIn p d i) hkd (by omega) (by omega)) e107 (.cons (ArgOk.node _) (.cons (.v _ _ _) .nil)) (by decide) rfl (by simp [AmbNode.cells, hilt]) ?_
          generalize hnt : nodeText (p.getD i default) (textIn p d i) = t0 at hntl hjs
          simp (disch := first | omega | simp) [if_pos]
          refine hk' _ _ _ ?_
          refine Runs.inBlock ?_
          refine Runs.evalE Ty_ok (by decide) fun k' hk' => ?_
          simp [h7, wrap_succ (show k < 4611686018427387904 by omega)]   -- R4
          refine hk' _ _ _ ?_
          refine IH hc1 _ _ _ ?_
          rw [hjs]
          simp [h2, hH2, h5]
        · simp at hc2
          subst hc2
          simp [Lib.join] at h6
          refine Runs.skip ?_
          refine Runs.evalDE Ty_ok kindOp_ok draws (by decide) (by kernel_rfl) fun k' hk' => ?_
          simp [h2, hH2, h5, h6, h7, hc1, hilt, hgk, AmbNode.cells]   -- R7
          refine RunDK.callA Ty_ok kindOp_ok (l12In_ok hp d i (by omega) (by omega) (by omega) (by omega)) e47 (.cons (ArgOk.encP false p) (.cons (.v _ _ _) .nil)) (by decide) rfl (by simp [encP, AmbNode.cells]) ?_
          simp
          refine RunDK.callA Ty_ok kindOp_ok (l12Around_ok (p.getD i default) (textIn p d i) hkd (by omega) (by omega)) e107 (.cons (ArgOk.node _) (.cons (.v _ _ _) .nil)) (by decide) rfl (by simp [AmbNode.cells, hilt]) ?_
          generalize hnt : nodeText (p.getD i default) (textIn p d i) = t0 at hntl
          simp (disch := first | omega | simp) [if_pos]
          refine hk' _ _ _ ?_
          refine Runs.inBlock ?_
          refine Runs.evalE Ty_ok (by decide) fun k' hk' => ?_
          simp [h7]   -- R4
          refine hk' _ _ _ ?_
          refine IH hc1 _ _ _ ?_
          rw [hsk, List.map_append, List.map_singleton, hnt]
          simp [h2, hH2, h5, Lib.join]
      · simp at hc1
        have hke : k = (kidsFrom p parent p.length).length := by omega
        subst hke
        rw [List.take_length] at h6
        refine Runs.exit rfl ?_
        refine Runs.seq ?_
        refine Runs.seqE Ty_ok (by decide) fun k' hk' => ?_
        simp [h5]   -- R8
        refine hk' _ _ _ ?_
        refine Runs.ite rfl (fun hc3 => ?_) (fun hc3 => ?_)   -- t40
        · simp at hc3
          refine Runs.seqE Ty_ok (by decide) fun k' hk' => ?_
          simp   -- R9
          refine hk' _ _ _ ?_
          exact Runs.ret Tryd.func47 (RetOk.one Tryd.results47) (hQ _ _ _ _ (.v _ _ _) (by simp [textIn, joinTexts, hc3]))
        · simp at hc3
          refine Runs.skip ?_
          refine Runs.seqE Ty_ok (by decide) fun k' hk' => ?_
          simp [h6]   -- R10
          refine hk' _ _ _ ?_
          exact Runs.ret Tryd.func47 (RetOk.one Tryd.results47) (hQ _ _ _ _ (.v _ _ _) (by simp [textIn, joinTexts, hc3]))

theorem specProcessText_ok (p : Proc) (hp : p.length ≤ 1048576) (hn : ∀ i, i < p.length → (p.getD i default).name.length ≤ 1048576) : PureC Tryd.prog 10 [encP false p] (fun r => r = .tup [str (processText p).1, bool (processText p).2]) := by
  refine PureC.of Tryd.func10 rfl Tryd.ntmps10 (by simp) fun Q hQ => ?_
  refine Runs.seqE Ty_ok (by decide) fun k' hk' => ?_
  simp [encP]   -- R0
  refine hk' _ _ _ ?_
  refine Runs.seq ?_
  refine Runs.seqE Ty_ok (by decide) fun k' hk' => ?_
  simp   -- R1
  refine RunK.callA Ty_ok (l12Good_ok p hp hn) e46 (.cons (ArgOk.encP false p) .nil) (by decide) (by decide) rfl (by simp [encP]) ?_
  rintro _ rfl
  cases hg : goodP p
  · simp
    refine hk' _ _ _ ?_
    refine Runs.ite rfl (fun _ => ?_) (fun h => by simp at h)
    refine Runs.seqE Ty_ok (by decide) fun k' hk' => ?_
    simp   -- R2
    refine hk' _ _ _ ?_
    exact Runs.ret Tryd.func10 (RetOk.two Tryd.results10) (hQ _ _ _ _ (.of (Ret.fresh (by simp))) (by simp [processText, hg]))
  · simp
    refine hk' _ _ _ ?_
    refine Runs.ite rfl (fun h => by simp at h) (fun _ => ?_)
    refine Runs.skip ?_
    refine Runs.seqE Ty_ok (by decide) fun k' hk' => ?_
    simp   -- R3
    have hv := goodP_valid hg
    have := hv.len
    refine RunK.callA Ty_ok (l12In_ok hv (p.length + 1) (-1) (by omega) (by omega) (by omega) (by omega)) e47 (.cons (ArgOk.encP false p) (.cons (.v _ _ _) .nil)) (by decide) (by decide) rfl (by simp [encP]) ?_
    rintro _ rfl
    simp
    refine hk' _ _ _ ?_
    exact Runs.ret Tryd.func10 (RetOk.two Tryd.results10) (hQ _ _ _ _ (.of (Ret.fresh (by simp))) (by simp [processText, hg]))
end Go.Ab
