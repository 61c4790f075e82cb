/- Contracts of the laws' to.. functions of bigraphs. By program. -/
import Derived.Test.YtgmjebjcomckaaaDoorAbGn
namespace Go.Ab
open Go.Proofs
set_option linter.unusedSimpArgs false
theorem e141 : Ent Tryd.prog 141 := Ent.of Tryd.func141 (by kernel_rfl) rfl
theorem toWire_ok (x : Wire) : PureC Tryd.prog 141 [.agg (Wire.cells x)] (fun r => r = .agg (Wire.cells x)) := by
  refine PureC.of Tryd.func141 rfl Tryd.ntmps141 (by simp) fun Q hQ => ?_
  refine Runs.seqE Ty_ok (by decide) fun k' hk' => ?_
  simp [Wire.cells, encN, encI, encS, encW]   -- R0
  refine hk' _ _ _ ?_
  refine Runs.seqE Ty_ok (by decide) fun k' hk' => ?_
  simp   -- R1
  refine hk' _ _ _ ?_
  refine Runs.seqE Ty_ok (by decide) fun k' hk' => ?_
  simp   -- R2
  refine hk' _ _ _ ?_
  refine Runs.seqE Ty_ok (by decide) fun k' hk' => ?_
  simp   -- R3
  refine hk' _ _ _ ?_
  refine Runs.seqE Ty_ok (by decide) fun k' hk' => ?_
  simp   -- R4
  refine hk' _ _ _ ?_
  exact Runs.ret Tryd.func141 (RetOk.cell (cs := Wire.cells x) (v := .agg (Wire.cells x)) Ty_ok Tryd.results141 Ty_121 (by simp [Wire.cells, encN, encI, encS, encW]) (by simp [loadA, Wire.cells])) (hQ _ _ _ _ (.of (Ret.fresh (by simp [Wire.cells, encN, encI, encS, encW, GNode.cells, intC, strC, Wire.cells]))) rfl)

theorem e90 : Ent Tryd.prog 90 := Ent.of Tryd.func90 (by kernel_rfl) rfl
theorem toControl_ok (x : Control) : PureC Tryd.prog 90 [.agg (Control.cells x)] (fun r => r = .agg (Control.cells x)) := by
  refine PureC.of Tryd.func90 rfl Tryd.ntmps90 (by simp) fun Q hQ => ?_
  refine Runs.seqE Ty_ok (by decide) fun k' hk' => ?_
  simp [Control.cells, encN, encI, encS, encW]   -- R0
  refine hk' _ _ _ ?_
  refine Runs.seqE Ty_ok (by decide) fun k' hk' => ?_
  simp   -- R1
  refine hk' _ _ _ ?_
  refine Runs.seqE Ty_ok (by decide) fun k' hk' => ?_
  simp   -- R2
  refine hk' _ _ _ ?_
  refine Runs.seqE Ty_ok (by decide) fun k' hk' => ?_
  simp   -- R3
  refine hk' _ _ _ ?_
  refine Runs.seqE Ty_ok (by decide) fun k' hk' => ?_
  simp   -- R4
  refine hk' _ _ _ ?_
  refine Runs.seqE Ty_ok (by decide) fun k' hk' => ?_
  simp   -- R5
  refine hk' _ _ _ ?_
  exact Runs.ret Tryd.func90 (RetOk.cell (cs := Control.cells x) (v := .agg (Control.cells x)) Ty_ok Tryd.results90 Ty_117 (by simp [Control.cells, encN, encI, encS, encW]) (by simp [loadA, Control.cells])) (hQ _ _ _ _ (.of (Ret.fresh (by simp [Control.cells, encN, encI, encS, encW, GNode.cells, intC, strC, Wire.cells]))) rfl)

theorem e140 : Ent Tryd.prog 140 := Ent.of Tryd.func140 (by kernel_rfl) rfl
theorem toNode_ok (x : GNode) (hl : x.links.length ≤ 1048576) : PureC Tryd.prog 140 [.agg (GNode.cells false x)] (fun r => r = .agg (GNode.cells true x)) := by
  refine PureC.of Tryd.func140 rfl Tryd.ntmps140 (by simp) fun Q hQ => ?_
  refine Runs.seqE Ty_ok (by decide) fun k' hk' => ?_
  simp [GNode.cells, encN, encI, encS, encW]   -- R0
  refine hk' _ _ _ ?_
  refine Runs.seqE Ty_ok (by decide) fun k' hk' => ?_
  simp   -- R1
  refine hk' _ _ _ ?_
  refine Runs.seqE Ty_ok (by decide) fun k' hk' => ?_
  simp   -- R2
  refine hk' _ _ _ ?_
  refine Runs.seqE Ty_ok (by decide) fun k' hk' => ?_
  simp   -- R3
  refine hk' _ _ _ ?_
  refine Runs.seqE Ty_ok (by decide) fun k' hk' => ?_
  simp   -- R4
  refine RunK.callA Ty_ok (toIntS_ok x.links hl) e92 (.cons (ArgOk.encI false x.links) .nil) (by decide) (by decide) rfl (by simp [encN, encI, encS, encW]) ?_
  rintro _ rfl
  simp
  refine hk' _ _ _ ?_
  refine Runs.seqE Ty_ok (by decide) fun k' hk' => ?_
  simp   -- R5
  refine hk' _ _ _ ?_
  exact Runs.ret Tryd.func140 (RetOk.cell (cs := GNode.cells true x) (v := .agg (GNode.cells true x)) Ty_ok Tryd.results140 Ty_63 (by simp [GNode.cells, encN, encI, encS, encW]) (by simp [loadA, GNode.cells])) (hQ _ _ _ _ (.of (Ret.fresh (by simp [GNode.cells, encN, encI, encS, encW, GNode.cells, intC, strC, Wire.cells]))) rfl)

theorem e94 : Ent Tryd.prog 94 := Ent.of Tryd.func94 (by kernel_rfl) rfl
theorem toWireS_ok (p : List (Wire)) (hp : p.length ≤ 1048576) : PureC Tryd.prog 94 [.list false (p.map Wire.cells)] (fun r => r = .list true (p.map Wire.cells)) := by
  refine PureC.of Tryd.func94 rfl Tryd.ntmps94 (by simp) fun Q hQ => ?_
  refine Runs.seqE Ty_ok (by decide) fun k' hk' => ?_
  simp   -- R0
  refine hk' _ _ _ ?_
  refine Runs.seqE Ty_ok (by decide) fun k' hk' => ?_
  simp [show (p.length : Int) ≤ 1073741824 by omega]   -- R1
  refine hk' _ _ _ ?_
  refine Runs.seq ?_
  refine Runs.seqE Ty_ok (by decide) fun k' hk' => ?_
  simp   -- R2
  refine hk' _ _ _ ?_
  refine Runs.block (Runs.loopUp p.length (fun k ρ H n => ρ 0 = .list false (p.map Wire.cells) ∧ ρ 4 = int k ∧ ρ 3 = .arr (0, 7) p.length 0 p.length ∧ H (0, 7) = some ⟨2, part Wire.cells [str [], int 0] p k⟩) ?_ ?_)
  · simp [Wire.cells, part_zero]
  · rintro k ρ H n hk ⟨h0, h4, h3, hH⟩ IH
    refine Runs.seq ?_
    refine Runs.seqE Ty_ok (by decide) fun k' hk' => ?_
    simp [h0, h4]   -- R3
    refine hk' _ _ _ ?_
    refine Runs.ite rfl (fun hc1 => ?_) (fun hc1 => ?_)
    · simp at hc1
      refine Runs.skip ?_
      refine Runs.seq ?_
      refine Runs.block ?_
      refine Runs.evalE Ty_ok (by decide) fun k' hk' => ?_
      simp [h0, h3, h4, hH, hc1, part_len hk, part_get hc1, Wire.cells]   -- R5
      refine RunK.callA Ty_ok (toWire_ok p[k]) e141 (.cons (ArgOk.wireB _) .nil) (by decide) (by decide) rfl (by simp [Wire.cells]) ?_
      rintro _ rfl
      simp [h3, h4, hH, hc1, part_len hk, part_get hc1, Wire.cells]
      refine hk' _ _ _ ?_
      refine Runs.inBlock ?_
      refine Runs.evalE Ty_ok (by decide) fun k' hk' => ?_
      simp [h4, wrap_succ (show k < 4611686018427387904 by omega)]   -- R4
      refine hk' _ _ _ ?_
      refine IH hc1 _ _ _ ?_
      rw [← part_set hc1]
      simp [h0, h3, Wire.cells, part_get' hc1]
    · simp at hc1
      have hke : k = p.length := by omega
      subst hke
      rw [part_end] at hH
      refine Runs.exit rfl ?_
      refine Runs.seqE Ty_ok (by decide) fun k' hk' => ?_
      simp [h3]   -- R6
      refine hk' _ _ _ ?_
      exact Runs.ret Tryd.func94 (RetOk.one Tryd.results94) (hQ _ _ _ _ (.of (Ret.arrF (by simp [hH]; rfl) (by simp [Wire.cells, intC]))) rfl)

theorem e36 : Ent Tryd.prog 36 := Ent.of Tryd.func36 (by kernel_rfl) rfl
theorem toControlS_ok (p : List (Control)) (hp : p.length ≤ 1048576) : PureC Tryd.prog 36 [.list false (p.map Control.cells)] (fun r => r = .list true (p.map Control.cells)) := by
  refine PureC.of Tryd.func36 rfl Tryd.ntmps36 (by simp) fun Q hQ => ?_
  refine Runs.seqE Ty_ok (by decide) fun k' hk' => ?_
  simp   -- R0
  refine hk' _ _ _ ?_
  refine Runs.seqE Ty_ok (by decide) fun k' hk' => ?_
  simp [show (p.length : Int) ≤ 1073741824 by omega]   -- R1
  refine hk' _ _ _ ?_
  refine Runs.seq ?_
  refine Runs.seqE Ty_ok (by decide) fun k' hk' => ?_
  simp   -- R2
  refine hk' _ _ _ ?_
  refine Runs.block (Runs.loopUp p.length (fun k ρ H n => ρ 0 = .list false (p.map Control.cells) ∧ ρ 4 = int k ∧ ρ 3 = .arr (0, 7) p.length 0 p.length ∧ H (0, 7) = some ⟨3, part Control.cells [str [], int 0, int 0] p k⟩) ?_ ?_)
  · simp [Control.cells, part_zero]
  · rintro k ρ H n hk ⟨h0, h4, h3, hH⟩ IH
    refine Runs.seq ?_
    refine Runs.seqE Ty_ok (by decide) fun k' hk' => ?_
    simp [h0, h4]   -- R3
    refine hk' _ _ _ ?_
    refine Runs.ite rfl (fun hc1 => ?_) (fun hc1 => ?_)
    · simp at hc1
      refine Runs.skip ?_
      refine Runs.seq ?_
      refine Runs.block ?_
      refine Runs.evalE Ty_ok (by decide) fun k' hk' => ?_
      simp [h0, h3, h4, hH, hc1, part_len hk, part_get hc1, Control.cells]   -- R5
      refine RunK.callA Ty_ok (toControl_ok p[k]) e90 (.cons (ArgOk.ctlB _) .nil) (by decide) (by decide) rfl (by simp [Control.cells]) ?_
      rintro _ rfl
      simp [h3, h4, hH, hc1, part_len hk, part_get hc1, Control.cells]
      refine hk' _ _ _ ?_
      refine Runs.inBlock ?_
      refine Runs.evalE Ty_ok (by decide) fun k' hk' => ?_
      simp [h4, wrap_succ (show k < 4611686018427387904 by omega)]   -- R4
      refine hk' _ _ _ ?_
      refine IH hc1 _ _ _ ?_
      rw [← part_set hc1]
      simp [h0, h3, Control.cells, part_get' hc1]
    · simp at hc1
      have hke : k = p.length := by omega
      subst hke
      rw [part_end] at hH
      refine Runs.exit rfl ?_
      refine Runs.seqE Ty_ok (by decide) fun k' hk' => ?_
      simp [h3]   -- R6
      refine hk' _ _ _ ?_
      exact Runs.ret Tryd.func36 (RetOk.one Tryd.results36) (hQ _ _ _ _ (.of (Ret.arrF (by simp [hH]; rfl) (by simp [Control.cells, intC]))) rfl)

theorem e91 : Ent Tryd.prog 91 := Ent.of Tryd.func91 (by kernel_rfl) rfl
theorem toNodeS_ok (p : List (GNode)) (hp : p.length ≤ 1048576) (hl : ∀ x ∈ p, x.links.length ≤ 1048576) : PureC Tryd.prog 91 [.list false (p.map (GNode.cells false))] (fun r => r = .list true (p.map (GNode.cells true))) := by
  refine PureC.of Tryd.func91 rfl Tryd.ntmps91 (by simp) fun Q hQ => ?_
  refine Runs.seqE Ty_ok (by decide) fun k' hk' => ?_
  simp   -- R0
  refine hk' _ _ _ ?_
  refine Runs.seqE Ty_ok (by decide) fun k' hk' => ?_
  simp [show (p.length : Int) ≤ 1073741824 by omega]   -- R1
  refine hk' _ _ _ ?_
  refine Runs.seq ?_
  refine Runs.seqE Ty_ok (by decide) fun k' hk' => ?_
  simp   -- R2
  refine hk' _ _ _ ?_
  refine Runs.block (Runs.loopUp p.length (fun k ρ H n => ρ 0 = .list false (p.map (GNode.cells false)) ∧ ρ 4 = int k ∧ ρ 3 = .arr (0, 7) p.length 0 p.length ∧ H (0, 7) = some ⟨3, part (GNode.cells true) [int 0, int 0, .v (.slice none 0 0)] p k⟩) ?_ ?_)
  · simp [GNode.cells, part_zero]
  · rintro k ρ H n hk ⟨h0, h4, h3, hH⟩ IH
    refine Runs.seq ?_
    refine Runs.seqE Ty_ok (by decide) fun k' hk' => ?_
    simp [h0, h4]   -- R3
    refine hk' _ _ _ ?_
    refine Runs.ite rfl (fun hc1 => ?_) (fun hc1 => ?_)
    · simp at hc1
      refine Runs.skip ?_
      refine Runs.seq ?_
      refine Runs.block ?_
      refine Runs.evalE Ty_ok (by decide) fun k' hk' => ?_
      simp [h0, h3, h4, hH, hc1, part_len hk, part_get hc1, GNode.cells]   -- R5
      refine RunK.callA Ty_ok (toNode_ok p[k] (hl _ (List.getElem_mem hc1))) e140 (.cons (ArgOk.nodeB false _) .nil) (by decide) (by decide) rfl (by simp [GNode.cells]) ?_
      rintro _ rfl
      simp [h3, h4, hH, hc1, part_len hk, part_get hc1, GNode.cells]
      refine hk' _ _ _ ?_
      refine Runs.inBlock ?_
      refine Runs.evalE Ty_ok (by decide) fun k' hk' => ?_
      simp [h4, wrap_succ (show k < 4611686018427387904 by omega)]   -- R4
      refine hk' _ _ _ ?_
      refine IH hc1 _ _ _ ?_
      rw [← part_set hc1]
      simp [h0, h3, GNode.cells, part_get' hc1]
    · simp at hc1
      have hke : k = p.length := by omega
      subst hke
      rw [part_end] at hH
      refine Runs.exit rfl ?_
      refine Runs.seqE Ty_ok (by decide) fun k' hk' => ?_
      simp [h3]   -- R6
      refine hk' _ _ _ ?_
      exact Runs.ret Tryd.func91 (RetOk.one Tryd.results91) (hQ _ _ _ _ (.of (Ret.arrF (by simp [hH]; rfl) (by simp [GNode.cells, intC]))) rfl)

theorem e37 : Ent Tryd.prog 37 := Ent.of Tryd.func37 (by kernel_rfl) rfl
theorem toBigraph_ok (x : Big) (hb : x.nodes.length ≤ 1048576 ∧ (∀ z ∈ x.nodes, z.links.length ≤ 1048576) ∧ x.sites.length ≤ 1048576 ∧ x.outer.length ≤ 1048576 ∧ x.inner.length ≤ 1048576) : PureC Tryd.prog 37 [.agg (Big.cells false x)] (fun r => r = .agg (Big.cells true x)) := by
  refine PureC.of Tryd.func37 rfl Tryd.ntmps37 (by simp) fun Q hQ => ?_
  refine Runs.seqE Ty_ok (by decide) fun k' hk' => ?_
  simp [Big.cells, encN, encI, encS, encW]   -- R0
  refine hk' _ _ _ ?_
  refine Runs.seqE Ty_ok (by decide) fun k' hk' => ?_
  simp   -- R1
  refine hk' _ _ _ ?_
  refine Runs.seqE Ty_ok (by decide) fun k' hk' => ?_
  simp   -- R2
  refine hk' _ _ _ ?_
  refine Runs.seqE Ty_ok (by decide) fun k' hk' => ?_
  simp   -- R3
  refine RunK.callA Ty_ok (toNodeS_ok x.nodes hb.1 hb.2.1) e91 (.cons (ArgOk.encN false x.nodes) .nil) (by decide) (by decide) rfl (by simp [encN, encI, encS, encW]) ?_
  rintro _ rfl
  simp
  refine hk' _ _ _ ?_
  refine Runs.seqE Ty_ok (by decide) fun k' hk' => ?_
  simp   -- R4
  refine RunK.callA Ty_ok (toIntS_ok x.sites hb.2.2.1) e92 (.cons (ArgOk.encI false x.sites) .nil) (by decide) (by decide) rfl (by simp [encN, encI, encS, encW]) ?_
  rintro _ rfl
  simp
  refine hk' _ _ _ ?_
  refine Runs.seqE Ty_ok (by decide) fun k' hk' => ?_
  simp   -- R5
  refine hk' _ _ _ ?_
  refine Runs.seqE Ty_ok (by decide) fun k' hk' => ?_
  simp   -- R6
  refine RunK.callA Ty_ok (toStringS_ok x.outer hb.2.2.2.1) e93 (.cons (ArgOk.encS false x.outer) .nil) (by decide) (by decide) rfl (by simp [encN, encI, encS, encW]) ?_
  rintro _ rfl
  simp
  refine hk' _ _ _ ?_
  refine Runs.seqE Ty_ok (by decide) fun k' hk' => ?_
  simp   -- R7
  refine RunK.callA Ty_ok (toWireS_ok x.inner hb.2.2.2.2) e94 (.cons (ArgOk.encW false x.inner) .nil) (by decide) (by decide) rfl (by simp [encN, encI, encS, encW]) ?_
  rintro _ rfl
  simp
  refine hk' _ _ _ ?_
  refine Runs.seqE Ty_ok (by decide) fun k' hk' => ?_
  simp   -- R8
  refine hk' _ _ _ ?_
  exact Runs.ret Tryd.func37 (RetOk.cell (cs := Big.cells true x) (v := .agg (Big.cells true x)) Ty_ok Tryd.results37 Ty_51 (by simp [Big.cells, encN, encI, encS, encW]) (by simp [loadA, Big.cells])) (hQ _ _ _ _ (.of (Ret.fresh (by simp [Big.cells, encN, encI, encS, encW, GNode.cells, intC, strC, Wire.cells]))) rfl)

end Go.Ab
