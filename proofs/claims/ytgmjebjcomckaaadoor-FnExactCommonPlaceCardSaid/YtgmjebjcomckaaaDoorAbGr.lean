/- The contract of laws.FnExactCommonPlace: it answers true. -/
import Derived.Test.YtgmjebjcomckaaaDoorAbGq
namespace Go.Ab
open Go.Proofs
set_option linter.unusedSimpArgs false

structure HugeS (sig : Sig) : Prop where
  len : sig.length ≤ 9223372036854775807
  names : ∀ c ∈ sig, c.name.length ≤ 9223372036854775807

theorem exactCommonPlace_ok (sig : Sig) (b : Big) (x y : Int) (hs : HugeS sig) (hh : HugeB b) : PureC Tryd.prog 7 [encSig false sig, encB false b, int x, int y] (fun r => r = bool true) := by
  refine PureC.of Tryd.func7 rfl Tryd.ntmps7 (by simp) fun Q hQ => ?_
  have yes : ∀ H n, Q (bool true) H n := fun H n => hQ _ _ _ _ (.v _ _ _) rfl
  refine Runs.seqE Ty_ok (by decide) fun k' hk' => ?_
  simp [encSig, encB, Big.cells]   -- R0
  refine hk' _ _ _ ?_
  refine Runs.seqE Ty_ok (by decide) fun k' hk' => ?_
  simp   -- R1
  refine hk' _ _ _ ?_
  refine Runs.cut (fun ρ H n => ρ 0 = encSig false sig ∧ ρ 2 = int x ∧ ρ 3 = int y ∧ ρ 5 = .ptr (0, 5) 1 0 0 ∧ ρ 9 = int 1048576 ∧ H (0, 5) = some ⟨6, [b.cells false]⟩ ∧ n = 1) ⟨by simp [encSig], by simp, by simp, by simp, by simp, by simp [Big.cells], rfl⟩ ?_
  clear hk'
  rintro ρ H n ⟨h0, h2, h3, h5, h9, hm, rfl⟩
  have hm' := hm
  simp only [Big.cells] at hm'
  refine Runs.seqE Ty_ok (by decide) fun k' hk' => ?_
  simp [h0, h9]   -- R2
  refine RunK.callA Ty_ok (szControlS_ok sig 1048576 (by omega) (by omega) hs.len hs.names) e34 (.cons (ArgOk.encSig false sig) (.cons (.v _ _ _) .nil)) (by decide) (by decide) rfl (by simp [h0]) ?_
  rintro _ rfl
  simp
  refine hk' _ _ _ ?_
  refine Runs.seq ?_
  refine Runs.seqE Ty_ok (by decide) fun k' hk' => ?_
  simp   -- R3
  refine hk' _ _ _ ?_
  refine Runs.ite rfl (fun hc1 => ?_) (fun hc1 => ?_)   -- t20
  · refine Runs.seqE Ty_ok (by decide) fun k' hk' => ?_
    simp   -- R4
    refine hk' _ _ _ ?_
    exact Runs.ret Tryd.func7 (RetOk.one Tryd.results7) (yes _ _)
  simp only [decide_eq_false_iff_not] at hc1
  have hz := szS_le szC sig 1048576 (by omega)
  refine Runs.skip ?_
  refine Runs.seqE Ty_ok (by decide) fun k' hk' => ?_
  simp [h5, hm']   -- R5
  refine RunK.callA Ty_ok (szBigraph_ok b (szS szC sig 1048576) (by omega) (by omega) hh) e35 (.cons (ArgOk.encB false b) (.cons (.v _ _ _) .nil)) (by decide) (by decide) rfl (by simp [encB, Big.cells]) ?_
  rintro _ rfl
  simp
  refine hk' _ _ _ ?_
  refine Runs.seq ?_
  refine Runs.seqE Ty_ok (by decide) fun k' hk' => ?_
  simp   -- R6
  refine hk' _ _ _ ?_
  refine Runs.ite rfl (fun hc2 => ?_) (fun hc2 => ?_)   -- t25
  · refine Runs.seqE Ty_ok (by decide) fun k' hk' => ?_
    simp   -- R7
    refine hk' _ _ _ ?_
    exact Runs.ret Tryd.func7 (RetOk.one Tryd.results7) (yes _ _)
  simp only [decide_eq_false_iff_not] at hc2
  have hS : SmallB sig b := smallB (left := 1048576) (by omega) (by omega) (by omega) (by omega) hh
  have hb5 : b.nodes.length ≤ 1048576 ∧ (∀ z ∈ b.nodes, z.links.length ≤ 1048576) ∧ b.sites.length ≤ 1048576 ∧ b.outer.length ≤ 1048576 ∧ b.inner.length ≤ 1048576 := ⟨hS.nodesLen, hS.linksLen, hS.sitesLen, hS.outerLen, hS.innerLen⟩
  have toS := toControlS_ok sig hS.sigLen
  have toB := toBigraph_ok b hb5
  refine Runs.skip ?_
  refine Runs.seqD Ty_ok kindOp_ok draws (by decide) (by kernel_rfl) fun k' hk' => ?_
  simp [h0, h2, h3, h5, hm']   -- R8
  refine RunDK.callA Ty_ok kindOp_ok toS e36 (.cons (ArgOk.encSig false sig) .nil) (by decide) rfl (by simp [h0]) ?_
  simp [h2, h3, h5, hm']
  refine RunDK.callA Ty_ok kindOp_ok toB e37 (.cons (ArgOk.encB false b) .nil) (by decide) rfl (by simp [encB, Big.cells]) ?_
  simp [h2, h3]
  refine RunDK.callA Ty_ok kindOp_ok (specCommonPlace_ok sig b x y hS) e26 (.cons (ArgOk.encSig true sig) (.cons (ArgOk.encB true b) (.cons (.v _ _ _) (.cons (.v _ _ _) .nil)))) (by decide) rfl (by simp [h2, h3, encSig, encB]) ?_
  simp
  refine hk' _ _ _ ?_
  refine Runs.seqE Ty_ok (by decide) fun k' hk' => ?_
  simp [h0]   -- R9
  refine RunK.callA Ty_ok toS e36 (.cons (ArgOk.encSig false sig) .nil) (by decide) (by decide) rfl (by simp [h0]) ?_
  rintro _ rfl
  simp
  refine hk' _ _ _ ?_
  refine Runs.seqE Ty_ok (by decide) fun k' hk' => ?_
  simp [h5, hm']   -- R10
  refine RunK.callA Ty_ok toB e37 (.cons (ArgOk.encB false b) .nil) (by decide) (by decide) rfl (by simp [encB, Big.cells]) ?_
  rintro _ rfl
  simp [Big.cells, encN, encI, encS, encW]
  refine hk' _ _ _ ?_
  refine Runs.cut (fun ρ H n => ρ 0 = encSig false sig ∧ ρ 2 = int x ∧ ρ 3 = int y ∧ ρ 5 = .ptr (0, 5) 1 0 0 ∧ ρ 10 = int (commonPlace sig b x y).1 ∧ ρ 11 = bool (commonPlace sig b x y).2 ∧ ρ 12 = encSig true sig ∧ ρ 13 = .ptr (1, 13) 1 0 0 ∧
    H (0, 5) = some ⟨6, [b.cells false]⟩ ∧ H (1, 13) = some ⟨6, [b.cells true]⟩) ⟨by simp [h0], by simp [h2], by simp [h3], by simp [h5], by simp, by simp, by simp [encSig], by simp, by simp [hm], by simp [Big.cells, encN, encI, encS, encW]⟩ ?_
  clear hk' h0 h2 h3 h5 h9 hm hm'
  rintro ρ H n ⟨h0, h2, h3, h5, h10, h11, h12, h13, hm, hm13⟩
  have hm' := hm
  simp only [Big.cells] at hm'
  have hm13' := hm13
  simp only [Big.cells] at hm13'
  refine Runs.seqE Ty_ok (by decide) fun k' hk' => ?_
  simp [h2, h3, h12, h13, hm13']   -- R11
  refine RunK.callA Ty_ok (CommonPlace_ok sig b x y hS) e25 (.cons (ArgOk.encSig true sig) (.cons (ArgOk.encB true b) (.cons (.v _ _ _) (.cons (.v _ _ _) .nil)))) (by decide) (by decide) rfl (by simp [h2, h3, h12, encB, Big.cells]) ?_
  rintro _ rfl
  simp
  refine hk' _ _ _ ?_
  refine Runs.seq ?_
  refine Runs.seqE Ty_ok (by decide) fun k' hk' => ?_
  simp [h10, h11, guardOf]   -- R12
  refine hk' _ _ _ ?_
  refine Runs.ite rfl (fun hc3 => by simp at hc3) (fun hc3 => ?_)   -- t55
  refine Runs.skip ?_
  refine Runs.seq ?_
  refine Runs.seqE Ty_ok (by decide) fun k' hk' => ?_
  simp [h0, h12]   -- R14
  refine RunK.callA Ty_ok toS e36 (.cons (ArgOk.encSig false sig) .nil) (by decide) (by decide) rfl (by simp [h0]) ?_
  rintro _ rfl
  simp
  refine RunK.callA Ty_ok (eqControlS_ok sig sig hS.sigLen) e38 (.cons (ArgOk.encSig true sig) (.cons (ArgOk.encSig true sig) .nil)) (by decide) (by decide) rfl (by simp [h12, encSig]) ?_
  rintro _ rfl
  simp
  refine hk' _ _ _ ?_
  refine Runs.ite rfl (fun hc4 => by simp at hc4) (fun hc4 => ?_)   -- t60
  refine Runs.skip ?_
  refine Runs.seq ?_
  refine Runs.seqD Ty_ok kindOp_ok draws (by decide) (by kernel_rfl) fun k' hk' => ?_
  simp [h5, h13, hm', hm13']   -- R16
  refine RunDK.callA Ty_ok kindOp_ok toB e37 (.cons (ArgOk.encB false b) .nil) (by decide) rfl (by simp [encB, Big.cells]) ?_
  simp
  refine RunDK.callA Ty_ok kindOp_ok (eqBigraph_ok b b hb5) e39 (.cons (ArgOk.encB true b) (.cons (ArgOk.encB true b) .nil)) (by decide) rfl (by simp [encB, Big.cells]) ?_
  simp
  refine hk' _ _ _ ?_
  refine Runs.ite rfl (fun hc5 => by simp at hc5) (fun hc5 => ?_)   -- t65
  refine Runs.skip ?_
  refine Runs.seqE Ty_ok (by decide) fun k' hk' => ?_
  simp   -- R18
  refine hk' _ _ _ ?_
  exact Runs.ret Tryd.func7 (RetOk.one Tryd.results7) (yes _ _)
end Go.Ab
