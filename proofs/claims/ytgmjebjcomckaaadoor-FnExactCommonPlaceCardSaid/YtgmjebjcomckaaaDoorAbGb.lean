/- Contracts of impl.isLink, impl.isParent, impl.isNode and of their like in the reference. -/
import Derived.Test.YtgmjebjcomckaaaDoorAbGa
import Derived.Test.YtgmjebjcomckaaaDoorAbW
import Derived.Test.YtgmjebjcomckaaaDoorAbTf
namespace Go.Ab
open Go.Proofs
set_option linter.unusedSimpArgs false
theorem e77 : Ent Tryd.prog 77 := Ent.of Tryd.func77 (by kernel_rfl) rfl
theorem e133 : Ent Tryd.prog 133 := Ent.of Tryd.func133 (by kernel_rfl) rfl
theorem e74 : Ent Tryd.prog 74 := Ent.of Tryd.func74 (by kernel_rfl) rfl
theorem e132 : Ent Tryd.prog 132 := Ent.of Tryd.func132 (by kernel_rfl) rfl
theorem e63 : Ent Tryd.prog 63 := Ent.of Tryd.func63 (by kernel_rfl) rfl
theorem e67 : Ent Tryd.prog 67 := Ent.of Tryd.func67 (by kernel_rfl) rfl

theorem isLink_ok (b : Big) (l : Int) (he : 0 ≤ b.edges ∧ b.edges ≤ 8) (ho : b.outer.length ≤ 1048576) : PureC Tryd.prog 77 [encB false b, int l] (fun r => r = bool (okLink b l)) := by
  have hw1 : IntKind.i64.wrap (b.edges + b.outer.length) = b.edges + b.outer.length := by rw [wrap64] <;> omega
  have hw2 : IntKind.i64.wrap (b.edges + b.outer.length - 1) = b.edges + b.outer.length - 1 := by rw [wrap64] <;> omega
  refine PureC.of Tryd.func77 rfl Tryd.ntmps77 (by simp) fun Q hQ => ?_
  refine Runs.seqE Ty_ok (by decide) fun k' hk' => ?_
  simp [encB, Big.cells]   -- R0
  refine hk' _ _ _ ?_
  refine Runs.seqE Ty_ok (by decide) fun k' hk' => ?_
  simp [encS, hw1, hw2]   -- R1
  refine RunK.callA Ty_ok (within_ok l 0 (b.edges + b.outer.length - 1)) e71 (.cons (.v _ _ _) (.cons (.v _ _ _) (.cons (.v _ _ _) .nil))) (by decide) (by decide) rfl (by simp) ?_
  rintro _ rfl
  simp
  refine hk' _ _ _ ?_
  exact Runs.ret Tryd.func77 (RetOk.one Tryd.results77) (hQ _ _ _ _ (.v _ _ _) rfl)

theorem l2Link_ok (b : Big) (l : Int) (he : 0 ≤ b.edges ∧ b.edges ≤ 8) (ho : b.outer.length ≤ 1048576) : PureC Tryd.prog 133 [encB false b, int l] (fun r => r = bool (okLink b l)) := by
  have hw1 : IntKind.i64.wrap (b.edges + b.outer.length) = b.edges + b.outer.length := by rw [wrap64] <;> omega
  have hw2 : IntKind.i64.wrap (b.edges + b.outer.length - 1) = b.edges + b.outer.length - 1 := by rw [wrap64] <;> omega
  refine PureC.of Tryd.func133 rfl Tryd.ntmps133 (by simp) fun Q hQ => ?_
  refine Runs.seqE Ty_ok (by decide) fun k' hk' => ?_
  simp [encB, Big.cells]   -- R0
  refine hk' _ _ _ ?_
  refine Runs.seqE Ty_ok (by decide) fun k' hk' => ?_
  simp [encS, hw1, hw2]   -- R1
  refine RunK.callA Ty_ok (l1In_ok l 0 (b.edges + b.outer.length - 1)) e104 (.cons (.v _ _ _) (.cons (.v _ _ _) (.cons (.v _ _ _) .nil))) (by decide) (by decide) rfl (by simp) ?_
  rintro _ rfl
  simp
  refine hk' _ _ _ ?_
  exact Runs.ret Tryd.func133 (RetOk.one Tryd.results133) (hQ _ _ _ _ (.v _ _ _) rfl)

def isNodeB (b : Big) (x : Int) : Bool := within x 0 ((b.nodes.length : Int) - 1)

theorem isNodeB_ok (b : Big) (x : Int) (hn : b.nodes.length ≤ 1048576) : PureC Tryd.prog 63 [encB false b, int x] (fun r => r = bool (isNodeB b x)) := by
  have hw2 : IntKind.i64.wrap ((b.nodes.length : Int) - 1) = (b.nodes.length : Int) - 1 := by rw [wrap64] <;> omega
  refine PureC.of Tryd.func63 rfl Tryd.ntmps63 (by simp) fun Q hQ => ?_
  refine Runs.seqE Ty_ok (by decide) fun k' hk' => ?_
  simp [encB, Big.cells]   -- R0
  refine hk' _ _ _ ?_
  refine Runs.seqE Ty_ok (by decide) fun k' hk' => ?_
  simp [encN, hw2]   -- R1
  refine RunK.callA Ty_ok (within_ok x 0 ((b.nodes.length : Int) - 1)) e71 (.cons (.v _ _ _) (.cons (.v _ _ _) (.cons (.v _ _ _) .nil))) (by decide) (by decide) rfl (by simp) ?_
  rintro _ rfl
  simp
  refine hk' _ _ _ ?_
  exact Runs.ret Tryd.func63 (RetOk.one Tryd.results63) (hQ _ _ _ _ (.v _ _ _) rfl)

theorem l2Is_ok (b : Big) (x : Int) (hn : b.nodes.length ≤ 1048576) : PureC Tryd.prog 67 [encB false b, int x] (fun r => r = bool (isNodeB b x)) := by
  have hw2 : IntKind.i64.wrap ((b.nodes.length : Int) - 1) = (b.nodes.length : Int) - 1 := by rw [wrap64] <;> omega
  refine PureC.of Tryd.func67 rfl Tryd.ntmps67 (by simp) fun Q hQ => ?_
  refine Runs.seqE Ty_ok (by decide) fun k' hk' => ?_
  simp [encB, Big.cells]   -- R0
  refine hk' _ _ _ ?_
  refine Runs.seqE Ty_ok (by decide) fun k' hk' => ?_
  simp [encN, hw2]   -- R1
  refine RunK.callA Ty_ok (l1In_ok x 0 ((b.nodes.length : Int) - 1)) e104 (.cons (.v _ _ _) (.cons (.v _ _ _) (.cons (.v _ _ _) .nil))) (by decide) (by decide) rfl (by simp) ?_
  rintro _ rfl
  simp
  refine hk' _ _ _ ?_
  exact Runs.ret Tryd.func67 (RetOk.one Tryd.results67) (hQ _ _ _ _ (.v _ _ _) rfl)

/-- The nodes below a number have controls. -/
def CtlOk (sig : Sig) (b : Big) (below : Nat) : Prop := ∀ i, i < below → 0 ≤ (b.nodes.getD i default).control ∧ (b.nodes.getD i default).control < sig.length

theorem isParent_ok (sig : Sig) (b : Big) (parent : Int) (below : Nat) (hr : 0 ≤ b.roots ∧ b.roots ≤ 4) (hb : below ≤ b.nodes.length) (hc : CtlOk sig b below) :
    PureC Tryd.prog 74 [encB false b, encSig false sig, int parent, int below] (fun r => r = bool (okParent sig b parent below)) := by
  refine PureC.of Tryd.func74 rfl Tryd.ntmps74 (by simp) fun Q hQ => ?_
  refine Runs.seqE Ty_ok (by decide) fun k' hk' => ?_
  simp [encB, Big.cells]   -- R0
  refine hk' _ _ _ ?_
  refine Runs.seq ?_
  refine Runs.seqE Ty_ok (by decide) fun k' hk' => ?_
  simp   -- R1
  refine hk' _ _ _ ?_
  refine Runs.ite rfl (fun hc1 => ?_) (fun hc1 => ?_)   -- t10
  · have hc1 : parent < 0 := by simpa using hc1
    have hw : IntKind.i64.wrap (0 - b.roots) = -b.roots := by rw [wrap64] <;> omega
    refine Runs.seqE Ty_ok (by decide) fun k' hk' => ?_
    have hw' : IntKind.i64.wrap (-b.roots) = -b.roots := by rw [wrap64] <;> omega
    simp [hw, hw']   -- R2
    refine hk' _ _ _ ?_
    exact Runs.ret Tryd.func74 (RetOk.one Tryd.results74) (hQ _ _ _ _ (.v _ _ _) (by simp [okParent, hc1]))
  · have hc1 : ¬ parent < 0 := by simpa using hc1
    refine Runs.skip ?_
    refine Runs.seqE Ty_ok (by decide) fun k' hk' => ?_
    by_cases hlt : parent < (below : Int)
    · obtain ⟨q, rfl⟩ : ∃ q : Nat, parent = q := ⟨parent.toNat, by omega⟩
      have hq : q < b.nodes.length := by omega
      have hcq := hc q (by omega)
      have hg : b.nodes.getD q default = b.nodes[q] := by simp [hq]
      rw [hg] at hcq
      obtain ⟨c, hcc⟩ : ∃ c : Nat, b.nodes[q].control = c := ⟨b.nodes[q].control.toNat, by omega⟩
      have hcl : c < sig.length := by omega
      simp [hlt, encN, encSig, hq, GNode.cells, hcc, hcl, Control.cells, guardOf]   -- R3
      refine hk' _ _ _ ?_
      refine Runs.ret Tryd.func74 (RetOk.one Tryd.results74) (hQ _ _ _ _ (.v _ _ _) ?_)
      have hlt' : q < below := by omega
      simp [okParent, hlt', hq, hcc, hcl]
      rfl
    · simp [hlt, guardOf]   -- R3
      refine hk' _ _ _ ?_
      exact Runs.ret Tryd.func74 (RetOk.one Tryd.results74) (hQ _ _ _ _ (.v _ _ _) (by simp [okParent, hc1, hlt]))

theorem l2Under_ok (sig : Sig) (b : Big) (parent : Int) (below : Nat) (hp : I64 parent) (hr : 0 ≤ b.roots ∧ b.roots ≤ 4) (hb : below ≤ b.nodes.length) (hc : CtlOk sig b below) :
    PureC Tryd.prog 132 [encSig false sig, encB false b, int parent, int below] (fun r => r = bool (okParent sig b parent below)) := by
  obtain ⟨hp1, hp2⟩ := hp
  refine PureC.of Tryd.func132 rfl Tryd.ntmps132 (by simp) fun Q hQ => ?_
  refine Runs.seqE Ty_ok (by decide) fun k' hk' => ?_
  simp [encB, Big.cells]   -- R0
  refine hk' _ _ _ ?_
  refine Runs.seq ?_
  refine Runs.seqE Ty_ok (by decide) fun k' hk' => ?_
  simp   -- R1
  refine hk' _ _ _ ?_
  refine Runs.ite rfl (fun hc1 => ?_) (fun hc1 => ?_)   -- t10
  · have hc1 : parent < 0 := by simpa using hc1
    have hw : IntKind.i64.wrap (-1 - parent) = -1 - parent := by rw [wrap64] <;> omega
    have hw2 : IntKind.i64.wrap (b.roots - 1) = b.roots - 1 := by rw [wrap64] <;> omega
    refine Runs.seqE Ty_ok (by decide) fun k' hk' => ?_
    simp [hw, hw2]   -- R2
    refine RunK.callA Ty_ok (l1In_ok (-1 - parent) 0 (b.roots - 1)) e104 (.cons (.v _ _ _) (.cons (.v _ _ _) (.cons (.v _ _ _) .nil))) (by decide) (by decide) rfl (by simp) ?_
    rintro _ rfl
    simp
    refine hk' _ _ _ ?_
    refine Runs.ret Tryd.func132 (RetOk.one Tryd.results132) (hQ _ _ _ _ (.v _ _ _) ?_)
    have : within (-1 - parent) 0 (b.roots - 1) = decide (-b.roots ≤ parent) := by
      simp only [within]
      by_cases h : -b.roots ≤ parent
      · simp [h]; omega
      · simp [h]; omega
    simp [okParent, hc1, this]
  · have hc1 : ¬ parent < 0 := by simpa using hc1
    refine Runs.skip ?_
    refine Runs.seqE Ty_ok (by decide) fun k' hk' => ?_
    by_cases hlt : parent < (below : Int)
    · obtain ⟨q, rfl⟩ : ∃ q : Nat, parent = q := ⟨parent.toNat, by omega⟩
      have hq : q < b.nodes.length := by omega
      have hcq := hc q (by omega)
      have hg : b.nodes.getD q default = b.nodes[q] := by simp [hq]
      rw [hg] at hcq
      obtain ⟨c, hcc⟩ : ∃ c : Nat, b.nodes[q].control = c := ⟨b.nodes[q].control.toNat, by omega⟩
      have hcl : c < sig.length := by omega
      simp [hlt, encN, encSig, hq, GNode.cells, hcc, hcl, Control.cells, guardOf]   -- R3
      refine hk' _ _ _ ?_
      refine Runs.ret Tryd.func132 (RetOk.one Tryd.results132) (hQ _ _ _ _ (.v _ _ _) ?_)
      have hlt' : q < below := by omega
      simp [okParent, hlt', hq, hcc, hcl]
      rfl
    · simp [hlt, guardOf]   -- R3
      refine hk' _ _ _ ?_
      exact Runs.ret Tryd.func132 (RetOk.one Tryd.results132) (hQ _ _ _ _ (.v _ _ _) (by simp [okParent, hc1, hlt]))
end Go.Ab
