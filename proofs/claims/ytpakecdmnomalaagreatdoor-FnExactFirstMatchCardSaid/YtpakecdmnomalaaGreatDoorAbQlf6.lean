/- Merged texts (6 of 13) of the proof that ends in Lfy: W Gb Gc Gd Ge Gf Gg Gh Gi Gj Gk Gl Gx L2k Ma Sc Re. -/
import Derived.Test.YtpakecdmnomalaaGreatDoorAbQlf5
import Derived.Laws.CopyRow
import Derived.Laws.IdiomCopy
/- Contracts of spec.l1In, spec.l2Name and spec.l12Good. -/
namespace Go.Ab
open Go.Proofs
set_option linter.unusedSimpArgs false
theorem e150 : Ent Tryz.prog 150 := Ent.of Tryz.func150 (by kernel_rfl) rfl
theorem e177 : Ent Tryz.prog 177 := Ent.of Tryz.func177 (by kernel_rfl) rfl
theorem l1In_ok (n lo hi : Int) : PureC Tryz.prog 150 [int n, int lo, int hi] (fun r => r = bool (within n lo hi)) := by
 refine PureC.of Tryz.func150 rfl Tryz.ntmps150 (by simp) fun Q hQ => ?_
 refine Runs.seqE Ty_ok (by decide) fun k' hk' => ?_
 simp
 refine hk' _ _ _ (Runs.seqE Ty_ok (by decide) fun k' hk' => ?_)
 simp
 by_cases h : lo ≤ n
 all_goals
  simp [h]
  refine hk' _ _ _ (Runs.ret Tryz.func150 (RetOk.one Tryz.results150) (hQ _ _ _ _ (ResOk.v _ _ _) ?_))
  simp [within, h]
theorem isNm_bad {s : Str} {k : Nat} (hk : k < s.length) (h : lower s[k] = false) : isNm s = false := by
 have : s.all lower = false := by
  rw [List.all_eq_false]
  exact ⟨s[k], List.getElem_mem hk, by simp [h]⟩
 simp [isNm, this]
theorem l2Name_ok (s : Str) (hs : s.length ≤ 4294967296) : PureC Tryz.prog 177 [str s] (fun r => r = bool (isNm s)) := by
 refine PureC.of Tryz.func177 rfl Tryz.ntmps177 (by simp) fun Q hQ => ?_
 refine Runs.seqE Ty_ok (by decide) fun k' hk' => ?_
 simp   -- R0
 refine hk' _ _ _ ?_
 refine Runs.seq ?_
 refine Runs.seqE Ty_ok (by decide) fun k' hk' => ?_
 simp   -- R1
 refine hk' _ _ _ ?_
 refine Runs.block (Runs.loopUp s.length (fun k ρ H n => ρ 0 = str s ∧ ρ 3 = int k ∧ (s.take k).all lower = true) ?_ ?_)
 ·simp
 ·rintro k ρ H n hk ⟨h0, h3, hall⟩ IH
  refine Runs.seq ?_
  refine Runs.seqE Ty_ok (by decide) fun k' hk' => ?_
  simp [h0, h3]   -- R2
  refine hk' _ _ _ ?_
  refine Runs.ite rfl (fun hc1 => ?_) (fun hc1 => ?_)   -- t7
  ·simp at hc1
   refine Runs.skip ?_
   refine Runs.seq ?_
   refine Runs.block ?_
   refine Runs.seqE Ty_ok (by decide) fun k' hk' => ?_
   simp [h0, h3, hc1]   -- R4
   by_cases ha : (s[k].toNat : Int) < 97
   ·simp [ha]
    refine hk' _ _ _ ?_
    refine Runs.ite rfl (fun _ => ?_) (fun h => by simp at h)
    refine Runs.seqE Ty_ok (by decide) fun k' hk' => ?_
    simp   -- R5
    refine hk' _ _ _ ?_
    refine Runs.ret Tryz.func177 (RetOk.one Tryz.results177) (hQ _ _ _ _ (.v _ _ _) ?_)
    rw [isNm_bad hc1 (by simp [lower]; omega)]
   ·by_cases hz : (122 : Int) < s[k].toNat
    ·simp [ha, hz, h0, h3, hc1]
     refine hk' _ _ _ ?_
     refine Runs.ite rfl (fun _ => ?_) (fun h => by simp at h)
     refine Runs.seqE Ty_ok (by decide) fun k' hk' => ?_
     simp   -- R5
     refine hk' _ _ _ ?_
     refine Runs.ret Tryz.func177 (RetOk.one Tryz.results177) (hQ _ _ _ _ (.v _ _ _) ?_)
     rw [isNm_bad hc1 (by simp [lower]; omega)]
    ·simp [ha, hz, h0, h3, hc1]
     refine hk' _ _ _ ?_
     refine Runs.ite rfl (fun h => by simp at h) (fun _ => ?_)
     refine Runs.skip ?_
     refine Runs.inBlock ?_
     refine Runs.evalE Ty_ok (by decide) fun k' hk' => ?_
     simp [h3, wrap_succ (show k < 4611686018427387904 by omega)]   -- R3
     refine hk' _ _ _ ?_
     refine IH hc1 _ _ _ ?_
     rw [List.take_succ_eq_append_getElem hc1, List.all_append, hall]
     simp [h0, lower]
     omega
  ·simp at hc1
   refine Runs.exit rfl ?_
   refine Runs.seqE Ty_ok (by decide) fun k' hk' => ?_
   simp [h0]   -- R6
   refine RunK.callA Ty_ok (l1In_ok s.length 1 4) e150 (.cons (.v _ _ _) (.cons (.v _ _ _) (.cons (.v _ _ _) .nil))) (by decide) (by decide) rfl (by simp) ?_
   rintro _ rfl
   simp
   refine hk' _ _ _ ?_
   refine Runs.ret Tryz.func177 (RetOk.one Tryz.results177) (hQ _ _ _ _ (.v _ _ _) ?_)
   rw [List.take_of_length_le hc1] at hall
   simp only [isNm, hall, Bool.and_true]
end Go.Ab
/- Contracts of impl.isLink, impl.isParent, impl.isNode and of their like in the reference. -/
namespace Go.Ab
open Go.Proofs
set_option linter.unusedSimpArgs false
theorem e118 : Ent Tryz.prog 118 := Ent.of Tryz.func118 (by kernel_rfl) rfl
theorem e155 : Ent Tryz.prog 155 := Ent.of Tryz.func155 (by kernel_rfl) rfl
theorem e116 : Ent Tryz.prog 116 := Ent.of Tryz.func116 (by kernel_rfl) rfl
theorem e154 : Ent Tryz.prog 154 := Ent.of Tryz.func154 (by kernel_rfl) rfl
theorem e124 : Ent Tryz.prog 124 := Ent.of Tryz.func124 (by kernel_rfl) rfl
theorem e158 : Ent Tryz.prog 158 := Ent.of Tryz.func158 (by kernel_rfl) rfl
theorem isLink_ok (b : Big) (l : Int) (he : 0 ≤ b.edges ∧ b.edges ≤ 8) (ho : b.outer.length ≤ 1048576) : PureC Tryz.prog 118 [encB false b, int l] (fun r => r = bool (okLink b l)) := by
 have hw1 : IntKind.i64.wrap (b.edges + b.outer.length) = b.edges + b.outer.length := by rw [wrap64] <;> omega
 have hw2 : IntKind.i64.wrap (b.edges + b.outer.length - 1) = b.edges + b.outer.length - 1 := by rw [wrap64] <;> omega
 refine PureC.of Tryz.func118 rfl Tryz.ntmps118 (by simp) fun Q hQ => ?_
 refine Runs.seqE Ty_ok (by decide) fun k' hk' => ?_
 simp [encB, Big.cells]   -- R0
 refine hk' _ _ _ ?_
 refine Runs.seqE Ty_ok (by decide) fun k' hk' => ?_
 simp [encS, hw1, hw2]   -- R1
 refine RunK.callA Ty_ok (within_ok l 0 (b.edges + b.outer.length - 1)) e113 (.cons (.v _ _ _) (.cons (.v _ _ _) (.cons (.v _ _ _) .nil))) (by decide) (by decide) rfl (by simp) ?_
 rintro _ rfl
 simp
 refine hk' _ _ _ ?_
 exact Runs.ret Tryz.func118 (RetOk.one Tryz.results118) (hQ _ _ _ _ (.v _ _ _) rfl)
theorem l2Link_ok (b : Big) (l : Int) (he : 0 ≤ b.edges ∧ b.edges ≤ 8) (ho : b.outer.length ≤ 1048576) : PureC Tryz.prog 155 [encB false b, int l] (fun r => r = bool (okLink b l)) := by
 have hw1 : IntKind.i64.wrap (b.edges + b.outer.length) = b.edges + b.outer.length := by rw [wrap64] <;> omega
 have hw2 : IntKind.i64.wrap (b.edges + b.outer.length - 1) = b.edges + b.outer.length - 1 := by rw [wrap64] <;> omega
 refine PureC.of Tryz.func155 rfl Tryz.ntmps155 (by simp) fun Q hQ => ?_
 refine Runs.seqE Ty_ok (by decide) fun k' hk' => ?_
 simp [encB, Big.cells]   -- R0
 refine hk' _ _ _ ?_
 refine Runs.seqE Ty_ok (by decide) fun k' hk' => ?_
 simp [encS, hw1, hw2]   -- R1
 refine RunK.callA Ty_ok (l1In_ok l 0 (b.edges + b.outer.length - 1)) e150 (.cons (.v _ _ _) (.cons (.v _ _ _) (.cons (.v _ _ _) .nil))) (by decide) (by decide) rfl (by simp) ?_
 rintro _ rfl
 simp
 refine hk' _ _ _ ?_
 exact Runs.ret Tryz.func155 (RetOk.one Tryz.results155) (hQ _ _ _ _ (.v _ _ _) rfl)
def isNodeB (b : Big) (x : Int) : Bool := within x 0 ((b.nodes.length : Int) - 1)
theorem isNodeB_ok (b : Big) (x : Int) (hn : b.nodes.length ≤ 1048576) : PureC Tryz.prog 124 [encB false b, int x] (fun r => r = bool (isNodeB b x)) := by
 have hw2 : IntKind.i64.wrap ((b.nodes.length : Int) - 1) = (b.nodes.length : Int) - 1 := by rw [wrap64] <;> omega
 refine PureC.of Tryz.func124 rfl Tryz.ntmps124 (by simp) fun Q hQ => ?_
 refine Runs.seqE Ty_ok (by decide) fun k' hk' => ?_
 simp [encB, Big.cells]   -- R0
 refine hk' _ _ _ ?_
 refine Runs.seqE Ty_ok (by decide) fun k' hk' => ?_
 simp [encN, hw2]   -- R1
 refine RunK.callA Ty_ok (within_ok x 0 ((b.nodes.length : Int) - 1)) e113 (.cons (.v _ _ _) (.cons (.v _ _ _) (.cons (.v _ _ _) .nil))) (by decide) (by decide) rfl (by simp) ?_
 rintro _ rfl
 simp
 refine hk' _ _ _ ?_
 exact Runs.ret Tryz.func124 (RetOk.one Tryz.results124) (hQ _ _ _ _ (.v _ _ _) rfl)
theorem l2Is_ok (b : Big) (x : Int) (hn : b.nodes.length ≤ 1048576) : PureC Tryz.prog 158 [encB false b, int x] (fun r => r = bool (isNodeB b x)) := by
 have hw2 : IntKind.i64.wrap ((b.nodes.length : Int) - 1) = (b.nodes.length : Int) - 1 := by rw [wrap64] <;> omega
 refine PureC.of Tryz.func158 rfl Tryz.ntmps158 (by simp) fun Q hQ => ?_
 refine Runs.seqE Ty_ok (by decide) fun k' hk' => ?_
 simp [encB, Big.cells]   -- R0
 refine hk' _ _ _ ?_
 refine Runs.seqE Ty_ok (by decide) fun k' hk' => ?_
 simp [encN, hw2]   -- R1
 refine RunK.callA Ty_ok (l1In_ok x 0 ((b.nodes.length : Int) - 1)) e150 (.cons (.v _ _ _) (.cons (.v _ _ _) (.cons (.v _ _ _) .nil))) (by decide) (by decide) rfl (by simp) ?_
 rintro _ rfl
 simp
 refine hk' _ _ _ ?_
 exact Runs.ret Tryz.func158 (RetOk.one Tryz.results158) (hQ _ _ _ _ (.v _ _ _) rfl)
def CtlOk (sig : Sig) (b : Big) (below : Nat) : Prop := ∀ i, i < below → 0 ≤ (b.nodes.getD i default).control ∧ (b.nodes.getD i default).control < sig.length
theorem isParent_ok (sig : Sig) (b : Big) (parent : Int) (below : Nat) (hr : 0 ≤ b.roots ∧ b.roots ≤ 4) (hb : below ≤ b.nodes.length) (hc : CtlOk sig b below) :
  PureC Tryz.prog 116 [encB false b, encSig false sig, int parent, int below] (fun r => r = bool (okParent sig b parent below)) := by
 refine PureC.of Tryz.func116 rfl Tryz.ntmps116 (by simp) fun Q hQ => ?_
 refine Runs.seqE Ty_ok (by decide) fun k' hk' => ?_
 simp [encB, Big.cells]   -- R0
 refine hk' _ _ _ ?_
 refine Runs.seq ?_
 refine Runs.seqE Ty_ok (by decide) fun k' hk' => ?_
 simp   -- R1
 refine hk' _ _ _ ?_
 refine Runs.ite rfl (fun hc1 => ?_) (fun hc1 => ?_)   -- t10
 ·have hc1 : parent < 0 := by simpa using hc1
  have hw : IntKind.i64.wrap (0 - b.roots) = -b.roots := by rw [wrap64] <;> omega
  refine Runs.seqE Ty_ok (by decide) fun k' hk' => ?_
  have hw' : IntKind.i64.wrap (-b.roots) = -b.roots := by rw [wrap64] <;> omega
  simp [hw, hw']   -- R2
  refine hk' _ _ _ ?_
  exact Runs.ret Tryz.func116 (RetOk.one Tryz.results116) (hQ _ _ _ _ (.v _ _ _) (by simp [okParent, hc1]))
 ·have hc1 : ¬ parent < 0 := by simpa using hc1
  refine Runs.skip ?_
  refine Runs.seqE Ty_ok (by decide) fun k' hk' => ?_
  by_cases hlt : parent < (below : Int)
  ·obtain ⟨q, rfl⟩ : ∃ q : Nat, parent = q := ⟨parent.toNat, by omega⟩
   have hq : q < b.nodes.length := by omega
   have hcq := hc q (by omega)
   have hg : b.nodes.getD q default = b.nodes[q] := by simp [hq]
   rw [hg] at hcq
   obtain ⟨c, hcc⟩ : ∃ c : Nat, b.nodes[q].control = c := ⟨b.nodes[q].control.toNat, by omega⟩
   have hcl : c < sig.length := by omega
   simp [hlt, encN, encSig, hq, GNode.cells, hcc, hcl, Control.cells, guardOf]   -- R3
   refine hk' _ _ _ ?_
   refine Runs.ret Tryz.func116 (RetOk.one Tryz.results116) (hQ _ _ _ _ (.v _ _ _) ?_)
   have hlt' : q < below := by omega
   simp [okParent, hlt', hq, hcc, hcl]
   rfl
  ·simp [hlt, guardOf]   -- R3
   refine hk' _ _ _ ?_
   exact Runs.ret Tryz.func116 (RetOk.one Tryz.results116) (hQ _ _ _ _ (.v _ _ _) (by simp [okParent, hc1, hlt]))
theorem l2Under_ok (sig : Sig) (b : Big) (parent : Int) (below : Nat) (hp : I64 parent) (hr : 0 ≤ b.roots ∧ b.roots ≤ 4) (hb : below ≤ b.nodes.length) (hc : CtlOk sig b below) :
  PureC Tryz.prog 154 [encSig false sig, encB false b, int parent, int below] (fun r => r = bool (okParent sig b parent below)) := by
 obtain ⟨hp1, hp2⟩ := hp
 refine PureC.of Tryz.func154 rfl Tryz.ntmps154 (by simp) fun Q hQ => ?_
 refine Runs.seqE Ty_ok (by decide) fun k' hk' => ?_
 simp [encB, Big.cells]   -- R0
 refine hk' _ _ _ ?_
 refine Runs.seq ?_
 refine Runs.seqE Ty_ok (by decide) fun k' hk' => ?_
 simp   -- R1
 refine hk' _ _ _ ?_
 refine Runs.ite rfl (fun hc1 => ?_) (fun hc1 => ?_)   -- t10
 ·have hc1 : parent < 0 := by simpa using hc1
  have hw : IntKind.i64.wrap (-1 - parent) = -1 - parent := by rw [wrap64] <;> omega
  have hw2 : IntKind.i64.wrap (b.roots - 1) = b.roots - 1 := by rw [wrap64] <;> omega
  refine Runs.seqE Ty_ok (by decide) fun k' hk' => ?_
  simp [hw, hw2]   -- R2
  refine RunK.callA Ty_ok (l1In_ok (-1 - parent) 0 (b.roots - 1)) e150 (.cons (.v _ _ _) (.cons (.v _ _ _) (.cons (.v _ _ _) .nil))) (by decide) (by decide) rfl (by simp) ?_
  rintro _ rfl
  simp
  refine hk' _ _ _ ?_
  refine Runs.ret Tryz.func154 (RetOk.one Tryz.results154) (hQ _ _ _ _ (.v _ _ _) ?_)
  have : within (-1 - parent) 0 (b.roots - 1) = decide (-b.roots ≤ parent) := by
   simp only [within]
   by_cases h : -b.roots ≤ parent
   ·simp [h]; omega
   ·simp [h]; omega
  simp [okParent, hc1, this]
 ·have hc1 : ¬ parent < 0 := by simpa using hc1
  refine Runs.skip ?_
  refine Runs.seqE Ty_ok (by decide) fun k' hk' => ?_
  by_cases hlt : parent < (below : Int)
  ·obtain ⟨q, rfl⟩ : ∃ q : Nat, parent = q := ⟨parent.toNat, by omega⟩
   have hq : q < b.nodes.length := by omega
   have hcq := hc q (by omega)
   have hg : b.nodes.getD q default = b.nodes[q] := by simp [hq]
   rw [hg] at hcq
   obtain ⟨c, hcc⟩ : ∃ c : Nat, b.nodes[q].control = c := ⟨b.nodes[q].control.toNat, by omega⟩
   have hcl : c < sig.length := by omega
   simp [hlt, encN, encSig, hq, GNode.cells, hcc, hcl, Control.cells, guardOf]   -- R3
   refine hk' _ _ _ ?_
   refine Runs.ret Tryz.func154 (RetOk.one Tryz.results154) (hQ _ _ _ _ (.v _ _ _) ?_)
   have hlt' : q < below := by omega
   simp [okParent, hlt', hq, hcc, hcl]
   rfl
  ·simp [hlt, guardOf]   -- R3
   refine hk' _ _ _ ?_
   exact Runs.ret Tryz.func154 (RetOk.one Tryz.results154) (hQ _ _ _ _ (.v _ _ _) (by simp [okParent, hc1, hlt]))
end Go.Ab
/- Contracts of impl.areNames and spec.l2Names. -/
namespace Go.Ab
open Go.Proofs
set_option linter.unusedSimpArgs false
theorem e114 : Ent Tryz.prog 114 := Ent.of Tryz.func114 (by kernel_rfl) rfl
theorem e151 : Ent Tryz.prog 151 := Ent.of Tryz.func151 (by kernel_rfl) rfl
theorem less_not : ∀ (s p : Str), (Op.bytesLess s p || s == p) = !Op.bytesLess p s
 | [], [] => by simp [Op.bytesLess]
 | [], _ :: _ => by simp [Op.bytesLess]
 | _ :: _, [] => by simp [Op.bytesLess]
 | a :: x, b :: y => by
  have ih := less_not x y
  simp only [Op.bytesLess]
  rcases Nat.lt_trichotomy a.toNat b.toNat with h | h | h
  ·have h1 : a < b := h
   have h2 : ¬ b < a := fun h' => by have h' : b.toNat < a.toNat := h'; omega
   have h3 : (b == a) = false := by
    rw [beq_eq_false_iff_ne]
    rintro rfl
    omega
   simp [h1, h2, h3]
  ·have h0 : a = b := UInt8.toNat_inj.1 h
   subst h0
   have h2 : ¬ a < a := fun h' => by have h' : a.toNat < a.toNat := h'; omega
   simp [h2]
   rw [← ih]
   try (cases Op.bytesLess x y <;> simp)
   try (by_cases hxy : x = y <;> simp [hxy])
  ·have h1 : b < a := h
   have h2 : ¬ a < b := fun h' => by have h' : a.toNat < b.toNat := h'; omega
   have h3 : (a == b) = false := by
    rw [beq_eq_false_iff_ne]
    rintro rfl
    omega
   have h4 : ¬ a = b := by simpa using h3
   simp [h1, h2, h4]
theorem all_range_bad {n k : Nat} {q : Nat → Bool} (hk : k < n) (h : q k = false) : (List.range n).all q = false := by
 rw [List.all_eq_false]
 exact ⟨k, by simpa using hk, by simp [h]⟩
theorem all_range_end {n : Nat} {q : Nat → Bool} (h : ∀ i, i < n → q i = true) : (List.range n).all q = true := by
 simpa [List.all_eq_true] using h
def okName (l : List Str) (i : Nat) : Bool := isNm (l.getD i []) && ascends l i
theorem goodNames_eq (l : List Str) : goodNames l = (decide (l.length ≤ 16) && (List.range l.length).all (okName l)) := rfl
theorem areNames_ok (l : List Str) (hl : l.length ≤ 1048576) (hs : ∀ s ∈ l, s.length ≤ 1048576) : PureC Tryz.prog 114 [encS false l] (fun r => r = bool (goodNames l)) := by
 refine PureC.of Tryz.func114 rfl Tryz.ntmps114 (by simp) fun Q hQ => ?_
 refine Runs.seqE Ty_ok (by decide) fun k' hk' => ?_
 simp [encS]   -- R0
 refine hk' _ _ _ ?_
 refine Runs.seq ?_
 refine Runs.seqE Ty_ok (by decide) fun k' hk' => ?_
 simp   -- R1
 refine hk' _ _ _ ?_
 refine Runs.block (Runs.loopUp l.length (fun k ρ H n => ρ 0 = .list false (l.map strC) ∧ ρ 5 = .list false (l.map strC) ∧ ρ 6 = int l.length ∧ ρ 7 = int k ∧ ∀ i, i < k → okName l i = true) ?_ ?_)
 ·simp
 ·rintro k ρ H n hk ⟨h0, h5, h6, h7, hall⟩ IH
  refine Runs.seqE Ty_ok (by decide) fun k' hk' => ?_
  simp [h6, h7]   -- R2
  refine hk' _ _ _ ?_
  refine Runs.seq ?_
  refine Runs.ite rfl (fun hc1 => ?_) (fun hc1 => ?_)   -- t8
  ·have hc1 : k < l.length := by simpa using hc1
   refine Runs.skip ?_
   refine Runs.seq ?_
   refine Runs.block ?_
   refine Runs.seqE Ty_ok (by decide) fun k' hk' => ?_
   simp [h5, h7, hc1, strC]   -- R3
   refine hk' _ _ _ ?_
   refine Runs.seqE Ty_ok (by decide) fun k' hk' => ?_
   have fin : ∀ ρ : Env, ρ 0 = .list false (l.map strC) → ρ 5 = .list false (l.map strC) → ρ 6 = int l.length → ρ 7 = int k → ρ 27 = bool (!okName l k) → Runs Tryz.prog 114 32 k' ρ H n Q := by
    intro ρ h0 h5 h6 h7 h27
    refine hk' _ _ _ ?_
    refine Runs.ite h27 (fun hc2 => ?_) (fun hc2 => ?_)   -- t27
    ·have hb : okName l k = false := by simpa using hc2
     refine Runs.seqE Ty_ok (by decide) fun k' hk' => ?_
     simp   -- R5
     refine hk' _ _ _ ?_
     exact Runs.ret Tryz.func114 (RetOk.one Tryz.results114) (hQ _ _ _ _ (.v _ _ _) (by rw [goodNames_eq, all_range_bad hc1 hb, Bool.and_false]))
    ·have hb : okName l k = true := by simpa using hc2
     refine Runs.skip ?_
     refine Runs.inBlock ?_
     refine Runs.evalE Ty_ok (by decide) fun k' hk' => ?_
     simp [h7, wrap_succ (show k < 4611686018427387904 by omega)]   -- R6
     refine hk' _ _ _ ?_
     refine IH hc1 _ _ _ ⟨by simp [h0], by simp [h5], by simp [h6], by simp, fun i hi => ?_⟩
     rcases Nat.lt_or_ge i k with h | h
     ·exact hall i h
     ·rw [show i = k by omega]; exact hb
   have hgk : l.getD k [] = l[k] := by simp [hc1]
   simp   -- R4
   refine RunK.callA Ty_ok (isName_ok l[k] (Nat.le_trans (hs _ (List.getElem_mem hc1)) (by decide))) e162 (.cons (.v _ _ _) .nil) (by decide) (by decide) rfl (by simp) ?_
   rintro _ rfl
   cases hnm : isNm l[k]
   ·simp [guardOf]
    exact fin _ (by simp [h0]) (by simp [h5]) (by simp [h6]) (by simp [h7]) (by simp [okName, hc1, hnm])
   ·by_cases hk0 : k = 0
    ·subst hk0
     simp [guardOf]
     exact fin _ (by simp [h0]) (by simp [h5]) (by simp [h6]) (by simp [h7]) (by simp [okName, hc1, hnm, ascends])
    ·have hk1 : 0 < k := by omega
     have hw : IntKind.i64.wrap ((k : Int) - 1) = ((k - 1 : Nat) : Int) := by rw [wrap64] <;> omega
     have hkl : k - 1 < l.length := by omega
     have hgk1 : l.getD (k - 1) [] = l[k - 1] := by simp [hkl]
     have hp := less_not l[k] l[k - 1]
     simp [guardOf, hk1, h0, hw, hkl, strC]
     refine fin _ (by simp [h0]) (by simp [h5]) (by simp [h6]) (by simp [h7]) ?_
     simp only [okName, hgk, hnm, ascends, hgk1, hk0, decide_false, Bool.false_or, Bool.true_and]
     rw [← hp]
     simp
  ·have hc1 : ¬ k < l.length := by simpa using hc1
   have hke : k = l.length := by omega
   subst hke
   refine Runs.exit rfl ?_
   refine Runs.seqE Ty_ok (by decide) fun k' hk' => ?_
   simp [h0]   -- R7
   refine hk' _ _ _ ?_
   refine Runs.ret Tryz.func114 (RetOk.one Tryz.results114) (hQ _ _ _ _ (.v _ _ _) ?_)
   rw [goodNames_eq, all_range_end hall]
   simp
   omega
end Go.Ab
/- Contracts of spec.l2Names, impl.innerNames and spec.l2Inner. -/
namespace Go.Ab
open Go.Proofs
set_option linter.unusedSimpArgs false
theorem e115 : Ent Tryz.prog 115 := Ent.of Tryz.func115 (by kernel_rfl) rfl
theorem e152 : Ent Tryz.prog 152 := Ent.of Tryz.func152 (by kernel_rfl) rfl
theorem l2Names_ok (l : List Str) (hl : l.length ≤ 1048576) (hs : ∀ s ∈ l, s.length ≤ 1048576) : PureC Tryz.prog 151 [encS false l] (fun r => r = bool (goodNames l)) := by
 refine PureC.of Tryz.func151 rfl Tryz.ntmps151 (by simp) fun Q hQ => ?_
 refine Runs.seqE Ty_ok (by decide) fun k' hk' => ?_
 simp [encS]   -- R0
 refine hk' _ _ _ ?_
 refine Runs.seq ?_
 refine Runs.seqE Ty_ok (by decide) fun k' hk' => ?_
 simp   -- R1
 refine hk' _ _ _ ?_
 refine Runs.block (Runs.loopUp l.length (fun k ρ H n => ρ 0 = .list false (l.map strC) ∧ ρ 3 = int k ∧ ∀ i, i < k → okName l i = true) ?_ ?_)
 ·simp
 ·rintro k ρ H n hk ⟨h0, h3, hall⟩ IH
  refine Runs.seq ?_
  refine Runs.seqE Ty_ok (by decide) fun k' hk' => ?_
  simp [h0, h3]   -- R2
  refine hk' _ _ _ ?_
  refine Runs.ite rfl (fun hc1 => ?_) (fun hc1 => ?_)   -- t7
  ·have hc1 : k < l.length := by simpa using hc1
   refine Runs.skip ?_
   refine Runs.seq ?_
   refine Runs.block ?_
   refine Runs.seqD Ty_ok kindOp_ok draws (by decide) (by kernel_rfl) fun k' hk' => ?_
   have fin : ∀ ρ : Env, ρ 0 = .list false (l.map strC) → ρ 3 = int k → ρ 31 = bool (!okName l k) → Runs Tryz.prog 151 35 k' ρ H n Q := by
    intro ρ h0 h3 h31
    refine hk' _ _ _ ?_
    refine Runs.ite h31 (fun hc2 => ?_) (fun hc2 => ?_)
    ·have hb : okName l k = false := by simpa using hc2
     refine Runs.seqE Ty_ok (by decide) fun k' hk' => ?_
     simp   -- R5
     refine hk' _ _ _ ?_
     exact Runs.ret Tryz.func151 (RetOk.one Tryz.results151) (hQ _ _ _ _ (.v _ _ _) (by rw [goodNames_eq, all_range_bad hc1 hb, Bool.and_false]))
    ·have hb : okName l k = true := by simpa using hc2
     refine Runs.skip ?_
     refine Runs.inBlock ?_
     refine Runs.evalE Ty_ok (by decide) fun k' hk' => ?_
     simp [h3, wrap_succ (show k < 4611686018427387904 by omega)]   -- R3
     refine hk' _ _ _ ?_
     refine IH hc1 _ _ _ ⟨by simp [h0], by simp, fun i hi => ?_⟩
     rcases Nat.lt_or_ge i k with h | h
     ·exact hall i h
     ·rw [show i = k by omega]; exact hb
   have hgk : l.getD k [] = l[k] := by simp [hc1]
   simp [h0, h3, hc1, strC]   -- R4
   refine RunDK.callA Ty_ok kindOp_ok (l2Name_ok l[k] (Nat.le_trans (hs _ (List.getElem_mem hc1)) (by decide))) e177 (.cons (.v _ _ _) .nil) (by decide) rfl (by simp) ?_
   cases hnm : isNm l[k]
   ·simp [guardOf]
    exact fin _ (by simp [h0, strC]) (by simp [h3]) (by simp [okName, hc1, hnm])
   ·by_cases hk0 : k = 0
    ·subst hk0
     simp [h3, guardOf]
     exact fin _ (by simp [h0, strC]) (by simp [h3]) (by simp [okName, hc1, hnm, ascends])
    ·have hk1 : 0 < k := by omega
     have hw : IntKind.i64.wrap ((k : Int) - 1) = ((k - 1 : Nat) : Int) := by rw [wrap64] <;> omega
     have hkl : k - 1 < l.length := by omega
     have hgk1 : l.getD (k - 1) [] = l[k - 1] := by simp [hkl]
     simp [guardOf, hk1, h0, h3, hw, hkl, hc1, strC]
     refine fin _ (by simp [h0, strC]) (by simp [h3]) ?_
     simp only [okName, hgk, hnm, ascends, hgk1, hk0, decide_false, Bool.false_or, Bool.true_and]
     simp
  ·have hc1 : ¬ k < l.length := by simpa using hc1
   have hke : k = l.length := by omega
   subst hke
   refine Runs.exit rfl ?_
   refine Runs.seqE Ty_ok (by decide) fun k' hk' => ?_
   simp [h0]   -- R6
   refine hk' _ _ _ ?_
   refine Runs.ret Tryz.func151 (RetOk.one Tryz.results151) (hQ _ _ _ _ (.v _ _ _) ?_)
   rw [goodNames_eq, all_range_end hall]
   simp
   omega
def names (b : Big) : List Str := b.inner.map (·.name)
theorem innerNames_ok (b : Big) (hl : b.inner.length ≤ 1048576) : PureC Tryz.prog 115 [encB false b] (fun r => r = encS true (names b)) := by
 refine PureC.of Tryz.func115 rfl Tryz.ntmps115 (by simp) fun Q hQ => ?_
 refine Runs.seqE Ty_ok (by decide) fun k' hk' => ?_
 simp [encB, Big.cells]   -- R0
 refine hk' _ _ _ ?_
 refine Runs.seqE Ty_ok (by decide) fun k' hk' => ?_
 simp   -- R1
 refine hk' _ _ _ ?_
 refine Runs.seq ?_
 refine Runs.seqE Ty_ok (by decide) fun k' hk' => ?_
 simp [encW]   -- R2
 refine hk' _ _ _ ?_
 refine Runs.block (Runs.loopUp b.inner.length (fun k ρ H n => ρ 8 = .list false (b.inner.map Wire.cells) ∧ ρ 9 = int b.inner.length ∧ ρ 10 = int k ∧ ρ 3 = .arr (1, 6) k 0 k ∧ H (1, 6) = some ⟨1, ((names b).take k).map strC⟩) ?_ ?_)
 ·simp
 ·rintro k ρ H n hk ⟨h8, h9, h10, h3, hH⟩ IH
  refine Runs.seqE Ty_ok (by decide) fun k' hk' => ?_
  simp [h9, h10]   -- R3
  refine hk' _ _ _ ?_
  refine Runs.seq ?_
  refine Runs.ite rfl (fun hc1 => ?_) (fun hc1 => ?_)   -- t11
  ·have hc1 : k < b.inner.length := by simpa using hc1
   have htk : (((names b).take k).map strC).length = k := by simp [names]; omega
   have hts : (names b).take (k + 1) = (names b).take k ++ [b.inner[k].name] := by
    rw [List.take_succ_eq_append_getElem (by simpa [names] using hc1)]
    simp [names]
   refine Runs.skip ?_
   refine Runs.seq ?_
   refine Runs.block ?_
   refine Runs.seqE Ty_ok (by decide) fun k' hk' => ?_
   simp [h8, h10, hc1, Wire.cells]   -- R4
   refine hk' _ _ _ ?_
   refine Runs.evalE Ty_ok (by decide) fun k' hk' => ?_
   generalize hels : ((names b).take k).map strC = els at hH htk
   simp [h3, hH, htk, live, show k ≤ 1073741823 by omega]   -- R5
   refine hk' _ _ _ ?_
   refine Runs.inBlock ?_
   refine Runs.evalE Ty_ok (by decide) fun k' hk' => ?_
   simp [h10, wrap_succ (show k < 4611686018427387904 by omega)]   -- R6
   refine hk' _ _ _ ?_
   refine IH hc1 _ _ _ ⟨by simp [h8], by simp [h9], by simp, by simp, ?_⟩
   simp [hts, ← hels, strC]
  ·have hc1 : ¬ k < b.inner.length := by simpa using hc1
   have hke : k = b.inner.length := by omega
   subst hke
   refine Runs.exit rfl ?_
   refine Runs.seqE Ty_ok (by decide) fun k' hk' => ?_
   simp [h3]   -- R7
   refine hk' _ _ _ ?_
   have he : (names b).take b.inner.length = names b := List.take_of_length_le (by simp [names])
   rw [he] at hH
   exact Runs.ret Tryz.func115 (RetOk.one Tryz.results115) (hQ _ _ _ _ (.of (Ret.arrF (by simp [live, hH, names]; rfl) (by simp [strC]))) rfl)
theorem l2Inner_ok (b : Big) (hl : b.inner.length ≤ 1048576) : PureC Tryz.prog 152 [encB false b] (fun r => r = encS true (names b)) := by
 refine PureC.of Tryz.func152 rfl Tryz.ntmps152 (by simp) fun Q hQ => ?_
 refine Runs.seqE Ty_ok (by decide) fun k' hk' => ?_
 simp [encB, Big.cells]   -- R0
 refine hk' _ _ _ ?_
 refine Runs.seqE Ty_ok (by decide) fun k' hk' => ?_
 simp   -- R1
 refine hk' _ _ _ ?_
 refine Runs.seq ?_
 refine Runs.seqE Ty_ok (by decide) fun k' hk' => ?_
 simp [encW]   -- R2
 refine hk' _ _ _ ?_
 refine Runs.block (Runs.loopUp b.inner.length (fun k ρ H n => ρ 1 = .ptr (0, 1) 1 0 0 ∧ H (0, 1) = some ⟨6, [b.cells false]⟩ ∧ ρ 4 = int k ∧ ρ 3 = .arr (1, 5) k 0 k ∧ H (1, 5) = some ⟨1, ((names b).take k).map strC⟩) ?_ ?_)
 ·simp [Big.cells, encW]
 ·rintro k ρ H n hk ⟨h1, hb, h4, h3, hH⟩ IH
  refine Runs.seq ?_
  refine Runs.seqE Ty_ok (by decide) fun k' hk' => ?_
  simp [h1, hb, h4, Big.cells, encW]   -- R3
  refine hk' _ _ _ ?_
  refine Runs.ite rfl (fun hc1 => ?_) (fun hc1 => ?_)   -- t10
  ·have hc1 : k < b.inner.length := by simpa using hc1
   have htk : (((names b).take k).map strC).length = k := by simp [names]; omega
   have hts : (names b).take (k + 1) = (names b).take k ++ [b.inner[k].name] := by
    rw [List.take_succ_eq_append_getElem (by simpa [names] using hc1)]
    simp [names]
   refine Runs.skip ?_
   refine Runs.seq ?_
   refine Runs.block ?_
   refine Runs.evalE Ty_ok (by decide) fun k' hk' => ?_
   generalize hels : ((names b).take k).map strC = els at hH htk
   simp [h1, hb, h3, h4, hH, htk, hc1, live, Big.cells, encW, Wire.cells, show k ≤ 1073741823 by omega]   -- R5
   refine hk' _ _ _ ?_
   refine Runs.inBlock ?_
   refine Runs.evalE Ty_ok (by decide) fun k' hk' => ?_
   simp [h4, wrap_succ (show k < 4611686018427387904 by omega)]   -- R4
   refine hk' _ _ _ ?_
   refine IH hc1 _ _ _ ⟨by simp [h1], by simp [hb, Big.cells, encW], by simp, by simp, ?_⟩
   simp [hts, ← hels, strC]
  ·have hc1 : ¬ k < b.inner.length := by simpa using hc1
   have hke : k = b.inner.length := by omega
   subst hke
   refine Runs.exit rfl ?_
   refine Runs.seqE Ty_ok (by decide) fun k' hk' => ?_
   simp [h3]   -- R6
   refine hk' _ _ _ ?_
   have he : (names b).take b.inner.length = names b := List.take_of_length_le (by simp [names])
   rw [he] at hH
   exact Runs.ret Tryz.func152 (RetOk.one Tryz.results152) (hQ _ _ _ _ (.of (Ret.arrF (by simp [live, hH, names]; rfl) (by simp [strC]))) rfl)
end Go.Ab
/- Contracts of slices.IndexFunc and slices.ContainsFunc at three types. By program. -/
namespace Go.Ab
open Go.Proofs
set_option linter.unusedSimpArgs false
def idxF {α : Type} (l : List α) (p : α → Bool) : Int := if l.findIdx p < l.length then (l.findIdx p : Int) else -1
theorem idxF_at {α : Type} {l : List α} {p : α → Bool} {k : Nat} (hk : k < l.length) (h : p l[k] = true) (hno : ∀ i (h : i < l.length), i < k → p l[i] = false) : idxF l p = k := by
 have : l.findIdx p = k := (List.findIdx_eq hk).2 ⟨h, fun j hj => hno j (by omega) hj⟩
 rw [idxF, this, if_pos hk]
theorem idxF_no {α : Type} {l : List α} {p : α → Bool} (hno : ∀ i (h : i < l.length), p l[i] = false) : idxF l p = -1 := by
 have : l.findIdx p = l.length := List.findIdx_eq_length.2 fun x hx => by
  obtain ⟨i, hi, rfl⟩ := List.getElem_of_mem hx
  exact hno i hi
 rw [idxF, this, if_neg (Nat.lt_irrefl _)]
theorem idxF_any {α : Type} (l : List α) (p : α → Bool) : decide (0 ≤ idxF l p) = l.any p := by
 unfold idxF
 cases h : l.any p
 ·have : l.findIdx p = l.length := List.findIdx_eq_length.2 fun x hx => by
   rw [List.any_eq_false] at h
   simpa using h x hx
  rw [if_neg (by omega)]
  simp
 ·have : l.findIdx p < l.length := by
   rw [List.findIdx_lt_length]
   simpa [List.any_eq_true] using h
  rw [if_pos this]
  simp
theorem e102 : Ent Tryz.prog 102 := Ent.of Tryz.func102 (by kernel_rfl) rfl
theorem e78 : Ent Tryz.prog 78 := Ent.of Tryz.func78 (by kernel_rfl) rfl
theorem indexFuncI_ok {H : Heap} {n : Nat} {cl : AVal} (t : Bool) (l : List (Int)) (p : Int → Bool) (hl : l.length ≤ 1048576) (hcl : ∀ x ∈ l, ClosC Tryz.prog H n cl [int x] (fun r => r = bool (p x))) :
  StillC Tryz.prog 102 [.list t (l.map intC), cl] H n (fun r => r = int (idxF l p)) := by
 refine StillC.of Tryz.func102 rfl Tryz.ntmps102 (by simp) fun Q _ hQ => ?_
 refine Runs.seqE Ty_ok (by decide) fun k' hk' => ?_
 simp   -- R0
 refine hk' _ _ _ ?_
 refine Runs.seq ?_
 refine Runs.seqE Ty_ok (by decide) fun k' hk' => ?_
 simp   -- R1
 refine hk' _ _ _ ?_
 refine Runs.block (Runs.loopUp l.length (fun k ρ H' n' => ρ 0 = .list t (l.map intC) ∧ ρ 1 = cl ∧ ρ 7 = int l.length ∧ ρ 8 = int k ∧ H' = H ∧ n' = n ∧ ∀ i (h : i < l.length), i < k → p l[i] = false) ?_ ?_)
 ·simp
 ·rintro k ρ H' n' hk ⟨h0, h1, h7, h8, rfl, rfl, hno⟩ IH
  refine Runs.seqE Ty_ok (by decide) fun k' hk' => ?_
  simp [h7, h8]   -- R2
  refine hk' _ _ _ ?_
  refine Runs.seq ?_
  refine Runs.ite rfl (fun hc1 => ?_) (fun hc1 => ?_)   -- t9
  ·have hc1 : k < l.length := by simpa using hc1
   refine Runs.skip ?_
   refine Runs.seq ?_
   refine Runs.block ?_
   refine Runs.seqE Ty_ok (by decide) fun k' hk' => ?_
   simp [h8]   -- R3
   refine hk' _ _ _ ?_
   refine Runs.seqE Ty_ok (by decide) fun k' hk' => ?_
   simp [h0, h1, hc1, intC]   -- R4
   refine RunK.callF Ty_ok (hcl l[k] (List.getElem_mem hc1)) (by decide) (by decide) (by simp [h1]) (by simp) ?_
   rintro _ rfl
   simp
   refine hk' _ _ _ ?_
   refine Runs.ite rfl (fun hc2 => ?_) (fun hc2 => ?_)   -- t16
   ·have hc2 : p l[k] = true := by simpa using hc2
    refine Runs.seqE Ty_ok (by decide) fun k' hk' => ?_
    simp   -- R5
    refine hk' _ _ _ ?_
    refine Runs.ret Tryz.func102 (RetOk.one Tryz.results102) (hQ _ _ _ _ (.bnd (.v _)) (Frame.refl _ _) ?_)
    simp [idxF_at hc1 hc2 hno]
   ·have hc2 : p l[k] = false := by simpa using hc2
    refine Runs.skip ?_
    refine Runs.inBlock ?_
    refine Runs.evalE Ty_ok (by decide) fun k' hk' => ?_
    simp [h8, wrap_succ (show k < 4611686018427387904 by omega)]   -- R6
    refine hk' _ _ _ ?_
    refine IH hc1 _ _ _ ⟨by simp [h0, intC], by simp [h1], by simp [h7], by simp, rfl, rfl, fun i h hi => ?_⟩
    rcases Nat.lt_or_ge i k with hik | hik
    ·exact hno i h hik
    ·have : i = k := by omega
     subst this
     exact hc2
  ·have hc1 : ¬ k < l.length := by simpa using hc1
   have hke : k = l.length := by omega
   subst hke
   refine Runs.exit rfl ?_
   refine Runs.seqE Ty_ok (by decide) fun k' hk' => ?_
   simp   -- R7
   refine hk' _ _ _ ?_
   refine Runs.ret Tryz.func102 (RetOk.one Tryz.results102) (hQ _ _ _ _ (.bnd (.v _)) (Frame.refl _ _) ?_)
   simp [idxF_no fun i h => hno i h h]
theorem containsFuncI_ok {H : Heap} {n : Nat} {cl : AVal} (t : Bool) (l : List (Int)) (p : Int → Bool) (hl : l.length ≤ 1048576) (hcl : ∀ x ∈ l, ClosC Tryz.prog H n cl [int x] (fun r => r = bool (p x))) :
  StillC Tryz.prog 78 [.list t (l.map intC), cl] H n (fun r => r = bool (l.any p)) := by
 refine StillC.of Tryz.func78 rfl Tryz.ntmps78 (by simp) fun Q _ hQ => ?_
 refine Runs.seqE Ty_ok (by decide) fun k' hk' => ?_
 simp   -- R0
 refine hk' _ _ _ ?_
 refine Runs.seqE Ty_ok (by decide) fun k' hk' => ?_
 simp   -- R1
 refine RunK.callT Ty_ok (indexFuncI_ok t l p hl hcl) e102 (by decide) (by decide) rfl (by simp) ?_
 rintro _ rfl
 simp
 refine hk' _ _ _ ?_
 refine Runs.ret Tryz.func78 (RetOk.one Tryz.results78) (hQ _ _ _ _ (.bnd (.v _)) (Frame.refl _ _) ?_)
 simp [idxF_any]
theorem e165 : Ent Tryz.prog 165 := Ent.of Tryz.func165 (by kernel_rfl) rfl
theorem e120 : Ent Tryz.prog 120 := Ent.of Tryz.func120 (by kernel_rfl) rfl
theorem indexFuncW_ok {H : Heap} {n : Nat} {cl : AVal} (t : Bool) (l : List (Wire)) (p : Wire → Bool) (hl : l.length ≤ 1048576) (hcl : ∀ x ∈ l, ClosC Tryz.prog H n cl [.agg x.cells] (fun r => r = bool (p x))) :
  StillC Tryz.prog 165 [.list t (l.map Wire.cells), cl] H n (fun r => r = int (idxF l p)) := by
 refine StillC.of Tryz.func165 rfl Tryz.ntmps165 (by simp) fun Q _ hQ => ?_
 refine Runs.seqE Ty_ok (by decide) fun k' hk' => ?_
 simp   -- R0
 refine hk' _ _ _ ?_
 refine Runs.seq ?_
 refine Runs.seqE Ty_ok (by decide) fun k' hk' => ?_
 simp   -- R1
 refine hk' _ _ _ ?_
 refine Runs.block (Runs.loopUp l.length (fun k ρ H' n' => ρ 0 = .list t (l.map Wire.cells) ∧ ρ 1 = cl ∧ ρ 7 = int l.length ∧ ρ 8 = int k ∧ H' = H ∧ n' = n ∧ ∀ i (h : i < l.length), i < k → p l[i] = false) ?_ ?_)
 ·simp
 ·rintro k ρ H' n' hk ⟨h0, h1, h7, h8, rfl, rfl, hno⟩ IH
  refine Runs.seqE Ty_ok (by decide) fun k' hk' => ?_
  simp [h7, h8]   -- R2
  refine hk' _ _ _ ?_
  refine Runs.seq ?_
  refine Runs.ite rfl (fun hc1 => ?_) (fun hc1 => ?_)   -- t9
  ·have hc1 : k < l.length := by simpa using hc1
   refine Runs.skip ?_
   refine Runs.seq ?_
   refine Runs.block ?_
   refine Runs.seqE Ty_ok (by decide) fun k' hk' => ?_
   simp [h8]   -- R3
   refine hk' _ _ _ ?_
   refine Runs.seqE Ty_ok (by decide) fun k' hk' => ?_
   simp [h0, h1, hc1, Wire.cells]   -- R4
   refine RunK.callF Ty_ok (hcl l[k] (List.getElem_mem hc1)) (by decide) (by decide) (by simp [h1]) (by simp [Wire.cells]) ?_
   rintro _ rfl
   simp
   refine hk' _ _ _ ?_
   refine Runs.ite rfl (fun hc2 => ?_) (fun hc2 => ?_)   -- t16
   ·have hc2 : p l[k] = true := by simpa using hc2
    refine Runs.seqE Ty_ok (by decide) fun k' hk' => ?_
    simp   -- R5
    refine hk' _ _ _ ?_
    refine Runs.ret Tryz.func165 (RetOk.one Tryz.results165) (hQ _ _ _ _ (.bnd (.v _)) (Frame.refl _ _) ?_)
    simp [idxF_at hc1 hc2 hno]
   ·have hc2 : p l[k] = false := by simpa using hc2
    refine Runs.skip ?_
    refine Runs.inBlock ?_
    refine Runs.evalE Ty_ok (by decide) fun k' hk' => ?_
    simp [h8, wrap_succ (show k < 4611686018427387904 by omega)]   -- R6
    refine hk' _ _ _ ?_
    refine IH hc1 _ _ _ ⟨by simp [h0, Wire.cells], by simp [h1], by simp [h7], by simp, rfl, rfl, fun i h hi => ?_⟩
    rcases Nat.lt_or_ge i k with hik | hik
    ·exact hno i h hik
    ·have : i = k := by omega
     subst this
     exact hc2
  ·have hc1 : ¬ k < l.length := by simpa using hc1
   have hke : k = l.length := by omega
   subst hke
   refine Runs.exit rfl ?_
   refine Runs.seqE Ty_ok (by decide) fun k' hk' => ?_
   simp   -- R7
   refine hk' _ _ _ ?_
   refine Runs.ret Tryz.func165 (RetOk.one Tryz.results165) (hQ _ _ _ _ (.bnd (.v _)) (Frame.refl _ _) ?_)
   simp [idxF_no fun i h => hno i h h]
theorem containsFuncW_ok {H : Heap} {n : Nat} {cl : AVal} (t : Bool) (l : List (Wire)) (p : Wire → Bool) (hl : l.length ≤ 1048576) (hcl : ∀ x ∈ l, ClosC Tryz.prog H n cl [.agg x.cells] (fun r => r = bool (p x))) :
  StillC Tryz.prog 120 [.list t (l.map Wire.cells), cl] H n (fun r => r = bool (l.any p)) := by
 refine StillC.of Tryz.func120 rfl Tryz.ntmps120 (by simp) fun Q _ hQ => ?_
 refine Runs.seqE Ty_ok (by decide) fun k' hk' => ?_
 simp   -- R0
 refine hk' _ _ _ ?_
 refine Runs.seqE Ty_ok (by decide) fun k' hk' => ?_
 simp   -- R1
 refine RunK.callT Ty_ok (indexFuncW_ok t l p hl hcl) e165 (by decide) (by decide) rfl (by simp) ?_
 rintro _ rfl
 simp
 refine hk' _ _ _ ?_
 refine Runs.ret Tryz.func120 (RetOk.one Tryz.results120) (hQ _ _ _ _ (.bnd (.v _)) (Frame.refl _ _) ?_)
 simp [idxF_any]
theorem e181 : Ent Tryz.prog 181 := Ent.of Tryz.func181 (by kernel_rfl) rfl
theorem e163 : Ent Tryz.prog 163 := Ent.of Tryz.func163 (by kernel_rfl) rfl
theorem indexFuncC_ok {H : Heap} {n : Nat} {cl : AVal} (t : Bool) (l : List (Control)) (p : Control → Bool) (hl : l.length ≤ 1048576) (hcl : ∀ x ∈ l, ClosC Tryz.prog H n cl [.agg x.cells] (fun r => r = bool (p x))) :
  StillC Tryz.prog 181 [.list t (l.map Control.cells), cl] H n (fun r => r = int (idxF l p)) := by
 refine StillC.of Tryz.func181 rfl Tryz.ntmps181 (by simp) fun Q _ hQ => ?_
 refine Runs.seqE Ty_ok (by decide) fun k' hk' => ?_
 simp   -- R0
 refine hk' _ _ _ ?_
 refine Runs.seq ?_
 refine Runs.seqE Ty_ok (by decide) fun k' hk' => ?_
 simp   -- R1
 refine hk' _ _ _ ?_
 refine Runs.block (Runs.loopUp l.length (fun k ρ H' n' => ρ 0 = .list t (l.map Control.cells) ∧ ρ 1 = cl ∧ ρ 7 = int l.length ∧ ρ 8 = int k ∧ H' = H ∧ n' = n ∧ ∀ i (h : i < l.length), i < k → p l[i] = false) ?_ ?_)
 ·simp
 ·rintro k ρ H' n' hk ⟨h0, h1, h7, h8, rfl, rfl, hno⟩ IH
  refine Runs.seqE Ty_ok (by decide) fun k' hk' => ?_
  simp [h7, h8]   -- R2
  refine hk' _ _ _ ?_
  refine Runs.seq ?_
  refine Runs.ite rfl (fun hc1 => ?_) (fun hc1 => ?_)   -- t9
  ·have hc1 : k < l.length := by simpa using hc1
   refine Runs.skip ?_
   refine Runs.seq ?_
   refine Runs.block ?_
   refine Runs.seqE Ty_ok (by decide) fun k' hk' => ?_
   simp [h8]   -- R3
   refine hk' _ _ _ ?_
   refine Runs.seqE Ty_ok (by decide) fun k' hk' => ?_
   simp [h0, h1, hc1, Control.cells]   -- R4
   refine RunK.callF Ty_ok (hcl l[k] (List.getElem_mem hc1)) (by decide) (by decide) (by simp [h1]) (by simp [Control.cells]) ?_
   rintro _ rfl
   simp
   refine hk' _ _ _ ?_
   refine Runs.ite rfl (fun hc2 => ?_) (fun hc2 => ?_)   -- t16
   ·have hc2 : p l[k] = true := by simpa using hc2
    refine Runs.seqE Ty_ok (by decide) fun k' hk' => ?_
    simp   -- R5
    refine hk' _ _ _ ?_
    refine Runs.ret Tryz.func181 (RetOk.one Tryz.results181) (hQ _ _ _ _ (.bnd (.v _)) (Frame.refl _ _) ?_)
    simp [idxF_at hc1 hc2 hno]
   ·have hc2 : p l[k] = false := by simpa using hc2
    refine Runs.skip ?_
    refine Runs.inBlock ?_
    refine Runs.evalE Ty_ok (by decide) fun k' hk' => ?_
    simp [h8, wrap_succ (show k < 4611686018427387904 by omega)]   -- R6
    refine hk' _ _ _ ?_
    refine IH hc1 _ _ _ ⟨by simp [h0, Control.cells], by simp [h1], by simp [h7], by simp, rfl, rfl, fun i h hi => ?_⟩
    rcases Nat.lt_or_ge i k with hik | hik
    ·exact hno i h hik
    ·have : i = k := by omega
     subst this
     exact hc2
  ·have hc1 : ¬ k < l.length := by simpa using hc1
   have hke : k = l.length := by omega
   subst hke
   refine Runs.exit rfl ?_
   refine Runs.seqE Ty_ok (by decide) fun k' hk' => ?_
   simp   -- R7
   refine hk' _ _ _ ?_
   refine Runs.ret Tryz.func181 (RetOk.one Tryz.results181) (hQ _ _ _ _ (.bnd (.v _)) (Frame.refl _ _) ?_)
   simp [idxF_no fun i h => hno i h h]
theorem containsFuncC_ok {H : Heap} {n : Nat} {cl : AVal} (t : Bool) (l : List (Control)) (p : Control → Bool) (hl : l.length ≤ 1048576) (hcl : ∀ x ∈ l, ClosC Tryz.prog H n cl [.agg x.cells] (fun r => r = bool (p x))) :
  StillC Tryz.prog 163 [.list t (l.map Control.cells), cl] H n (fun r => r = bool (l.any p)) := by
 refine StillC.of Tryz.func163 rfl Tryz.ntmps163 (by simp) fun Q _ hQ => ?_
 refine Runs.seqE Ty_ok (by decide) fun k' hk' => ?_
 simp   -- R0
 refine hk' _ _ _ ?_
 refine Runs.seqE Ty_ok (by decide) fun k' hk' => ?_
 simp   -- R1
 refine RunK.callT Ty_ok (indexFuncC_ok t l p hl hcl) e181 (by decide) (by decide) rfl (by simp) ?_
 rintro _ rfl
 simp
 refine hk' _ _ _ ?_
 refine Runs.ret Tryz.func163 (RetOk.one Tryz.results163) (hQ _ _ _ _ (.bnd (.v _)) (Frame.refl _ _) ?_)
 simp [idxF_any]
end Go.Ab
/- Contracts of impl.IsSignature and spec.l2Sig. -/
namespace Go.Ab
open Go.Proofs
set_option linter.unusedSimpArgs false
theorem e112 : Ent Tryz.prog 112 := Ent.of Tryz.func112 (by kernel_rfl) rfl
theorem e149 : Ent Tryz.prog 149 := Ent.of Tryz.func149 (by kernel_rfl) rfl
theorem e164 : Ent Tryz.prog 164 := Ent.of Tryz.func164 (by kernel_rfl) rfl
theorem clos135 {H : Heap} {n : Nat} {X : Id} (c : Control) (hX : H X = some ⟨3, [c.cells]⟩) (d : Control) : ClosC Tryz.prog H n (.fn (.func 164) [] [.ptr X 1 0 0]) [.agg d.cells] (fun r => r = bool (d.name == c.name)) := by
 refine ⟨164, [], [.ptr X 1 0 0], rfl, e164, ?_⟩
 refine StillC.of Tryz.func164 rfl Tryz.ntmps164 (by simp) fun Q hB hQ => ?_
 have hXn := (hB X _ hX).1
 have hX2 : ¬ X = (n, 2) := by rintro rfl; simp at hXn
 refine Runs.seqE Ty_ok (by decide) fun k' hk' => ?_
 simp [Control.cells]   -- R0
 refine hk' _ _ _ ?_
 refine Runs.seqE Ty_ok (by decide) fun k' hk' => ?_
 simp [hX2, hX, Control.cells]   -- R1
 refine hk' _ _ _ ?_
 exact Runs.ret Tryz.func164 (RetOk.one Tryz.results164) (hQ _ _ _ _ (.bnd (.v _)) (Frame.set (by simp) (Frame.refl _ _)) (by simp))
def okCtl (sig : Sig) (i : Nat) : Bool := okControl (sig.getD i default) && newName sig i
theorem goodSig_eq (sig : Sig) : goodSig sig = (within sig.length 1 6 && (List.range sig.length).all (okCtl sig)) := rfl
theorem IsSignature_ok (sig : Sig) (hl : sig.length ≤ 1048576) (hs : ∀ c ∈ sig, c.name.length ≤ 1048576) : PureC Tryz.prog 112 [encSig false sig] (fun r => r = bool (goodSig sig)) := by
 refine PureC.of Tryz.func112 rfl Tryz.ntmps112 (by simp) fun Q hQ => ?_
 refine Runs.seqE Ty_ok (by decide) fun k' hk' => ?_
 simp [encSig]   -- R0
 refine hk' _ _ _ ?_
 refine Runs.seq ?_
 refine Runs.seqE Ty_ok (by decide) fun k' hk' => ?_
 simp   -- R1
 refine RunK.callA Ty_ok (within_ok sig.length 1 6) e113 (.cons (.v _ _ _) (.cons (.v _ _ _) (.cons (.v _ _ _) .nil))) (by decide) (by decide) rfl (by simp) ?_
 rintro _ rfl
 simp
 refine hk' _ _ _ ?_
 refine Runs.ite rfl (fun hc1 => ?_) (fun hc1 => ?_)   -- t8
 ·have hw : within sig.length 1 6 = false := by simpa using hc1
  refine Runs.seqE Ty_ok (by decide) fun k' hk' => ?_
  simp   -- R2
  refine hk' _ _ _ ?_
  exact Runs.ret Tryz.func112 (RetOk.one Tryz.results112) (hQ _ _ _ _ (.v _ _ _) (by rw [goodSig_eq, hw, Bool.false_and]))
 ·have hw : within sig.length 1 6 = true := by simpa using hc1
  refine Runs.skip ?_
  refine Runs.seq ?_
  refine Runs.seqE Ty_ok (by decide) fun k' hk' => ?_
  simp   -- R3
  refine hk' _ _ _ ?_
  refine Runs.block (Runs.loopUp sig.length (fun k ρ H n => ρ 0 = .list false (sig.map Control.cells) ∧ ρ 9 = .list false (sig.map Control.cells) ∧ ρ 10 = int sig.length ∧ ρ 11 = int k ∧ ∀ i, i < k → okCtl sig i = true) ?_ ?_)
  ·simp
  ·rintro k ρ H n hk ⟨h0, h9, h10, h11, hall⟩ IH
   refine Runs.seqE Ty_ok (by decide) fun k' hk' => ?_
   simp [h10, h11]   -- R4
   refine hk' _ _ _ ?_
   refine Runs.seq ?_
   refine Runs.ite rfl (fun hc1 => ?_) (fun hc1 => ?_)   -- t12
   ·have hc1 : k < sig.length := by simpa using hc1
    have hgk : sig.getD k default = sig[k] := by simp [hc1]
    refine Runs.skip ?_
    refine Runs.seq ?_
    refine Runs.block ?_
    refine Runs.seqE Ty_ok (by decide) fun k' hk' => ?_
    simp [h9, h11, hc1, Control.cells]   -- R5
    refine hk' _ _ _ ?_
    refine Runs.cut (fun ρ H n => ρ 0 = .list false (sig.map Control.cells) ∧ ρ 9 = .list false (sig.map Control.cells) ∧ ρ 10 = int sig.length ∧ ρ 11 = int k ∧ ρ 3 = int k ∧ ∃ m, ρ 4 = .ptr (m, 4) 1 0 0 ∧ H (m, 4) = some ⟨3, [sig[k].cells]⟩) ?_ ?_
    ·exact ⟨by simp [h0], by simp [h9], by simp [h10], by simp [h11], by simp, n, by simp, by simp [Control.cells]⟩
    clear hk' h0 h9 h10 h11
    rintro ρ H n ⟨h0, h9, h10, h11, h3, m, h4, hm⟩
    refine Runs.seqE Ty_ok (by decide) fun k' hk' => ?_
    have fin : ∀ ρ : Env, ρ 0 = .list false (sig.map Control.cells) → ρ 9 = .list false (sig.map Control.cells) → ρ 10 = int sig.length → ρ 11 = int k → ρ 38 = bool (!okCtl sig k) → Runs Tryz.prog 112 40 k' ρ H n Q := by
     intro ρ h0 h9 h10 h11 h38
     refine hk' _ _ _ ?_
     refine Runs.ite h38 (fun hc2 => ?_) (fun hc2 => ?_)   -- t38
     ·have hb : okCtl sig k = false := by simpa using hc2
      refine Runs.seqE Ty_ok (by decide) fun k' hk' => ?_
      simp   -- R7
      refine hk' _ _ _ ?_
      exact Runs.ret Tryz.func112 (RetOk.one Tryz.results112) (hQ _ _ _ _ (.v _ _ _) (by rw [goodSig_eq, all_range_bad hc1 hb, Bool.and_false]))
     ·have hb : okCtl sig k = true := by simpa using hc2
      refine Runs.skip ?_
      refine Runs.inBlock ?_
      refine Runs.evalE Ty_ok (by decide) fun k' hk' => ?_
      simp [h11, wrap_succ (show k < 4611686018427387904 by omega)]   -- R8
      refine hk' _ _ _ ?_
      refine IH hc1 _ _ _ ⟨by simp [h0], by simp [h9], by simp [h10], by simp, fun i hi => ?_⟩
      rcases Nat.lt_or_ge i k with h | h
      ·exact hall i h
      ·rw [show i = k by omega]; exact hb
    have hm' := hm
    simp only [Control.cells] at hm'
    simp [h4, hm']   -- R6
    refine RunK.callA Ty_ok (isName_ok sig[k].name (Nat.le_trans (hs _ (List.getElem_mem hc1)) (by decide))) e162 (.cons (.v _ _ _) .nil) (by decide) (by decide) rfl (by simp) ?_
    rintro _ rfl
    cases hnm : isNm sig[k].name
    ·simp [guardOf]
     exact fin _ (by simp [h0]) (by simp [h9]) (by simp [h10]) (by simp [h11]) (by simp only [okCtl, hgk, okControl, hnm]; simp)
    ·simp [h4, hm', guardOf]
     refine RunK.callA Ty_ok (within_ok sig[k].ports 0 3) e113 (.cons (.v _ _ _) (.cons (.v _ _ _) (.cons (.v _ _ _) .nil))) (by decide) (by decide) rfl (by simp) ?_
     rintro _ rfl
     cases hpo : within sig[k].ports 0 3
     ·simp [guardOf]
      exact fin _ (by simp [h0]) (by simp [h9]) (by simp [h10]) (by simp [h11]) (by simp only [okCtl, hgk, okControl, hnm, hpo]; simp)
     ·simp [h4, hm', guardOf]
      refine RunK.callA Ty_ok (within_ok sig[k].kind 0 2) e113 (.cons (.v _ _ _) (.cons (.v _ _ _) (.cons (.v _ _ _) .nil))) (by decide) (by decide) rfl (by simp) ?_
      rintro _ rfl
      cases hki : within sig[k].kind 0 2
      ·simp [guardOf]
       exact fin _ (by simp [h0]) (by simp [h9]) (by simp [h10]) (by simp [h11]) (by simp only [okCtl, hgk, okControl, hnm, hpo, hki]; simp)
      ·have hkl : (k : Int) ≤ sig.length := by omega
       simp [h0, h3, h4, hkl, guardOf, Control.cells]
       refine RunK.callT Ty_ok (containsFuncC_ok false (sig.take k) (fun d => d.name == sig[k].name) (by simp; omega) (fun d _ => clos135 sig[k] hm d)) e163 (by decide) (by decide) rfl (by simp [Control.cells]) ?_
       rintro _ rfl
       simp [guardOf]
       refine fin _ (by simp [h0, Control.cells]) (by simp [h9, Control.cells]) (by simp [h10]) (by simp [h11]) ?_
       simp only [okCtl, hgk, okControl, hnm, hpo, hki, newName]
       simp
   ·have hc1 : ¬ k < sig.length := by simpa using hc1
    have hke : k = sig.length := by omega
    subst hke
    refine Runs.exit rfl ?_
    refine Runs.seqE Ty_ok (by decide) fun k' hk' => ?_
    simp   -- R9
    refine hk' _ _ _ ?_
    exact Runs.ret Tryz.func112 (RetOk.one Tryz.results112) (hQ _ _ _ _ (.v _ _ _) (by rw [goodSig_eq, hw, all_range_end hall]; rfl))
end Go.Ab
/- Contract of spec.l2Sig. -/
namespace Go.Ab
open Go.Proofs
set_option linter.unusedSimpArgs false
theorem newName_at {sig : Sig} {i j : Nat} (hi : i < sig.length) (hj : j < i) (h : sig[j].name = sig[i].name) : newName sig i = false := by
 have hg : sig.getD i default = sig[i] := by simp [hi]
 have : (sig.take i).any (fun d => d.name == sig[i].name) = true := by
  rw [List.any_eq_true]
  refine ⟨sig[j], ?_, by simpa using h⟩
  rw [List.mem_take_iff_getElem]
  exact ⟨j, by omega, rfl⟩
 rw [newName, hg, this]
 rfl
theorem newName_end {sig : Sig} {i : Nat} (hi : i < sig.length) (h : ∀ j (hj : j < sig.length), j < i → ¬ sig[j].name = sig[i].name) : newName sig i = true := by
 have hg : sig.getD i default = sig[i] := by simp [hi]
 have : (sig.take i).any (fun d => d.name == sig[i].name) = false := by
  rw [List.any_eq_false]
  intro d hd
  rw [List.mem_take_iff_getElem] at hd
  obtain ⟨j, hj, rfl⟩ := hd
  have := h j (by omega) (by omega)
  simpa using this
 rw [newName, hg, this]
 rfl
theorem l2Sig_ok (sig : Sig) (hl : sig.length ≤ 1048576) (hs : ∀ c ∈ sig, c.name.length ≤ 1048576) : PureC Tryz.prog 149 [encSig false sig] (fun r => r = bool (goodSig sig)) := by
 refine PureC.of Tryz.func149 rfl Tryz.ntmps149 (by simp) fun Q hQ => ?_
 refine Runs.seqE Ty_ok (by decide) fun k' hk' => ?_
 simp [encSig]   -- R0
 refine hk' _ _ _ ?_
 refine Runs.seq ?_
 refine Runs.seqE Ty_ok (by decide) fun k' hk' => ?_
 simp   -- R1
 refine hk' _ _ _ ?_
 have bad : ∀ k, k < sig.length → okCtl sig k = false → ∀ H n, Q (bool false) H n := fun k hk hb H n => hQ _ _ _ _ (.v _ _ _) (by rw [goodSig_eq, all_range_bad hk hb, Bool.and_false])
 refine Runs.block (Runs.loopUp sig.length (fun k ρ H n => ρ 0 = .list false (sig.map Control.cells) ∧ ρ 3 = int k ∧ ∀ i, i < k → okCtl sig i = true) ?_ ?_)
 ·simp
 ·rintro k ρ H n hk ⟨h0, h3, hall⟩ IH
  refine Runs.seq ?_
  refine Runs.seqE Ty_ok (by decide) fun k' hk' => ?_
  simp [h0, h3]   -- R2
  refine hk' _ _ _ ?_
  refine Runs.ite rfl (fun hc1 => ?_) (fun hc1 => ?_)   -- t8
  ·have hc1 : k < sig.length := by simpa using hc1
   have hgk : sig.getD k default = sig[k] := by simp [hc1]
   refine Runs.skip ?_
   refine Runs.seq ?_
   refine Runs.block ?_
   refine Runs.seq ?_
   refine Runs.seqE Ty_ok (by decide) fun k' hk' => ?_
   have fin : ∀ ρ : Env, ρ 0 = .list false (sig.map Control.cells) → ρ 3 = int k → ρ 35 = bool (!okControl sig[k]) → Runs Tryz.prog 149 55 k' ρ H n Q := by
    intro ρ h0 h3 h35
    refine hk' _ _ _ ?_
    refine Runs.ite h35 (fun hc2 => ?_) (fun hc2 => ?_)   -- t35
    ·have hb : okControl sig[k] = false := by simpa using hc2
     refine Runs.seqE Ty_ok (by decide) fun k' hk' => ?_
     simp   -- R5
     refine hk' _ _ _ ?_
     exact Runs.ret Tryz.func149 (RetOk.one Tryz.results149) (bad k hc1 (by rw [okCtl, hgk, hb, Bool.false_and]) _ _)
    ·have hb : okControl sig[k] = true := by simpa using hc2
     refine Runs.skip ?_
     refine Runs.seqE Ty_ok (by decide) fun k' hk' => ?_
     simp   -- R6
     refine hk' _ _ _ ?_
     refine Runs.block (Runs.loopUp k (fun j ρ H n => ρ 0 = .list false (sig.map Control.cells) ∧ ρ 3 = int k ∧ ρ 4 = int j ∧ ∀ q (hq : q < sig.length), q < j → ¬ sig[q].name = sig[k].name) ?_ ?_)
     ·simp [h0, h3]
     ·rintro j ρ H n hj ⟨h0, h3, h4, hno⟩ IH2
      refine Runs.seq ?_
      refine Runs.seqE Ty_ok (by decide) fun k' hk' => ?_
      simp [h3, h4]   -- R7
      refine hk' _ _ _ ?_
      refine Runs.ite rfl (fun hc3 => ?_) (fun hc3 => ?_)   -- t38
      ·have hc3 : j < k := by simpa using hc3
       have hjl : j < sig.length := by omega
       refine Runs.skip ?_
       refine Runs.seq ?_
       refine Runs.block ?_
       refine Runs.seqD Ty_ok kindOp_ok draws (by decide) (by kernel_rfl) fun k' hk' => ?_
       simp [h0, h3, h4, hc1, hjl, Control.cells]   -- R9
       refine hk' _ _ _ ?_
       refine Runs.ite rfl (fun hc4 => ?_) (fun hc4 => ?_)   -- t51
       ·have hc4 : sig[j].name = sig[k].name := by simpa using hc4
        refine Runs.seqE Ty_ok (by decide) fun k' hk' => ?_
        simp   -- R10
        refine hk' _ _ _ ?_
        exact Runs.ret Tryz.func149 (RetOk.one Tryz.results149) (bad k hc1 (by rw [okCtl, newName_at hc1 hc3 hc4, Bool.and_false]) _ _)
       ·have hc4 : ¬ sig[j].name = sig[k].name := by simpa using hc4
        refine Runs.skip ?_
        refine Runs.inBlock ?_
        refine Runs.evalE Ty_ok (by decide) fun k' hk' => ?_
        simp [h4, wrap_succ (show j < 4611686018427387904 by omega)]   -- R8
        refine hk' _ _ _ ?_
        refine IH2 hc3 _ _ _ ⟨by simp [h0, Control.cells], by simp [h3], by simp, fun q hq hqj => ?_⟩
        rcases Nat.lt_or_ge q j with h | h
        ·exact hno q hq h
        ·have : q = j := by omega
         subst this
         exact hc4
      ·have hc3 : ¬ j < k := by simpa using hc3
       have hje : j = k := by omega
       subst hje
       refine Runs.exit rfl ?_
       refine Runs.inBlock ?_
       refine Runs.evalE Ty_ok (by decide) fun k' hk' => ?_
       simp [h3, wrap_succ (show j < 4611686018427387904 by omega)]   -- R3
       refine hk' _ _ _ ?_
       refine IH hc1 _ _ _ ⟨by simp [h0], by simp, fun i hi => ?_⟩
       rcases Nat.lt_or_ge i j with h | h
       ·exact hall i h
       ·rw [show i = j by omega, okCtl, hgk, hb, newName_end hc1 hno]
        rfl
   simp [h0, h3, hc1, Control.cells]   -- R4
   refine RunK.callA Ty_ok (l2Name_ok sig[k].name (Nat.le_trans (hs _ (List.getElem_mem hc1)) (by decide))) e177 (.cons (.v _ _ _) .nil) (by decide) (by decide) rfl (by simp) ?_
   rintro _ rfl
   cases hnm : isNm sig[k].name
   ·simp [guardOf]
    exact fin _ (by simp [h0, Control.cells]) (by simp [h3]) (by simp only [okControl, hnm]; simp)
   ·simp [h0, h3, hc1, Control.cells, guardOf]
    refine RunK.callA Ty_ok (l1In_ok sig[k].ports 0 3) e150 (.cons (.v _ _ _) (.cons (.v _ _ _) (.cons (.v _ _ _) .nil))) (by decide) (by decide) rfl (by simp) ?_
    rintro _ rfl
    cases hpo : within sig[k].ports 0 3
    ·simp [guardOf]
     exact fin _ (by simp [h0, Control.cells]) (by simp [h3]) (by simp only [okControl, hnm, hpo]; simp)
    ·simp [h0, h3, hc1, Control.cells, guardOf]
     refine RunK.callA Ty_ok (l1In_ok sig[k].kind 0 2) e150 (.cons (.v _ _ _) (.cons (.v _ _ _) (.cons (.v _ _ _) .nil))) (by decide) (by decide) rfl (by simp) ?_
     rintro _ rfl
     simp [guardOf]
     exact fin _ (by simp [h0, Control.cells]) (by simp [h3]) (by simp only [okControl, hnm, hpo]; simp)
  ·have hc1 : ¬ k < sig.length := by simpa using hc1
   have hke : k = sig.length := by omega
   subst hke
   refine Runs.exit rfl ?_
   refine Runs.seqE Ty_ok (by decide) fun k' hk' => ?_
   simp [h0]   -- R11
   refine RunK.callA Ty_ok (l1In_ok sig.length 1 6) e150 (.cons (.v _ _ _) (.cons (.v _ _ _) (.cons (.v _ _ _) .nil))) (by decide) (by decide) rfl (by simp) ?_
   rintro _ rfl
   simp
   refine hk' _ _ _ ?_
   exact Runs.ret Tryz.func149 (RetOk.one Tryz.results149) (hQ _ _ _ _ (.v _ _ _) (by rw [goodSig_eq, all_range_end hall, Bool.and_true]))
end Go.Ab
/- Contract of impl.IsBigraph. -/
namespace Go.Ab
open Go.Proofs
set_option linter.unusedSimpArgs false
theorem e89 : Ent Tryz.prog 89 := Ent.of Tryz.func89 (by kernel_rfl) rfl
theorem e117 : Ent Tryz.prog 117 := Ent.of Tryz.func117 (by kernel_rfl) rfl
theorem e119 : Ent Tryz.prog 119 := Ent.of Tryz.func119 (by kernel_rfl) rfl
theorem e121 : Ent Tryz.prog 121 := Ent.of Tryz.func121 (by kernel_rfl) rfl
structure SmallB (sig : Sig) (b : Big) : Prop where
 sigLen : sig.length ≤ 1048576
 sigNames : ∀ c ∈ sig, c.name.length ≤ 1048576
 nodesLen : b.nodes.length ≤ 1048576
 sitesLen : b.sites.length ≤ 1048576
 outerLen : b.outer.length ≤ 1048576
 innerLen : b.inner.length ≤ 1048576
 outerNames : ∀ s ∈ b.outer, s.length ≤ 1048576
 innerNames : ∀ w ∈ b.inner, w.name.length ≤ 1048576
 linksLen : ∀ x ∈ b.nodes, x.links.length ≤ 1048576
 parents : ∀ x ∈ b.nodes, I64 x.parent
 sites64 : ∀ p ∈ b.sites, I64 p
theorem clos76 {H : Heap} {n : Nat} {X : Id} (b : Big) (he : 0 ≤ b.edges ∧ b.edges ≤ 8) (ho : b.outer.length ≤ 1048576) (hX : H X = some ⟨6, [b.cells false]⟩) (l : Int) : ClosC Tryz.prog H n (.fn (.func 117) [] [.ptr X 1 0 0]) [int l] (fun r => r = bool (!okLink b l)) := by
 refine ⟨117, [], [.ptr X 1 0 0], rfl, e117, ?_⟩
 have hX' := hX
 simp only [Big.cells] at hX'
 refine StillC.of Tryz.func117 rfl Tryz.ntmps117 (by simp) fun Q hB hQ => ?_
 refine Runs.seqE Ty_ok (by decide) fun k' hk' => ?_
 simp   -- R0
 refine hk' _ _ _ ?_
 refine Runs.seqE Ty_ok (by decide) fun k' hk' => ?_
 simp [hX']   -- R1
 refine RunK.callA Ty_ok (isLink_ok b l he ho) e118 (.cons (ArgOk.encB false b) (.cons (.v _ _ _) .nil)) (by decide) (by decide) rfl (by simp [encB, Big.cells]) ?_
 rintro _ rfl
 simp
 refine hk' _ _ _ ?_
 exact Runs.ret Tryz.func117 (RetOk.one Tryz.results117) (hQ _ _ _ _ (.bnd (.v _)) (Frame.refl _ _) (by simp))
theorem clos80 {H : Heap} {n : Nat} {X : Id} (b : Big) (he : 0 ≤ b.edges ∧ b.edges ≤ 8) (ho : b.outer.length ≤ 1048576) (hX : H X = some ⟨6, [b.cells false]⟩) (w : Wire) : ClosC Tryz.prog H n (.fn (.func 121) [] [.ptr X 1 0 0]) [.agg w.cells] (fun r => r = bool (!okLink b w.link)) := by
 refine ⟨121, [], [.ptr X 1 0 0], rfl, e121, ?_⟩
 have hX' := hX
 simp only [Big.cells] at hX'
 refine StillC.of Tryz.func121 rfl Tryz.ntmps121 (by simp) fun Q hB hQ => ?_
 have hXn := (hB X _ hX).1
 have hX2 : ¬ X = (n, 2) := by rintro rfl; simp at hXn
 refine Runs.seqE Ty_ok (by decide) fun k' hk' => ?_
 simp [Wire.cells]   -- R0
 refine hk' _ _ _ ?_
 refine Runs.seqE Ty_ok (by decide) fun k' hk' => ?_
 simp [hX2, hX']   -- R1
 refine RunK.callA Ty_ok (isLink_ok b w.link he ho) e118 (.cons (ArgOk.encB false b) (.cons (.v _ _ _) .nil)) (by decide) (by decide) rfl (by simp [encB, Big.cells]) ?_
 rintro _ rfl
 simp
 refine hk' _ _ _ ?_
 exact Runs.ret Tryz.func121 (RetOk.one Tryz.results121) (hQ _ _ _ _ (.bnd (.v _)) (Frame.set (by simp) (Frame.refl _ _)) (by simp))
theorem clos78 {H : Heap} {n : Nat} {X Y : Id} (sig : Sig) (b : Big) (hr : 0 ≤ b.roots ∧ b.roots ≤ 4) (hc : CtlOk sig b b.nodes.length) (hX : H X = some ⟨6, [b.cells false]⟩) (hY : H Y = some ⟨1, [[encSig false sig]]⟩) (p : Int) :
  ClosC Tryz.prog H n (.fn (.func 119) [] [.ptr X 1 0 0, .ptr Y 1 0 0]) [int p] (fun r => r = bool (!okParent sig b p b.nodes.length)) := by
 refine ⟨119, [], [.ptr X 1 0 0, .ptr Y 1 0 0], rfl, e119, ?_⟩
 have hX' := hX
 simp only [Big.cells, encN] at hX'
 have hY' := hY
 simp only [encSig] at hY'
 refine StillC.of Tryz.func119 rfl Tryz.ntmps119 (by simp) fun Q hB hQ => ?_
 refine Runs.seqE Ty_ok (by decide) fun k' hk' => ?_
 simp   -- R0
 refine hk' _ _ _ ?_
 refine Runs.seqE Ty_ok (by decide) fun k' hk' => ?_
 simp [hX', hY']   -- R1
 refine RunK.callA Ty_ok (isParent_ok sig b p b.nodes.length hr (Nat.le_refl _) hc) e116 (.cons (ArgOk.encB false b) (.cons (ArgOk.encSig false sig) (.cons (.v _ _ _) (.cons (.v _ _ _) .nil)))) (by decide) (by decide) rfl (by simp [encB, Big.cells, encN, encSig]) ?_
 rintro _ rfl
 simp
 refine hk' _ _ _ ?_
 exact Runs.ret Tryz.func119 (RetOk.one Tryz.results119) (hQ _ _ _ _ (.bnd (.v _)) (Frame.refl _ _) (by simp))
theorem ctl_step {sig : Sig} {b : Big} {k : Nat} (h : okNodeB sig b k = true) (hk : CtlOk sig b k) : CtlOk sig b (k + 1) := by
 intro i hi
 rcases Nat.lt_or_ge i k with h1 | h1
 ·exact hk i h1
 ·have : i = k := by omega
  subst this
  simp only [okNodeB, within, Bool.and_eq_true, decide_eq_true_eq] at h
  omega
def goodPre (sig : Sig) (b : Big) : Bool :=
 goodSig sig && within b.roots 0 4 && decide (b.nodes.length ≤ 8) && decide (b.sites.length ≤ 4) && within b.edges 0 8 && goodNames b.outer && goodNames (names b)
theorem goodB_eq (sig : Sig) (b : Big) : goodB sig b = (goodPre sig b && (List.range b.nodes.length).all (okNodeB sig b) && b.sites.all (fun p => okParent sig b p b.nodes.length) && b.inner.all (fun w => okLink b w.link)) := rfl
theorem any_not {α : Type} (l : List α) (p : α → Bool) : (l.any fun x => !p x) = !l.all p := by
 induction l with
 | nil => rfl
 | cons a l ih => simp [ih]
theorem IsBigraph_ok (sig : Sig) (b : Big) (hs : SmallB sig b) : PureC Tryz.prog 89 [encSig false sig, encB false b] (fun r => r = bool (goodB sig b)) := by
 obtain ⟨s1, s2, s3, s4, s5, s6, s7, s8, s9, _, _⟩ := hs
 have hnl : (names b).length ≤ 1048576 := by simpa [names] using s6
 have hnn : ∀ s ∈ names b, s.length ≤ 1048576 := by
  intro s hs
  obtain ⟨w, hw, rfl⟩ := List.mem_map.1 hs
  exact s8 w hw
 refine PureC.of Tryz.func89 rfl Tryz.ntmps89 (by simp) fun Q hQ => ?_
 refine Runs.seqE Ty_ok (by decide) fun k' hk' => ?_
 simp [encSig, encB, Big.cells]   -- R0
 refine hk' _ _ _ ?_
 refine Runs.cut (fun ρ H n => ρ 2 = .ptr (0, 2) 1 0 0 ∧ ρ 3 = .ptr (1, 3) 1 0 0 ∧ H (0, 2) = some ⟨1, [[encSig false sig]]⟩ ∧ H (1, 3) = some ⟨6, [b.cells false]⟩) ⟨by simp, by simp, by simp [encSig], by simp [Big.cells]⟩ ?_
 clear hk'
 rintro ρ H n ⟨h2, h3, hm2, hm3⟩
 have hm2' := hm2
 simp only [encSig] at hm2'
 have hm3' := hm3
 simp only [Big.cells, encN, encI, encS, encW] at hm3'
 refine Runs.seq ?_
 refine Runs.seqE Ty_ok (by decide) fun k' hk' => ?_
 have fin : ∀ ρ : Env, ρ 2 = .ptr (0, 2) 1 0 0 → ρ 3 = .ptr (1, 3) 1 0 0 → ρ 45 = bool (!goodPre sig b) → Runs Tryz.prog 89 101 k' ρ H n Q := by
  intro ρ h2 h3 h45
  refine hk' _ _ _ ?_
  refine Runs.ite h45 (fun hc1 => ?_) (fun hc1 => ?_)   -- t45
  ·have hb : goodPre sig b = false := by simpa using hc1
   refine Runs.seqE Ty_ok (by decide) fun k' hk' => ?_
   simp   -- R2
   refine hk' _ _ _ ?_
   exact Runs.ret Tryz.func89 (RetOk.one Tryz.results89) (hQ _ _ _ _ (.v _ _ _) (by rw [goodB_eq, hb]; rfl))
  ·have hb : goodPre sig b = true := by simpa using hc1
   have hb' := hb
   simp only [goodPre, within, Bool.and_eq_true, decide_eq_true_eq] at hb'
   obtain ⟨⟨⟨⟨⟨⟨_, hr⟩, hn8⟩, _⟩, hed⟩, _⟩, _⟩ := hb'
   refine Runs.skip ?_
   refine Runs.seq ?_
   refine Runs.seqE Ty_ok (by decide) fun k' hk' => ?_
   simp [h3, hm3']   -- R3
   refine hk' _ _ _ ?_
   refine Runs.block (Runs.loopUp b.nodes.length (fun k ρ H n => ρ 2 = .ptr (0, 2) 1 0 0 ∧ ρ 3 = .ptr (1, 3) 1 0 0 ∧ ρ 47 = .list false (b.nodes.map (GNode.cells false)) ∧ ρ 48 = int b.nodes.length ∧ ρ 49 = int k ∧
    H (0, 2) = some ⟨1, [[encSig false sig]]⟩ ∧ H (1, 3) = some ⟨6, [b.cells false]⟩ ∧ CtlOk sig b k ∧ (∀ i, i < k → okNodeB sig b i = true)) ?_ ?_)
   ·exact ⟨by simp [h2], by simp [h3], by simp, by simp, by simp, hm2, hm3, fun i hi => by omega, fun i hi => by omega⟩
   ·clear h2 h3 hm2' hm3'
    rintro k ρ H n hk ⟨h2, h3, h47, h48, h49, hm2, hm3, hctl, hall⟩ IH
    have hm2' := hm2
    simp only [encSig] at hm2'
    have hm3' := hm3
    simp only [Big.cells, encN, encI, encS, encW] at hm3'
    refine Runs.seqE Ty_ok (by decide) fun k' hk' => ?_
    simp [h48, h49]   -- R4
    refine hk' _ _ _ ?_
    refine Runs.seq ?_
    refine Runs.ite rfl (fun hc2 => ?_) (fun hc2 => ?_)   -- t50
    ·have hc2 : k < b.nodes.length := by simpa using hc2
     have hgk : b.nodes.getD k default = b.nodes[k] := by simp [hc2]
     refine Runs.skip ?_
     refine Runs.seq ?_
     refine Runs.block ?_
     refine Runs.seqE Ty_ok (by decide) fun k' hk' => ?_
     simp [h47, h49, hc2, GNode.cells]   -- R5
     refine hk' _ _ _ ?_
     refine Runs.cut (fun ρ H m => ρ 2 = .ptr (0, 2) 1 0 0 ∧ ρ 3 = .ptr (1, 3) 1 0 0 ∧ ρ 47 = .list false (b.nodes.map (GNode.cells false)) ∧ ρ 48 = int b.nodes.length ∧ ρ 49 = int k ∧ ρ 5 = int k ∧ ρ 6 = .ptr (n, 6) 1 0 0 ∧
      H (0, 2) = some ⟨1, [[encSig false sig]]⟩ ∧ H (1, 3) = some ⟨6, [b.cells false]⟩ ∧ H (n, 6) = some ⟨3, [b.nodes[k].cells false]⟩ ∧ m = n + 1) ?_ ?_
     ·exact ⟨by simp [h2], by simp [h3], by simp [h47], by simp [h48], by simp [h49], by simp, by simp, by simp [hm2], by simp [hm3], by simp [GNode.cells], rfl⟩
     clear hk' h2 h3 h47 h48 h49 hm2 hm3 hm2' hm3'
     rintro ρ H m ⟨h2, h3, h47, h48, h49, h5, h6, hm2, hm3, hm6, rfl⟩
     have hm2' := hm2
     simp only [encSig] at hm2'
     have hm3' := hm3
     simp only [Big.cells, encN, encI, encS, encW] at hm3'
     have hm6' := hm6
     simp only [GNode.cells] at hm6'
     refine Runs.seqD Ty_ok kindOp_ok draws (by decide) (by kernel_rfl) fun k' hk' => ?_
     have fin : ∀ ρ : Env, ρ 2 = .ptr (0, 2) 1 0 0 → ρ 3 = .ptr (1, 3) 1 0 0 → ρ 47 = .list false (b.nodes.map (GNode.cells false)) → ρ 48 = int b.nodes.length → ρ 49 = int k → ρ 87 = bool (!okNodeB sig b k) → Runs Tryz.prog 89 101 k' ρ H (n + 1) Q := by
      intro ρ h2 h3 h47 h48 h49 h87
      refine hk' _ _ _ ?_
      refine Runs.ite h87 (fun hc3 => ?_) (fun hc3 => ?_)   -- t87
      ·have hb : okNodeB sig b k = false := by simpa using hc3
       refine Runs.seqE Ty_ok (by decide) fun k' hk' => ?_
       simp   -- R7
       refine hk' _ _ _ ?_
       exact Runs.ret Tryz.func89 (RetOk.one Tryz.results89) (hQ _ _ _ _ (.v _ _ _) (by rw [goodB_eq, all_range_bad hc2 hb, Bool.and_false]; rfl))
      ·have hb : okNodeB sig b k = true := by simpa using hc3
       refine Runs.skip ?_
       refine Runs.inBlock ?_
       refine Runs.evalE Ty_ok (by decide) fun k' hk' => ?_
       simp [h49, wrap_succ (show k < 4611686018427387904 by omega)]   -- R8
       refine hk' _ _ _ ?_
       refine IH hc2 _ _ _ ⟨by simp [h2], by simp [h3], by simp [h47], by simp [h48], by simp, hm2, hm3, ctl_step hb hctl, fun i hi => ?_⟩
       rcases Nat.lt_or_ge i k with h | h
       ·exact hall i h
       ·rw [show i = k by omega]; exact hb
     have hw : IntKind.i64.wrap ((sig.length : Int) - 1) = (sig.length : Int) - 1 := by rw [wrap64] <;> omega
     simp [h2, h6, hm2', hm6', hw]   -- R6
     refine RunDK.callA Ty_ok kindOp_ok (within_ok b.nodes[k].control 0 ((sig.length : Int) - 1)) e113 (.cons (.v _ _ _) (.cons (.v _ _ _) (.cons (.v _ _ _) .nil))) (by decide) rfl (by simp) ?_
     cases q1 : within b.nodes[k].control 0 ((sig.length : Int) - 1)
     ·simp [guardOf]
      exact fin _ (by simp [h2]) (by simp [h3]) (by simp [h47]) (by simp [h48]) (by simp [h49]) (by simp only [okNodeB, hgk, q1]; simp)
     simp [h2, h3, h5, h6, hm2', hm3', hm6', guardOf]
     refine RunDK.callA Ty_ok kindOp_ok (isParent_ok sig b b.nodes[k].parent k hr (by omega) hctl) e116 (.cons (ArgOk.encB false b) (.cons (ArgOk.encSig false sig) (.cons (.v _ _ _) (.cons (.v _ _ _) .nil)))) (by decide) rfl (by simp [encB, Big.cells, encN, encI, encS, encW, encSig]) ?_
     cases q2 : okParent sig b b.nodes[k].parent k
     ·simp [guardOf]
      exact fin _ (by simp [h2]) (by simp [h3]) (by simp [h47]) (by simp [h48]) (by simp [h49]) (by simp only [okNodeB, hgk, q2]; simp)
     have q1' := q1
     simp only [within, Bool.and_eq_true, decide_eq_true_eq] at q1'
     obtain ⟨c, hc⟩ : ∃ c : Nat, b.nodes[k].control = c := ⟨b.nodes[k].control.toNat, by omega⟩
     have hcl : c < sig.length := by omega
     have q1c := q1
     rw [hc] at q1c
     have hgc : sig.getD c default = sig[c] := by simp [hcl]
     by_cases q3 : (b.nodes[k].links.length : Int) = sig[c].ports
     ·have q3' : ((b.nodes[k].links.length : Int) != sig[c].ports) = false := by simpa using q3
      simp [h2, h3, h6, hm2', hm6', hc, hcl, q3', Control.cells, guardOf]
      refine RunDK.callT Ty_ok kindOp_ok (containsFuncI_ok false b.nodes[k].links (fun l => !okLink b l) (s9 _ (List.getElem_mem hc2)) (fun l _ => clos76 b hed s5 hm3 l)) e78 (by decide) rfl (by simp) ?_
      simp
      refine fin _ (by simp [h2]) (by simp [h3]) (by simp [h47]) (by simp [h48]) (by simp [h49]) ?_
      simp only [okNodeB, hgk, q1c, q2, hc, Int.toNat_natCast, hgc, q3, any_not]
      simp
     ·have q3' : ((b.nodes[k].links.length : Int) != sig[c].ports) = true := by simpa using q3
      simp [h2, h3, h6, hm2', hm6', hc, hcl, q3', Control.cells, guardOf]
      exact fin _ (by simp [h2]) (by simp [h3]) (by simp [h47]) (by simp [h48]) (by simp [h49]) (by simp only [okNodeB, hgk, q1c, q2, hc, Int.toNat_natCast, hgc, q3]; simp)
    ·have hc2 : ¬ k < b.nodes.length := by simpa using hc2
     have hke : k = b.nodes.length := by omega
     subst hke
     have hnodes := all_range_end hall
     refine Runs.exit rfl ?_
     refine Runs.seqE Ty_ok (by decide) fun k' hk' => ?_
     simp [h2, h3, hm3']   -- R9
     refine RunK.callT Ty_ok (containsFuncI_ok false b.sites (fun p => !okParent sig b p b.nodes.length) s4 (fun p _ => clos78 sig b hr hctl hm3 hm2 p)) e78 (by decide) (by decide) rfl (by simp) ?_
     rintro _ rfl
     rw [any_not]
     cases r1 : b.sites.all (fun p => okParent sig b p b.nodes.length)
     ·simp [guardOf]
      refine hk' _ _ _ ?_
      exact Runs.ret Tryz.func89 (RetOk.one Tryz.results89) (hQ _ _ _ _ (.v _ _ _) (by rw [goodB_eq, r1]; simp))
     ·simp [h3, hm3', guardOf]
      refine RunK.callT Ty_ok (containsFuncW_ok false b.inner (fun w => !okLink b w.link) s6 (fun w _ => clos80 b hed s5 hm3 w)) e120 (by decide) (by decide) rfl (by simp) ?_
      rintro _ rfl
      rw [any_not]
      simp
      refine hk' _ _ _ ?_
      exact Runs.ret Tryz.func89 (RetOk.one Tryz.results89) (hQ _ _ _ _ (.v _ _ _) (by rw [goodB_eq, hb, hnodes, r1]; simp))
 simp [h2, hm2']   -- R1
 refine RunK.callA Ty_ok (IsSignature_ok sig s1 s2) e112 (.cons (ArgOk.encSig false sig) .nil) (by decide) (by decide) rfl (by simp [encSig]) ?_
 rintro _ rfl
 cases p1 : goodSig sig
 ·simp [guardOf]
  exact fin _ (by simp [h2]) (by simp [h3]) (by simp only [goodPre, p1]; simp)
 simp [h3, hm3', guardOf]
 refine RunK.callA Ty_ok (within_ok b.roots 0 4) e113 (.cons (.v _ _ _) (.cons (.v _ _ _) (.cons (.v _ _ _) .nil))) (by decide) (by decide) rfl (by simp) ?_
 rintro _ rfl
 cases p2 : within b.roots 0 4
 ·simp [guardOf]
  exact fin _ (by simp [h2]) (by simp [h3]) (by simp only [goodPre, p2]; simp)
 by_cases p3 : (8 : Int) < b.nodes.length
 ·simp [h3, hm3', p3, guardOf]
  exact fin _ (by simp [h2]) (by simp [h3]) (by simp only [goodPre, show ¬ b.nodes.length ≤ 8 by omega]; simp)
 by_cases p4 : (4 : Int) < b.sites.length
 ·simp [h3, hm3', p3, p4, guardOf]
  exact fin _ (by simp [h2]) (by simp [h3]) (by simp only [goodPre, show ¬ b.sites.length ≤ 4 by omega]; simp)
 simp [h3, hm3', p3, p4, guardOf]
 refine RunK.callA Ty_ok (within_ok b.edges 0 8) e113 (.cons (.v _ _ _) (.cons (.v _ _ _) (.cons (.v _ _ _) .nil))) (by decide) (by decide) rfl (by simp) ?_
 rintro _ rfl
 cases p5 : within b.edges 0 8
 ·simp [guardOf]
  exact fin _ (by simp [h2]) (by simp [h3]) (by simp only [goodPre, p5]; simp)
 simp [h3, hm3', guardOf]
 refine RunK.callA Ty_ok (areNames_ok b.outer s5 s7) e114 (.cons (ArgOk.encS false b.outer) .nil) (by decide) (by decide) rfl (by simp [encS]) ?_
 rintro _ rfl
 cases p6 : goodNames b.outer
 ·simp [guardOf]
  exact fin _ (by simp [h2]) (by simp [h3]) (by simp only [goodPre, p6]; simp)
 simp [h3, hm3', guardOf]
 refine RunK.callA Ty_ok (innerNames_ok b s6) e115 (.cons (ArgOk.encB false b) .nil) (by decide) (by decide) rfl (by simp [encB, Big.cells, encN, encI, encS, encW]) ?_
 rintro _ rfl
 simp
 refine RunK.callA Ty_ok (areNames_ok (names b) hnl hnn) e114 (.cons (ArgOk.encS true (names b)) .nil) (by decide) (by decide) rfl (by simp [encS]) ?_
 rintro _ rfl
 simp
 exact fin _ (by simp [h2]) (by simp [h3]) (by simp only [goodPre, p1, p2, p5, p6, show b.nodes.length ≤ 8 by omega, show b.sites.length ≤ 4 by omega]; simp)
end Go.Ab
/- Contracts of spec.l2Node and spec.l2Good. -/
namespace Go.Ab
open Go.Proofs
set_option linter.unusedSimpArgs false
theorem e103 : Ent Tryz.prog 103 := Ent.of Tryz.func103 (by kernel_rfl) rfl
theorem e153 : Ent Tryz.prog 153 := Ent.of Tryz.func153 (by kernel_rfl) rfl
theorem all_bad {α : Type} {l : List α} {p : α → Bool} {k : Nat} (hk : k < l.length) (h : p l[k] = false) : l.all p = false := by
 rw [List.all_eq_false]
 exact ⟨l[k], List.getElem_mem hk, by simp [h]⟩
theorem all_end {α : Type} {l : List α} {p : α → Bool} (h : ∀ i (hi : i < l.length), p l[i] = true) : l.all p = true := by
 rw [List.all_eq_true]
 intro x hx
 obtain ⟨i, hi, rfl⟩ := List.getElem_of_mem hx
 exact h i hi
theorem l2Node_ok (sig : Sig) (b : Big) (hs : SmallB sig b) (k : Nat) (hk : k < b.nodes.length) (hr : 0 ≤ b.roots ∧ b.roots ≤ 4) (he : 0 ≤ b.edges ∧ b.edges ≤ 8) (hctl : CtlOk sig b k) :
  PureC Tryz.prog 153 [encSig false sig, encB false b, int k] (fun r => r = bool (okNodeB sig b k)) := by
 have hgk : b.nodes.getD k default = b.nodes[k] := by simp [hk]
 have hll := hs.linksLen _ (List.getElem_mem hk)
 have hpar := hs.parents _ (List.getElem_mem hk)
 have hol := hs.outerLen
 have hsl := hs.sigLen
 refine PureC.of Tryz.func153 rfl Tryz.ntmps153 (by simp) fun Q hQ => ?_
 refine Runs.seqE Ty_ok (by decide) fun k' hk' => ?_
 simp [encSig, encB, Big.cells]   -- R0
 refine hk' _ _ _ ?_
 refine Runs.seqE Ty_ok (by decide) fun k' hk' => ?_
 simp [encN, hk, GNode.cells]   -- R1
 refine hk' _ _ _ ?_
 refine Runs.cut (fun ρ H n => ρ 0 = .list false (sig.map Control.cells) ∧ ρ 2 = int k ∧ ρ 4 = .ptr (0, 4) 1 0 0 ∧ ρ 7 = .ptr (1, 7) 1 0 0 ∧ H (0, 4) = some ⟨6, [b.cells false]⟩ ∧ H (1, 7) = some ⟨3, [b.nodes[k].cells false]⟩) ⟨by simp, by simp, by simp, by simp, by simp [Big.cells, encN, GNode.cells], by simp [GNode.cells]⟩ ?_
 clear hk'
 rintro ρ H n ⟨h0, h2, h4, h7, hm4, hm7⟩
 have hm4' := hm4
 simp only [Big.cells, encN, encI, encS, encW] at hm4'
 have hm7' := hm7
 simp only [GNode.cells] at hm7'
 refine Runs.seq ?_
 refine Runs.seqD Ty_ok kindOp_ok draws (by decide) (by kernel_rfl) fun k' hk' => ?_
 have fin : ∀ (ρ : Env) (pre : Bool), ρ 4 = .ptr (0, 4) 1 0 0 → ρ 7 = .ptr (1, 7) 1 0 0 → ρ 41 = bool (!pre) → okNodeB sig b k = (pre && b.nodes[k].links.all (okLink b)) → Runs Tryz.prog 153 57 k' ρ H n Q := by
  intro ρ pre h4 h7 h41 hpre
  refine hk' _ _ _ ?_
  refine Runs.ite h41 (fun hc1 => ?_) (fun hc1 => ?_)   -- t41
  ·have hb : pre = false := by simpa using hc1
   refine Runs.seqE Ty_ok (by decide) fun k' hk' => ?_
   simp   -- R3
   refine hk' _ _ _ ?_
   exact Runs.ret Tryz.func153 (RetOk.one Tryz.results153) (hQ _ _ _ _ (.v _ _ _) (by rw [hpre, hb]; rfl))
  ·have hb : pre = true := by simpa using hc1
   rw [hb, Bool.true_and] at hpre
   refine Runs.skip ?_
   refine Runs.seq ?_
   refine Runs.seqE Ty_ok (by decide) fun k' hk' => ?_
   simp   -- R4
   refine hk' _ _ _ ?_
   refine Runs.block (Runs.loopUp b.nodes[k].links.length (fun j ρ' H' n' => ρ' 4 = .ptr (0, 4) 1 0 0 ∧ ρ' 7 = .ptr (1, 7) 1 0 0 ∧ ρ' 8 = int j ∧ H' = H ∧ n' = n ∧ ∀ i (hi : i < b.nodes[k].links.length), i < j → okLink b b.nodes[k].links[i] = true) ?_ ?_)
   ·exact ⟨by simp [h4], by simp [h7], by simp, rfl, rfl, fun i hi h => by omega⟩
   ·clear h4 h7
    rintro j ρ H' n' hj ⟨h4, h7, h8, rfl, rfl, hall⟩ IH
    refine Runs.seq ?_
    refine Runs.seqE Ty_ok (by decide) fun k' hk' => ?_
    simp [h7, h8, hm7']   -- R5
    refine hk' _ _ _ ?_
    refine Runs.ite rfl (fun hc2 => ?_) (fun hc2 => ?_)   -- t46
    ·have hc2 : j < b.nodes[k].links.length := by simpa using hc2
     refine Runs.skip ?_
     refine Runs.seq ?_
     refine Runs.block ?_
     refine Runs.seqD Ty_ok kindOp_ok draws (by decide) (by kernel_rfl) fun k' hk' => ?_
     simp [h4, h7, h8, hm4', hm7', hc2, intC]   -- R7
     refine RunDK.callA Ty_ok kindOp_ok (l2Link_ok b b.nodes[k].links[j] he hol) e155 (.cons (ArgOk.encB false b) (.cons (.v _ _ _) .nil)) (by decide) rfl (by simp [encB, Big.cells, encN, encI, encS, encW, intC]) ?_
     simp
     refine hk' _ _ _ ?_
     refine Runs.ite rfl (fun hc3 => ?_) (fun hc3 => ?_)   -- t56
     ·have hb3 : okLink b b.nodes[k].links[j] = false := by simpa using hc3
      refine Runs.seqE Ty_ok (by decide) fun k' hk' => ?_
      simp   -- R8
      refine hk' _ _ _ ?_
      exact Runs.ret Tryz.func153 (RetOk.one Tryz.results153) (hQ _ _ _ _ (.v _ _ _) (by rw [hpre, all_bad hc2 hb3]))
     ·have hb3 : okLink b b.nodes[k].links[j] = true := by simpa using hc3
      refine Runs.skip ?_
      refine Runs.inBlock ?_
      refine Runs.evalE Ty_ok (by decide) fun k' hk' => ?_
      simp [h8, wrap_succ (show j < 4611686018427387904 by omega)]   -- R6
      refine hk' _ _ _ ?_
      refine IH hc2 _ _ _ ⟨by simp [h4], by simp [h7], by simp, rfl, rfl, fun i hi hij => ?_⟩
      rcases Nat.lt_or_ge i j with h | h
      ·exact hall i hi h
      ·have : i = j := by omega
       subst this
       exact hb3
    ·have hc2 : ¬ j < b.nodes[k].links.length := by simpa using hc2
     have hje : j = b.nodes[k].links.length := by omega
     subst hje
     refine Runs.exit rfl ?_
     refine Runs.seqE Ty_ok (by decide) fun k' hk' => ?_
     simp   -- R9
     refine hk' _ _ _ ?_
     exact Runs.ret Tryz.func153 (RetOk.one Tryz.results153) (hQ _ _ _ _ (.v _ _ _) (by rw [hpre, all_end fun i hi => hall i hi hi]))
 have hw : IntKind.i64.wrap ((sig.length : Int) - 1) = (sig.length : Int) - 1 := by rw [wrap64] <;> omega
 simp [h0, h7, hm7', hw]   -- R2
 refine RunDK.callA Ty_ok kindOp_ok (l1In_ok b.nodes[k].control 0 ((sig.length : Int) - 1)) e150 (.cons (.v _ _ _) (.cons (.v _ _ _) (.cons (.v _ _ _) .nil))) (by decide) rfl (by simp) ?_
 cases q1 : within b.nodes[k].control 0 ((sig.length : Int) - 1)
 ·simp [guardOf]
  exact fin _ false (by simp [h4]) (by simp [h7]) (by simp) (by simp only [okNodeB, hgk, q1]; simp)
 simp [h0, h2, h4, h7, hm4', hm7', guardOf]
 refine RunDK.callA Ty_ok kindOp_ok (l2Under_ok sig b b.nodes[k].parent k hpar hr (by omega) hctl) e154 (.cons (ArgOk.encSig false sig) (.cons (ArgOk.encB false b) (.cons (.v _ _ _) (.cons (.v _ _ _) .nil)))) (by decide) rfl (by simp [encB, Big.cells, encN, encI, encS, encW, encSig]) ?_
 cases q2 : okParent sig b b.nodes[k].parent k
 ·simp [guardOf]
  exact fin _ false (by simp [h4]) (by simp [h7]) (by simp) (by simp only [okNodeB, hgk, q2]; simp)
 have q1' := q1
 simp only [within, Bool.and_eq_true, decide_eq_true_eq] at q1'
 obtain ⟨c, hc⟩ : ∃ c : Nat, b.nodes[k].control = c := ⟨b.nodes[k].control.toNat, by omega⟩
 have hcl : c < sig.length := by omega
 have q1c := q1
 rw [hc] at q1c
 have hgc : sig.getD c default = sig[c] := by simp [hcl]
 by_cases q3 : (b.nodes[k].links.length : Int) = sig[c].ports
 ·have q3' : ((b.nodes[k].links.length : Int) != sig[c].ports) = false := by simpa using q3
  simp [h0, h7, hm7', hc, hcl, q3', Control.cells, guardOf]
  exact fin _ true (by simp [h4]) (by simp [h7]) (by simp) (by simp only [okNodeB, hgk, q1c, q2, hc, Int.toNat_natCast, hgc, q3]; simp)
 ·have q3' : ((b.nodes[k].links.length : Int) != sig[c].ports) = true := by simpa using q3
  simp [h0, h7, hm7', hc, hcl, q3', Control.cells, guardOf]
  exact fin _ false (by simp [h4]) (by simp [h7]) (by simp) (by simp only [okNodeB, hgk, q1c, q2, hc, Int.toNat_natCast, hgc, q3]; simp)
end Go.Ab
/- Contract of spec.l2Good. -/
namespace Go.Ab
open Go.Proofs
set_option linter.unusedSimpArgs false
theorem ctl_all {sig : Sig} {b : Big} {k : Nat} (h : ∀ i, i < k → okNodeB sig b i = true) : CtlOk sig b k := by
 induction k with
 | zero => intro i hi; omega
 | succ k ih => exact ctl_step (h k (by omega)) (ih fun i hi => h i (by omega))
def pre1 (sig : Sig) (b : Big) : Bool := goodSig sig && within b.roots 0 4 && decide (b.nodes.length ≤ 8) && decide (b.sites.length ≤ 4) && within b.edges 0 8
def pre2 (b : Big) : Bool := goodNames b.outer && goodNames (names b)
theorem goodPre_eq (sig : Sig) (b : Big) : goodPre sig b = (pre1 sig b && pre2 b) := by
 simp only [goodPre, pre1, pre2, Bool.and_assoc]
theorem l2Good_ok (sig : Sig) (b : Big) (hs : SmallB sig b) : PureC Tryz.prog 103 [encSig false sig, encB false b] (fun r => r = bool (goodB sig b)) := by
 obtain ⟨s1, s2, s3, s4, s5, s6, s7, s8, s9, s10, s11⟩ := id hs
 have hnl : (names b).length ≤ 1048576 := by simpa [names] using s6
 have hnn : ∀ s ∈ names b, s.length ≤ 1048576 := by
  intro s hs
  obtain ⟨w, hw, rfl⟩ := List.mem_map.1 hs
  exact s8 w hw
 refine PureC.of Tryz.func103 rfl Tryz.ntmps103 (by simp) fun Q hQ => ?_
 have no : goodB sig b = false → ∀ H n, Q (bool false) H n := fun h H n => hQ _ _ _ _ (.v _ _ _) (by rw [h])
 refine Runs.seqE Ty_ok (by decide) fun k' hk' => ?_
 simp [encSig, encB, Big.cells]   -- R0
 refine hk' _ _ _ ?_
 refine Runs.cut (fun ρ H n => ρ 0 = .list false (sig.map Control.cells) ∧ ρ 3 = .ptr (0, 3) 1 0 0 ∧ H (0, 3) = some ⟨6, [b.cells false]⟩) ⟨by simp, by simp, by simp [Big.cells]⟩ ?_
 clear hk'
 rintro ρ H n ⟨h0, h3, hm3⟩
 have hm3' := hm3
 simp only [Big.cells, encN, encI, encS, encW] at hm3'
 refine Runs.seq ?_
 refine Runs.seqE Ty_ok (by decide) fun k' hk' => ?_
 have fin : ∀ ρ : Env, ρ 0 = .list false (sig.map Control.cells) → ρ 3 = .ptr (0, 3) 1 0 0 → ρ 34 = bool (!pre1 sig b) → Runs Tryz.prog 103 98 k' ρ H n Q := by
  clear h0 h3
  intro ρ h0 h3 h34
  refine hk' _ _ _ ?_
  refine Runs.ite h34 (fun hc1 => ?_) (fun hc1 => ?_)   -- t34
  ·have hb : pre1 sig b = false := by simpa using hc1
   refine Runs.seqE Ty_ok (by decide) fun k' hk' => ?_
   simp   -- R2
   refine hk' _ _ _ ?_
   exact Runs.ret Tryz.func103 (RetOk.one Tryz.results103) (no (by rw [goodB_eq, goodPre_eq, hb]; rfl) _ _)
  ·have hb1 : pre1 sig b = true := by simpa using hc1
   have hb' := hb1
   simp only [pre1, within, Bool.and_eq_true, decide_eq_true_eq] at hb'
   obtain ⟨⟨⟨⟨_, hr⟩, hn8⟩, _⟩, hed⟩ := hb'
   refine Runs.skip ?_
   refine Runs.seq ?_
   refine Runs.seqE Ty_ok (by decide) fun k' hk' => ?_
   have fin2 : ∀ ρ : Env, ρ 0 = .list false (sig.map Control.cells) → ρ 3 = .ptr (0, 3) 1 0 0 → ρ 50 = bool (!pre2 b) → Runs Tryz.prog 103 98 k' ρ H n Q := by
    clear h0 h3
    intro ρ h0 h3 h50
    refine hk' _ _ _ ?_
    refine Runs.ite h50 (fun hc1 => ?_) (fun hc1 => ?_)   -- t50
    ·have hb : pre2 b = false := by simpa using hc1
     refine Runs.seqE Ty_ok (by decide) fun k' hk' => ?_
     simp   -- R4
     refine hk' _ _ _ ?_
     exact Runs.ret Tryz.func103 (RetOk.one Tryz.results103) (no (by rw [goodB_eq, goodPre_eq, hb, Bool.and_false]; rfl) _ _)
    ·have hb2 : pre2 b = true := by simpa using hc1
     have hpre : goodPre sig b = true := by rw [goodPre_eq, hb1, hb2]; rfl
     refine Runs.skip ?_
     refine Runs.seq ?_
     refine Runs.seqE Ty_ok (by decide) fun k' hk' => ?_
     simp   -- R5
     refine hk' _ _ _ ?_
     refine Runs.block (Runs.loopUp b.nodes.length (fun k ρ' H' n' => ρ' 0 = .list false (sig.map Control.cells) ∧ ρ' 3 = .ptr (0, 3) 1 0 0 ∧ ρ' 5 = int k ∧ H' = H ∧ n' = n ∧ ∀ i, i < k → okNodeB sig b i = true) ?_ ?_)
     ·exact ⟨by simp [h0], by simp [h3], by simp, rfl, rfl, fun i hi => by omega⟩
     ·clear h0 h3
      rintro k ρ H' n' hk ⟨h0, h3, h5, rfl, rfl, hall⟩ IH
      refine Runs.seq ?_
      refine Runs.seqE Ty_ok (by decide) fun k' hk' => ?_
      simp [h3, h5, hm3']   -- R6
      refine hk' _ _ _ ?_
      refine Runs.ite rfl (fun hc2 => ?_) (fun hc2 => ?_)   -- t55
      ·have hc2 : k < b.nodes.length := by simpa using hc2
       refine Runs.skip ?_
       refine Runs.seq ?_
       refine Runs.block ?_
       refine Runs.seqE Ty_ok (by decide) fun k' hk' => ?_
       simp [h0, h3, h5, hm3']   -- R8
       refine RunK.callA Ty_ok (l2Node_ok sig b hs k hc2 hr hed (ctl_all hall)) e153 (.cons (ArgOk.encSig false sig) (.cons (ArgOk.encB false b) (.cons (.v _ _ _) .nil))) (by decide) (by decide) rfl (by simp [h0, h5, encSig, encB, Big.cells, encN, encI, encS, encW]) ?_
       rintro _ rfl
       simp
       refine hk' _ _ _ ?_
       refine Runs.ite rfl (fun hc3 => ?_) (fun hc3 => ?_)   -- t62
       ·have hb3 : okNodeB sig b k = false := by simpa using hc3
        refine Runs.seqE Ty_ok (by decide) fun k' hk' => ?_
        simp   -- R9
        refine hk' _ _ _ ?_
        exact Runs.ret Tryz.func103 (RetOk.one Tryz.results103) (no (by rw [goodB_eq, all_range_bad hc2 hb3, Bool.and_false]; rfl) _ _)
       ·have hb3 : okNodeB sig b k = true := by simpa using hc3
        refine Runs.skip ?_
        refine Runs.inBlock ?_
        refine Runs.evalE Ty_ok (by decide) fun k' hk' => ?_
        simp [h5, wrap_succ (show k < 4611686018427387904 by omega)]   -- R7
        refine hk' _ _ _ ?_
        refine IH hc2 _ _ _ ⟨by simp [h0], by simp [h3], by simp, rfl, rfl, fun i hi => ?_⟩
        rcases Nat.lt_or_ge i k with h | h
        ·exact hall i h
        ·rw [show i = k by omega]; exact hb3
      ·have hc2 : ¬ k < b.nodes.length := by simpa using hc2
       have hke : k = b.nodes.length := by omega
       subst hke
       have hnodes := all_range_end hall
       have hctl := ctl_all hall
       refine Runs.exit rfl ?_
       refine Runs.seq ?_
       refine Runs.seqE Ty_ok (by decide) fun k' hk' => ?_
       simp   -- R10
       refine hk' _ _ _ ?_
       clear IH hall h5
       refine Runs.block (Runs.loopUp b.sites.length (fun k ρ' H2 n2 => ρ' 0 = .list false (sig.map Control.cells) ∧ ρ' 3 = .ptr (0, 3) 1 0 0 ∧ ρ' 6 = int k ∧ H2 = H' ∧ n2 = n' ∧ ∀ i (hi : i < b.sites.length), i < k → okParent sig b b.sites[i] b.nodes.length = true) ?_ ?_)
       ·exact ⟨by simp [h0], by simp [h3], by simp, rfl, rfl, fun i hi h => by omega⟩
       ·clear h0 h3
        rintro k ρ H2 n2 hk2 ⟨h0, h3, h6, rfl, rfl, hall⟩ IH
        refine Runs.seq ?_
        refine Runs.seqE Ty_ok (by decide) fun k' hk' => ?_
        simp [h3, h6, hm3']   -- R11
        refine hk' _ _ _ ?_
        refine Runs.ite rfl (fun hc4 => ?_) (fun hc4 => ?_)   -- t67
        ·have hc4 : k < b.sites.length := by simpa using hc4
         refine Runs.skip ?_
         refine Runs.seq ?_
         refine Runs.block ?_
         refine Runs.seqD Ty_ok kindOp_ok draws (by decide) (by kernel_rfl) fun k' hk' => ?_
         simp [h0, h3, h6, hm3', hc4, intC]   -- R13
         refine RunDK.callA Ty_ok kindOp_ok (l2Under_ok sig b b.sites[k] b.nodes.length (s11 _ (List.getElem_mem hc4)) hr (Nat.le_refl _) hctl) e154 (.cons (ArgOk.encSig false sig) (.cons (ArgOk.encB false b) (.cons (.v _ _ _) (.cons (.v _ _ _) .nil)))) (by decide) rfl (by simp [h0, encSig, encB, Big.cells, encN, encI, encS, encW, intC]) ?_
         simp
         refine hk' _ _ _ ?_
         refine Runs.ite rfl (fun hc5 => ?_) (fun hc5 => ?_)   -- t81
         ·have hb3 : okParent sig b b.sites[k] b.nodes.length = false := by simpa using hc5
          refine Runs.seqE Ty_ok (by decide) fun k' hk' => ?_
          simp   -- R14
          refine hk' _ _ _ ?_
          exact Runs.ret Tryz.func103 (RetOk.one Tryz.results103) (no (by rw [goodB_eq, all_bad hc4 hb3, Bool.and_false]; rfl) _ _)
         ·have hb3 : okParent sig b b.sites[k] b.nodes.length = true := by simpa using hc5
          refine Runs.skip ?_
          refine Runs.inBlock ?_
          refine Runs.evalE Ty_ok (by decide) fun k' hk' => ?_
          simp [h6, wrap_succ (show k < 4611686018427387904 by omega)]   -- R12
          refine hk' _ _ _ ?_
          refine IH hc4 _ _ _ ⟨by simp [h0], by simp [h3], by simp, rfl, rfl, fun i hi hij => ?_⟩
          rcases Nat.lt_or_ge i k with h | h
          ·exact hall i hi h
          ·have : i = k := by omega
           subst this
           exact hb3
        ·have hc4 : ¬ k < b.sites.length := by simpa using hc4
         have hke : k = b.sites.length := by omega
         subst hke
         have hsites := all_end (l := b.sites) (p := fun p => okParent sig b p b.nodes.length) fun i hi => hall i hi hi
         refine Runs.exit rfl ?_
         refine Runs.seq ?_
         refine Runs.seqE Ty_ok (by decide) fun k' hk' => ?_
         simp   -- R15
         refine hk' _ _ _ ?_
         clear IH hall h6
         refine Runs.block (Runs.loopUp b.inner.length (fun k ρ' H3 n3 => ρ' 3 = .ptr (0, 3) 1 0 0 ∧ ρ' 7 = int k ∧ H3 = H2 ∧ n3 = n2 ∧ ∀ i (hi : i < b.inner.length), i < k → okLink b b.inner[i].link = true) ?_ ?_)
         ·exact ⟨by simp [h3], by simp, rfl, rfl, fun i hi h => by omega⟩
         ·clear h0 h3
          rintro k ρ H3 n3 hk3 ⟨h3, h7, rfl, rfl, hall⟩ IH
          refine Runs.seq ?_
          refine Runs.seqE Ty_ok (by decide) fun k' hk' => ?_
          simp [h3, h7, hm3']   -- R16
          refine hk' _ _ _ ?_
          refine Runs.ite rfl (fun hc6 => ?_) (fun hc6 => ?_)   -- t86
          ·have hc6 : k < b.inner.length := by simpa using hc6
           refine Runs.skip ?_
           refine Runs.seq ?_
           refine Runs.block ?_
           refine Runs.seqD Ty_ok kindOp_ok draws (by decide) (by kernel_rfl) fun k' hk' => ?_
           simp [h3, h7, hm3', hc6, Wire.cells]   -- R18
           refine RunDK.callA Ty_ok kindOp_ok (l2Link_ok b b.inner[k].link hed s5) e155 (.cons (ArgOk.encB false b) (.cons (.v _ _ _) .nil)) (by decide) rfl (by simp [encB, Big.cells, encN, encI, encS, encW, Wire.cells]) ?_
           simp
           refine hk' _ _ _ ?_
           refine Runs.ite rfl (fun hc7 => ?_) (fun hc7 => ?_)   -- t97
           ·have hb3 : okLink b b.inner[k].link = false := by simpa using hc7
            refine Runs.seqE Ty_ok (by decide) fun k' hk' => ?_
            simp   -- R19
            refine hk' _ _ _ ?_
            exact Runs.ret Tryz.func103 (RetOk.one Tryz.results103) (no (by rw [goodB_eq, all_bad (l := b.inner) (p := fun w => okLink b w.link) hc6 hb3, Bool.and_false]) _ _)
           ·have hb3 : okLink b b.inner[k].link = true := by simpa using hc7
            refine Runs.skip ?_
            refine Runs.inBlock ?_
            refine Runs.evalE Ty_ok (by decide) fun k' hk' => ?_
            simp [h7, wrap_succ (show k < 4611686018427387904 by omega)]   -- R17
            refine hk' _ _ _ ?_
            refine IH hc6 _ _ _ ⟨by simp [h3], by simp, rfl, rfl, fun i hi hij => ?_⟩
            rcases Nat.lt_or_ge i k with h | h
            ·exact hall i hi h
            ·have : i = k := by omega
             subst this
             exact hb3
          ·have hc6 : ¬ k < b.inner.length := by simpa using hc6
           have hke : k = b.inner.length := by omega
           subst hke
           have hinner := all_end (l := b.inner) (p := fun w => okLink b w.link) fun i hi => hall i hi hi
           refine Runs.exit rfl ?_
           refine Runs.seqE Ty_ok (by decide) fun k' hk' => ?_
           simp   -- R20
           refine hk' _ _ _ ?_
           exact Runs.ret Tryz.func103 (RetOk.one Tryz.results103) (hQ _ _ _ _ (.v _ _ _) (by rw [goodB_eq, hpre, hnodes, hsites, hinner]; rfl))
   simp [h3, hm3']   -- R3
   refine RunK.callA Ty_ok (l2Names_ok b.outer s5 s7) e151 (.cons (ArgOk.encS false b.outer) .nil) (by decide) (by decide) rfl (by simp [encS]) ?_
   rintro _ rfl
   cases p6 : goodNames b.outer
   ·simp [guardOf]
    exact fin2 _ (by simp [h0]) (by simp [h3]) (by simp only [pre2, p6]; simp)
   by_cases p7 : (16 : Int) < b.inner.length
   ·simp [h3, hm3', p7, guardOf]
    refine fin2 _ (by simp [h0]) (by simp [h3]) ?_
    have : goodNames (names b) = false := by
     rw [goodNames_eq, show decide ((names b).length ≤ 16) = false by simp [names]; omega, Bool.false_and]
    simp only [pre2, this]
    simp
   simp [h3, hm3', p7, guardOf]
   refine RunK.callA Ty_ok (l2Inner_ok b s6) e152 (.cons (ArgOk.encB false b) .nil) (by decide) (by decide) rfl (by simp [encB, Big.cells, encN, encI, encS, encW]) ?_
   rintro _ rfl
   simp
   refine RunK.callA Ty_ok (l2Names_ok (names b) hnl hnn) e151 (.cons (ArgOk.encS true (names b)) .nil) (by decide) (by decide) rfl (by simp [encS]) ?_
   rintro _ rfl
   simp
   exact fin2 _ (by simp [h0]) (by simp [h3]) (by simp only [pre2, p6]; simp)
 simp [h0]   -- R1
 refine RunK.callA Ty_ok (l2Sig_ok sig s1 s2) e149 (.cons (ArgOk.encSig false sig) .nil) (by decide) (by decide) rfl (by simp [encSig, h0]) ?_
 rintro _ rfl
 cases p1 : goodSig sig
 ·simp [guardOf]
  exact fin _ (by simp [h0]) (by simp [h3]) (by simp only [pre1, p1]; simp)
 simp [h3, hm3', guardOf]
 refine RunK.callA Ty_ok (l1In_ok b.roots 0 4) e150 (.cons (.v _ _ _) (.cons (.v _ _ _) (.cons (.v _ _ _) .nil))) (by decide) (by decide) rfl (by simp) ?_
 rintro _ rfl
 cases p2 : within b.roots 0 4
 ·simp [guardOf]
  exact fin _ (by simp [h0]) (by simp [h3]) (by simp only [pre1, p2]; simp)
 by_cases p3 : (8 : Int) < b.nodes.length
 ·simp [h3, hm3', p3, guardOf]
  exact fin _ (by simp [h0]) (by simp [h3]) (by simp only [pre1, show ¬ b.nodes.length ≤ 8 by omega]; simp)
 by_cases p4 : (4 : Int) < b.sites.length
 ·simp [h3, hm3', p3, p4, guardOf]
  exact fin _ (by simp [h0]) (by simp [h3]) (by simp only [pre1, show ¬ b.sites.length ≤ 4 by omega]; simp)
 simp [h3, hm3', p3, p4, guardOf]
 refine RunK.callA Ty_ok (l1In_ok b.edges 0 8) e150 (.cons (.v _ _ _) (.cons (.v _ _ _) (.cons (.v _ _ _) .nil))) (by decide) (by decide) rfl (by simp) ?_
 rintro _ rfl
 simp
 exact fin _ (by simp [h0]) (by simp [h3]) (by simp only [pre1, p1, p2, show b.nodes.length ≤ 8 by omega, show b.sites.length ≤ 4 by omega]; simp)
end Go.Ab
/- Contracts of impl.ancestorsOf, spec.l2Above, slices.Index, slices.Contains and spec.l1Has. -/
namespace Go.Ab
open Go.Proofs
set_option linter.unusedSimpArgs false
theorem e128 : Ent Tryz.prog 128 := Ent.of Tryz.func128 (by kernel_rfl) rfl
theorem e95 : Ent Tryz.prog 95 := Ent.of Tryz.func95 (by kernel_rfl) rfl
theorem e111 : Ent Tryz.prog 111 := Ent.of Tryz.func111 (by kernel_rfl) rfl
theorem index_ok (t : Bool) (l : List Int) (x : Int) (hl : l.length ≤ 1048576) : PureC Tryz.prog 128 [encI t l, int x] (fun r => r = int (idxF l (fun y => x == y))) := by
 refine PureC.of Tryz.func128 rfl Tryz.ntmps128 (by simp) fun Q hQ => ?_
 refine Runs.seqE Ty_ok (by decide) fun k' hk' => ?_
 simp [encI]   -- R0
 refine hk' _ _ _ ?_
 refine Runs.seq ?_
 refine Runs.seqE Ty_ok (by decide) fun k' hk' => ?_
 simp   -- R1
 refine hk' _ _ _ ?_
 refine Runs.block (Runs.loopUp l.length (fun k ρ H' n' => ρ 0 = .list t (l.map intC) ∧ ρ 1 = int x ∧ ρ 7 = int l.length ∧ ρ 8 = int k ∧ ∀ i (h : i < l.length), i < k → (x == l[i]) = false) ?_ ?_)
 ·simp
 ·rintro k ρ H' n' hk ⟨h0, h1, h7, h8, hno⟩ IH
  refine Runs.seqE Ty_ok (by decide) fun k' hk' => ?_
  simp [h7, h8]   -- R2
  refine hk' _ _ _ ?_
  refine Runs.seq ?_
  refine Runs.ite rfl (fun hc1 => ?_) (fun hc1 => ?_)   -- t9
  ·have hc1 : k < l.length := by simpa using hc1
   refine Runs.skip ?_
   refine Runs.seq ?_
   refine Runs.block ?_
   refine Runs.seqE Ty_ok (by decide) fun k' hk' => ?_
   simp [h8]   -- R3
   refine hk' _ _ _ ?_
   refine Runs.seqE Ty_ok (by decide) fun k' hk' => ?_
   simp [h0, h1, hc1, intC]   -- R4
   refine hk' _ _ _ ?_
   refine Runs.ite rfl (fun hc2 => ?_) (fun hc2 => ?_)   -- t16
   ·have hc2 : (x == l[k]) = true := by simpa using hc2
    refine Runs.seqE Ty_ok (by decide) fun k' hk' => ?_
    simp   -- R5
    refine hk' _ _ _ ?_
    refine Runs.ret Tryz.func128 (RetOk.one Tryz.results128) (hQ _ _ _ _ (.v _ _ _) ?_)
    simp [idxF_at (p := fun y => x == y) hc1 hc2 hno]
   ·have hc2 : (x == l[k]) = false := by simpa using hc2
    refine Runs.skip ?_
    refine Runs.inBlock ?_
    refine Runs.evalE Ty_ok (by decide) fun k' hk' => ?_
    simp [h8, wrap_succ (show k < 4611686018427387904 by omega)]   -- R6
    refine hk' _ _ _ ?_
    refine IH hc1 _ _ _ ⟨by simp [h0, intC], by simp [h1], by simp [h7], by simp, fun i h hi => ?_⟩
    rcases Nat.lt_or_ge i k with hik | hik
    ·exact hno i h hik
    ·have : i = k := by omega
     subst this
     exact hc2
  ·have hc1 : ¬ k < l.length := by simpa using hc1
   have hke : k = l.length := by omega
   subst hke
   refine Runs.exit rfl ?_
   refine Runs.seqE Ty_ok (by decide) fun k' hk' => ?_
   simp   -- R7
   refine hk' _ _ _ ?_
   refine Runs.ret Tryz.func128 (RetOk.one Tryz.results128) (hQ _ _ _ _ (.v _ _ _) ?_)
   simp [idxF_no (p := fun y => x == y) fun i h => hno i h h]
theorem contains_ok (l : List Int) (x : Int) (hl : l.length ≤ 1048576) : PureC Tryz.prog 95 [encI false l, int x] (fun r => r = bool (l.any (fun y => x == y))) := by
 refine PureC.of Tryz.func95 rfl Tryz.ntmps95 (by simp) fun Q hQ => ?_
 refine Runs.seqE Ty_ok (by decide) fun k' hk' => ?_
 simp [encI]   -- R0
 refine hk' _ _ _ ?_
 refine Runs.seqE Ty_ok (by decide) fun k' hk' => ?_
 simp   -- R1
 refine RunK.callA Ty_ok (index_ok false l x hl) e128 (.cons (ArgOk.encI false l) (.cons (.v _ _ _) .nil)) (by decide) (by decide) rfl (by simp [encI]) ?_
 rintro _ rfl
 simp
 refine hk' _ _ _ ?_
 refine Runs.ret Tryz.func95 (RetOk.one Tryz.results95) (hQ _ _ _ _ (.v _ _ _) ?_)
 have := idxF_any l (fun y => x == y)
 simp only [Env.put]
 simp [this]
theorem l1Has_ok (l : List Int) (x : Int) (hl : l.length ≤ 1048576) : PureC Tryz.prog 111 [encI false l, int x] (fun r => r = bool (l.any (fun y => x == y))) := by
 refine PureC.of Tryz.func111 rfl Tryz.ntmps111 (by simp) fun Q hQ => ?_
 refine Runs.seqE Ty_ok (by decide) fun k' hk' => ?_
 simp [encI]   -- R0
 refine hk' _ _ _ ?_
 refine Runs.seq ?_
 refine Runs.seqE Ty_ok (by decide) fun k' hk' => ?_
 simp   -- R1
 refine hk' _ _ _ ?_
 refine Runs.block (Runs.loopUp l.length (fun k ρ H' n' => ρ 0 = .list false (l.map intC) ∧ ρ 1 = int x ∧ ρ 5 = int k ∧ ∀ i (h : i < l.length), i < k → ¬ l[i] = x) ?_ ?_)
 ·simp
 ·rintro k ρ H' n' hk ⟨h0, h1, h5, hno⟩ IH
  refine Runs.seq ?_
  refine Runs.seqE Ty_ok (by decide) fun k' hk' => ?_
  simp [h0, h5]   -- R2
  refine hk' _ _ _ ?_
  refine Runs.ite rfl (fun hc1 => ?_) (fun hc1 => ?_)   -- t9
  ·have hc1 : k < l.length := by simpa using hc1
   refine Runs.skip ?_
   refine Runs.seq ?_
   refine Runs.block ?_
   refine Runs.seqE Ty_ok (by decide) fun k' hk' => ?_
   simp [h0, h1, h5, hc1, intC]   -- R4
   refine hk' _ _ _ ?_
   refine Runs.ite rfl (fun hc2 => ?_) (fun hc2 => ?_)   -- t17
   ·have hc2 : l[k] = x := by simpa using hc2
    refine Runs.seqE Ty_ok (by decide) fun k' hk' => ?_
    simp   -- R5
    refine hk' _ _ _ ?_
    refine Runs.ret Tryz.func111 (RetOk.one Tryz.results111) (hQ _ _ _ _ (.v _ _ _) ?_)
    have : l.any (fun y => x == y) = true := by
     rw [List.any_eq_true]
     exact ⟨l[k], List.getElem_mem hc1, by simp [hc2]⟩
    rw [this]
    try rfl
   ·have hc2 : ¬ l[k] = x := by simpa using hc2
    refine Runs.skip ?_
    refine Runs.inBlock ?_
    refine Runs.evalE Ty_ok (by decide) fun k' hk' => ?_
    simp [h5, wrap_succ (show k < 4611686018427387904 by omega)]   -- R3
    refine hk' _ _ _ ?_
    refine IH hc1 _ _ _ ⟨by simp [h0, intC], by simp [h1], by simp, fun i h hi => ?_⟩
    rcases Nat.lt_or_ge i k with hik | hik
    ·exact hno i h hik
    ·have : i = k := by omega
     subst this
     exact hc2
  ·have hc1 : ¬ k < l.length := by simpa using hc1
   have hke : k = l.length := by omega
   subst hke
   refine Runs.exit rfl ?_
   refine Runs.seqE Ty_ok (by decide) fun k' hk' => ?_
   simp   -- R6
   refine hk' _ _ _ ?_
   refine Runs.ret Tryz.func111 (RetOk.one Tryz.results111) (hQ _ _ _ _ (.v _ _ _) ?_)
   have : l.any (fun y => x == y) = false := by
    rw [List.any_eq_false]
    intro y hy
    obtain ⟨i, hi, rfl⟩ := List.getElem_of_mem hy
    have := hno i hi hi
    simpa using fun h => this h.symm
   rw [this]
   try rfl
end Go.Ab
/- Contracts of impl.CommonPlace and spec.CommonPlace. -/
namespace Go.Ab
open Go.Proofs
set_option linter.unusedSimpArgs false
end Go.Ab
/- What a valid signature and a valid bigraph are, by names. -/
namespace Go.Ab.Vg
set_option linter.unusedSimpArgs false
set_option linter.unusedVariables false
structure ValidS (sig : Sig) : Prop where
 len : 1 ≤ sig.length ∧ sig.length ≤ 6
 ports : ∀ c ∈ sig, 0 ≤ c.ports ∧ c.ports ≤ 3
 kind : ∀ c ∈ sig, 0 ≤ c.kind ∧ c.kind ≤ 2
structure ValidB (sig : Sig) (b : Big) : Prop where
 sg : ValidS sig
 roots : 0 ≤ b.roots ∧ b.roots ≤ 4
 len : b.nodes.length ≤ 8
 slen : b.sites.length ≤ 4
 edges : 0 ≤ b.edges ∧ b.edges ≤ 8
 outer : b.outer.length ≤ 16
 inner : b.inner.length ≤ 16
 ctl : ∀ i (h : i < b.nodes.length), 0 ≤ b.nodes[i].control ∧ b.nodes[i].control < sig.length
 par : ∀ i (h : i < b.nodes.length), -b.roots ≤ b.nodes[i].parent ∧ b.nodes[i].parent < i
 ports : ∀ i (h : i < b.nodes.length), (b.nodes[i].links.length : Int) = (sig.getD b.nodes[i].control.toNat default).ports
 links : ∀ i (h : i < b.nodes.length), ∀ l ∈ b.nodes[i].links, 0 ≤ l ∧ l < b.edges + b.outer.length
 sites : ∀ p ∈ b.sites, -b.roots ≤ p ∧ p < b.nodes.length
 wires : ∀ w ∈ b.inner, 0 ≤ w.link ∧ w.link < b.edges + b.outer.length
theorem goodSig_valid {sig : Sig} (h : goodSig sig = true) : ValidS sig := by
 simp only [goodSig, within, okControl, Bool.and_eq_true, decide_eq_true_eq, List.all_eq_true, List.mem_range] at h
 obtain ⟨h1, h2⟩ := h
 refine ⟨by omega, fun c hc => ?_, fun c hc => ?_⟩ <;> obtain ⟨i, hi, rfl⟩ := List.getElem_of_mem hc <;> have := h2 i hi <;> simp only [List.getD_eq_getElem?_getD, List.getElem?_eq_getElem hi, Option.getD_some] at this
 ·exact this.1.1.2
 ·exact this.1.2
theorem goodB_valid {sig : Sig} {b : Big} (h : goodB sig b = true) : ValidB sig b := by
 simp only [goodB, Bool.and_eq_true, decide_eq_true_eq, List.all_eq_true, List.mem_range] at h
 obtain ⟨⟨⟨⟨⟨⟨⟨⟨⟨hs, hr⟩, hn⟩, hst⟩, he⟩, ho⟩, hi⟩, hno⟩, hsi⟩, hw⟩ := h
 have hV := goodSig_valid hs
 simp only [within, Bool.and_eq_true, decide_eq_true_eq] at hr he
 simp only [goodNames, Bool.and_eq_true, decide_eq_true_eq, List.length_map] at ho hi
 have hno2 : ∀ i (h : i < b.nodes.length), (0 ≤ b.nodes[i].control ∧ b.nodes[i].control ≤ (sig.length : Int) - 1) ∧ okParent sig b b.nodes[i].parent i = true ∧ (b.nodes[i].links.length : Int) = (sig.getD b.nodes[i].control.toNat default).ports ∧ ∀ l ∈ b.nodes[i].links, okLink b l = true := fun i h => by
  have := hno i h
  simp only [okNodeB, within, Bool.and_eq_true, decide_eq_true_eq, List.all_eq_true, List.getD_eq_getElem?_getD, List.getElem?_eq_getElem h, Option.getD_some] at this
  exact ⟨this.1.1.1, this.1.1.2, by simpa using this.1.2, this.2⟩
 have hp : ∀ p (m : Nat), okParent sig b p m = true → -b.roots ≤ p ∧ p < m := fun p m h => by
  simp only [okParent] at h
  split at h
  ·simp only [decide_eq_true_eq] at h; omega
  ·simp only [Bool.and_eq_true, decide_eq_true_eq] at h; omega
 have hl : ∀ l, okLink b l = true → 0 ≤ l ∧ l < b.edges + b.outer.length := fun l h => by
  simp only [okLink, within, Bool.and_eq_true, decide_eq_true_eq] at h; omega
 exact ⟨hV, hr, hn, hst, he, ho.1, hi.1, fun i h => by have := (hno2 i h).1; omega, fun i h => hp _ _ (hno2 i h).2.1, fun i h => (hno2 i h).2.2.1, fun i h l hm => hl l ((hno2 i h).2.2.2 l hm), fun p hm => hp _ _ (hsi p hm), fun w hm => hl _ (hw w hm)⟩
theorem at_mem {α : Type} [Inhabited α] {l : List α} {i : Int} (h : 0 ≤ i ∧ i < l.length) : at' l i ∈ l := by
 obtain ⟨h1, h2⟩ := at_get h rfl
 exact h2 ▸ List.getElem_mem h1
theorem at_eq {α : Type} [Inhabited α] {l : List α} {i : Int} (h : 0 ≤ i ∧ i < l.length) : ∃ h' : i.toNat < l.length, at' l i = l[i.toNat] := by
 obtain ⟨h1, h2⟩ := at_get h rfl
 exact ⟨h1, h2.symm⟩
theorem ValidB.ctlAt {sig : Sig} {b : Big} (h : ValidB sig b) {i : Int} (hi : 0 ≤ i ∧ i < b.nodes.length) : 0 ≤ (at' b.nodes i).control ∧ (at' b.nodes i).control < sig.length := by
 obtain ⟨h1, h2⟩ := at_eq hi; rw [h2]; exact h.ctl _ h1
theorem ValidB.parAt {sig : Sig} {b : Big} (h : ValidB sig b) {i : Int} (hi : 0 ≤ i ∧ i < b.nodes.length) : -b.roots ≤ (at' b.nodes i).parent ∧ (at' b.nodes i).parent < i := by
 obtain ⟨h1, h2⟩ := at_eq hi; rw [h2]; have := h.par _ h1; omega
theorem ValidB.portsAt {sig : Sig} {b : Big} (h : ValidB sig b) {i : Int} (hi : 0 ≤ i ∧ i < b.nodes.length) : ((at' b.nodes i).links.length : Int) = (at' sig (at' b.nodes i).control).ports := by
 obtain ⟨h1, h2⟩ := at_eq hi
 have h3 := h.ports _ h1
 have h4 := h.ctl _ h1
 rw [h2, h3]; simp [at']
theorem ValidB.linksAt {sig : Sig} {b : Big} (h : ValidB sig b) {i : Int} (hi : 0 ≤ i ∧ i < b.nodes.length) : ∀ l ∈ (at' b.nodes i).links, 0 ≤ l ∧ l < b.edges + b.outer.length := by
 obtain ⟨h1, h2⟩ := at_eq hi; rw [h2]; exact h.links _ h1
theorem ValidB.portsLe {sig : Sig} {b : Big} (h : ValidB sig b) {i : Int} (hi : 0 ≤ i ∧ i < b.nodes.length) : (at' b.nodes i).links.length ≤ 3 := by
 have h1 := h.portsAt hi
 have h2 := h.ctlAt hi
 have h3 := h.sg.ports _ (at_mem (l := sig) h2)
 omega
end Go.Ab.Vg
/- Children of a place: pure conditions of (impl.Bigraph).childrenOf, spec.l2Kids and spec.l2Holes. -/
namespace Go.Ab.Vg
set_option linter.unusedSimpArgs false
set_option linter.unusedVariables false
def kidsB (b : Big) (p : Int) : List Int := idxs b.nodes (fun x => decide (x.parent = p)) b.nodes.length
def holesB (b : Big) (p : Int) : List Int := idxs b.sites (fun x => decide (x = p)) b.sites.length
abbrev l2Kids (b : Big) (p : Int) := kidsB b p
abbrev l2Kids_pre (b : Big) (_ : Int) : Prop := b.nodes.length ≤ 1048576
def l2Kids_wp (b : Big) (parent : Int) (Z : (List Int) → Prop) : Prop :=
 loopW (σ := Int × (List Int)) (fun (i14, l15) K19 => ∀ len20 : Int, len20 = (b.nodes.length : Int) → ∀ c22 : Bool, c22 = decide (i14 < len20) → ((c22 = true → (0 ≤ i14 ∧ i14 < b.nodes.length) ∧ ∀ x25 : GNode, x25 = at' b.nodes i14 → ∀ c27 : Bool, c27 = decide (x25.parent = parent) → ((c27 = true → (l15.length + 1 ≤ 1073741824) ∧ ∀ l30 : List Int, l30 = l15 ++ [i14] → (I64 (i14 + 1)) ∧ ∀ v40 : Int, v40 = i14 + 1 → K19 (v40, l30)) ∧ (c27 = false → (I64 (i14 + 1)) ∧ ∀ v43 : Int, v43 = i14 + 1 → K19 (v43, l15)))) ∧ (c22 = false → Z l15))) (0, ([] : List Int))
theorem l2Kids_vc (b : Big) (p : Int) (h : l2Kids_pre b p) : l2Kids_wp b p (fun y => y = l2Kids b p) := by
 unfold l2Kids_wp
 refine loopW.upL b.nodes.length (fun k out => out = idxs b.nodes (fun x => decide (x.parent = p)) k) [] rfl ?_
 rintro k out K hk rfl IH
 have hl := idxs_len b.nodes (fun x => decide (x.parent = p)) k
 simp only [l2Kids_pre] at h
 simp only [forall_eq, decide_eq_true_eq, decide_eq_false_iff_not, I64]
 refine ⟨fun h1 => ⟨by omega, fun h2 => ⟨by omega, by omega, ?_⟩, fun h2 => ⟨by omega, ?_⟩⟩, fun h1 => ?_⟩
 ·exact IH (by omega) _ (idxs_yes _ _ (by simpa using h2)).symm
 ·exact IH (by omega) _ (idxs_no _ _ (by simpa using h2)).symm
 ·rw [show k = b.nodes.length by omega]; rfl
abbrev l2Holes (b : Big) (p : Int) := holesB b p
abbrev l2Holes_pre (b : Big) (_ : Int) : Prop := b.sites.length ≤ 1048576
def l2Holes_wp (b : Big) (parent : Int) (Z : (List Int) → Prop) : Prop :=
 loopW (σ := Int × (List Int)) (fun (i14, l15) K19 => ∀ len20 : Int, len20 = (b.sites.length : Int) → ∀ c22 : Bool, c22 = decide (i14 < len20) → ((c22 = true → (0 ≤ i14 ∧ i14 < b.sites.length) ∧ ∀ x25 : Int, x25 = at' b.sites i14 → ∀ c27 : Bool, c27 = decide (x25 = parent) → ((c27 = true → (l15.length + 1 ≤ 1073741824) ∧ ∀ l30 : List Int, l30 = l15 ++ [i14] → (I64 (i14 + 1)) ∧ ∀ v40 : Int, v40 = i14 + 1 → K19 (v40, l30)) ∧ (c27 = false → (I64 (i14 + 1)) ∧ ∀ v43 : Int, v43 = i14 + 1 → K19 (v43, l15)))) ∧ (c22 = false → Z l15))) (0, ([] : List Int))
theorem l2Holes_vc (b : Big) (p : Int) (h : l2Holes_pre b p) : l2Holes_wp b p (fun y => y = l2Holes b p) := by
 unfold l2Holes_wp
 refine loopW.upL b.sites.length (fun k out => out = idxs b.sites (fun x => decide (x = p)) k) [] rfl ?_
 rintro k out K hk rfl IH
 have hl := idxs_len b.sites (fun x => decide (x = p)) k
 simp only [l2Holes_pre] at h
 simp only [forall_eq, decide_eq_true_eq, decide_eq_false_iff_not, I64]
 refine ⟨fun h1 => ⟨by omega, fun h2 => ⟨by omega, by omega, ?_⟩, fun h2 => ⟨by omega, ?_⟩⟩, fun h1 => ?_⟩
 ·exact IH (by omega) _ (idxs_yes _ _ (by simpa using h2)).symm
 ·exact IH (by omega) _ (idxs_no _ _ (by simpa using h2)).symm
 ·rw [show k = b.sites.length by omega]; rfl
abbrev childrenOf (b : Big) (p : Int) := (kidsB b p, holesB b p)
abbrev childrenOf_pre (b : Big) (_ : Int) : Prop := b.nodes.length ≤ 1048576 ∧ b.sites.length ≤ 1048576
def childrenOf_wp (b : Big) (parent : Int) (Z : ((List Int) × (List Int)) → Prop) : Prop :=
 ∀ len9 : Int, len9 = (b.nodes.length : Int) → loopW (σ := Int × (List Int)) (fun (v20, l21) K26 => ∀ c27 : Bool, c27 = decide (v20 < len9) → ((c27 = true → (0 ≤ v20 ∧ v20 < b.nodes.length) ∧ ∀ x30 : GNode, x30 = at' b.nodes v20 → ∀ c36 : Bool, c36 = decide (x30.parent = parent) → ((c36 = true → (l21.length + 1 ≤ 1073741824) ∧ ∀ l39 : List Int, l39 = l21 ++ [v20] → (I64 (v20 + 1)) ∧ ∀ v50 : Int, v50 = v20 + 1 → K26 (v50, l39)) ∧ (c36 = false → (I64 (v20 + 1)) ∧ ∀ v53 : Int, v53 = v20 + 1 → K26 (v53, l21)))) ∧ (c27 = false → ∀ len55 : Int, len55 = (b.sites.length : Int) → loopW (σ := Int × (List Int)) (fun (v66, l67) K72 => ∀ c73 : Bool, c73 = decide (v66 < len55) → ((c73 = true → (0 ≤ v66 ∧ v66 < b.sites.length) ∧ ∀ x76 : Int, x76 = at' b.sites v66 → ∀ c78 : Bool, c78 = decide (x76 = parent) → ((c78 = true → (l67.length + 1 ≤ 1073741824) ∧ ∀ l81 : List Int, l81 = l67 ++ [v66] → (I64 (v66 + 1)) ∧ ∀ v92 : Int, v92 = v66 + 1 → K72 (v92, l81)) ∧ (c78 = false → (I64 (v66 + 1)) ∧ ∀ v95 : Int, v95 = v66 + 1 → K72 (v95, l67)))) ∧ (c73 = false → Z (l21, l67)))) (0, ([] : List Int))))) (0, ([] : List Int))
theorem childrenOf_vc (b : Big) (p : Int) (h : childrenOf_pre b p) : childrenOf_wp b p (fun y => y = childrenOf b p) := by
 unfold childrenOf_wp
 rintro _ rfl
 simp only [childrenOf_pre] at h
 refine loopW.upL b.nodes.length (fun k out => out = idxs b.nodes (fun x => decide (x.parent = p)) k) [] rfl ?_
 rintro k out K hk rfl IH
 have hl := idxs_len b.nodes (fun x => decide (x.parent = p)) k
 simp only [forall_eq, decide_eq_true_eq, decide_eq_false_iff_not, I64]
 refine ⟨fun h1 => ⟨by omega, fun h2 => ⟨by omega, by omega, ?_⟩, fun h2 => ⟨by omega, ?_⟩⟩, fun h1 => ?_⟩
 ·exact IH (by omega) _ (idxs_yes _ _ (by simpa using h2)).symm
 ·exact IH (by omega) _ (idxs_no _ _ (by simpa using h2)).symm
 rw [show k = b.nodes.length by omega]
 clear hl hk IH K h1
 refine loopW.upL b.sites.length (fun k out => out = idxs b.sites (fun x => decide (x = p)) k) [] rfl ?_
 rintro k out K hk rfl IH
 have hl := idxs_len b.sites (fun x => decide (x = p)) k
 dsimp only
 refine ⟨fun h1 => ⟨by omega, fun h2 => ⟨by omega, by omega, ?_⟩, fun h2 => ⟨by omega, ?_⟩⟩, fun h1 => ?_⟩
 ·exact IH (by omega) _ (idxs_yes _ _ (by simpa using h2)).symm
 ·exact IH (by omega) _ (idxs_no _ _ (by simpa using h2)).symm
 ·rw [show k = b.sites.length by omega]; rfl
end Go.Ab.Vg
/- Links' points, redexes: pure conditions of the functions of program and reference. -/
namespace Go.Ab.Vg
set_option linter.unusedSimpArgs false
set_option linter.unusedVariables false
def rowP (b : Big) (l : Int) (i k : Nat) : List (Int × Int) := (idxs (at' b.nodes (i : Int)).links (fun x => decide (x = l)) k).map fun z => ((i : Int), z)
def portsTo (b : Big) (l : Int) (i : Nat) : List (Int × Int) := ((List.range i).map fun j => rowP b l j (at' b.nodes (j : Int)).links.length).flatten
def portsB (b : Big) (l : Int) : List (Int × Int) := portsTo b l b.nodes.length
def endsTo (b : Big) (l : Int) (i : Nat) : List Str := ((b.inner.take i).filter fun w => decide (w.link = l)).map (·.name)
def endsB (b : Big) (l : Int) : List Str := (b.inner.filter fun w => decide (w.link = l)).map (·.name)
theorem portsTo_succ (b : Big) (l : Int) (i : Nat) : portsTo b l (i + 1) = portsTo b l i ++ rowP b l i (at' b.nodes (i : Int)).links.length := by simp [portsTo, List.range_succ]
theorem rowP_zero (b : Big) (l : Int) (i : Nat) : rowP b l i 0 = [] := rfl
theorem rowP_yes {b : Big} {l : Int} {i k : Nat} (h : at' (at' b.nodes (i : Int)).links (k : Int) = l) : rowP b l i (k + 1) = rowP b l i k ++ [((i : Int), (k : Int))] := by
 rw [rowP, idxs_yes _ _ (by simpa using h), List.map_append]; rfl
theorem rowP_no {b : Big} {l : Int} {i k : Nat} (h : ¬ at' (at' b.nodes (i : Int)).links (k : Int) = l) : rowP b l i (k + 1) = rowP b l i k := by
 rw [rowP, idxs_no _ _ (by simpa using h)]; rfl
theorem rowP_len (b : Big) (l : Int) (i k : Nat) : (rowP b l i k).length ≤ k := by rw [rowP, List.length_map]; exact idxs_len _ _ _
theorem portsTo_len {b : Big} {m : Nat} (h : ∀ i, i < b.nodes.length → (at' b.nodes (i : Int)).links.length ≤ m) (l : Int) : ∀ i, i ≤ b.nodes.length → (portsTo b l i).length ≤ m * i
 | 0, _ => by simp [portsTo]
 | i + 1, hi => by
  rw [portsTo_succ, List.length_append]
  have h1 := portsTo_len h l i (by omega)
  have h2 := rowP_len b l i (at' b.nodes (i : Int)).links.length
  have h3 := h i (by omega)
  rw [Nat.mul_succ]; omega
theorem mem_portsTo {b : Big} {l : Int} {i : Nat} {p : Int × Int} : p ∈ portsTo b l i ↔ ∃ j : Nat, j < i ∧ p.1 = j ∧ 0 ≤ p.2 ∧ p.2 < (at' b.nodes (j : Int)).links.length ∧ at' (at' b.nodes (j : Int)).links p.2 = l := by
 simp only [portsTo, List.mem_flatten, List.mem_map, List.mem_range, rowP]
 constructor
 ·rintro ⟨_, ⟨j, hj, rfl⟩, hp⟩
  obtain ⟨z, hz, rfl⟩ := List.mem_map.1 hp
  have := (mem_idxs _ _).1 hz
  exact ⟨j, hj, rfl, this.1, this.2.1, by simpa using this.2.2⟩
 ·rintro ⟨j, hj, h1, h2, h3, h4⟩
  refine ⟨_, ⟨j, hj, rfl⟩, List.mem_map.2 ⟨p.2, (mem_idxs _ _).2 ⟨h2, h3, by simpa using h4⟩, ?_⟩⟩
  exact Prod.ext h1.symm rfl
theorem endsTo_succ {b : Big} (l : Int) {i : Nat} (h : i < b.inner.length) : endsTo b l (i + 1) = endsTo b l i ++ if b.inner[i].link = l then [b.inner[i].name] else [] := by
 rw [endsTo, List.take_succ_eq_append_getElem h, List.filter_append, List.map_append]
 congr 1
 by_cases hc : b.inner[i].link = l <;> simp [hc]
theorem endsTo_len (b : Big) (l : Int) (i : Nat) : (endsTo b l i).length ≤ i := by
 rw [endsTo, List.length_map]
 exact Nat.le_trans (List.length_filter_le _ _) (by simp; omega)
theorem endsTo_end (b : Big) (l : Int) : endsTo b l b.inner.length = endsB b l := by simp [endsTo, endsB]
abbrev LinkSz (b : Big) : Prop := b.nodes.length ≤ 1024 ∧ (∀ i, i < b.nodes.length → (at' b.nodes (i : Int)).links.length ≤ 1024) ∧ b.inner.length ≤ 1048576
theorem ValidB.linkSz {sig : Sig} {b : Big} (h : ValidB sig b) : LinkSz b := by
 have h1 := h.len
 have h2 := h.inner
 exact ⟨by omega, fun i hi => by have := h.portsLe (i := i) (by omega); omega, by omega⟩
abbrev l2Ports_pre (b : Big) (_ : Int) : Prop := LinkSz b
abbrev l2Ports (b : Big) (l : Int) := portsB b l
def l2Ports_wp (b : Big) (link : Int) (Z : (List (Int × Int)) → Prop) : Prop :=
 loopW (σ := Int × (List (Int × Int))) (fun (i14, l15) K19 => ∀ len20 : Int, len20 = (b.nodes.length : Int) → ∀ c22 : Bool, c22 = decide (i14 < len20) → ((c22 = true → loopW (σ := Int × (List (Int × Int))) (fun (k31, l32) K36 => (0 ≤ i14 ∧ i14 < b.nodes.length) ∧ ∀ x38 : GNode, x38 = at' b.nodes i14 → ∀ len40 : Int, len40 = (x38.links.length : Int) → ∀ c42 : Bool, c42 = decide (k31 < len40) → ((c42 = true → (0 ≤ i14 ∧ i14 < b.nodes.length) ∧ ∀ x45 : GNode, x45 = at' b.nodes i14 → (0 ≤ k31 ∧ k31 < x38.links.length) ∧ ∀ x49 : Int, x49 = at' x38.links k31 → ∀ c51 : Bool, c51 = decide (x49 = link) → ((c51 = true → (l32.length + 1 ≤ 1073741824) ∧ ∀ l56 : List (Int × Int), l56 = l32 ++ [(i14, k31)] → (I64 (k31 + 1)) ∧ ∀ v66 : Int, v66 = k31 + 1 → K36 (v66, l56)) ∧ (c51 = false → (I64 (k31 + 1)) ∧ ∀ v69 : Int, v69 = k31 + 1 → K36 (v69, l32)))) ∧ (c42 = false → (I64 (i14 + 1)) ∧ ∀ v72 : Int, v72 = i14 + 1 → K19 (v72, l32)))) (0, l15)) ∧ (c22 = false → Z l15))) (0, ([] : List (Int × Int)))
theorem l2Ports_vc (b : Big) (l : Int) (h : l2Ports_pre b l) : l2Ports_wp b l (fun y => y = l2Ports b l) := by
 unfold l2Ports_wp
 obtain ⟨h1, h2, h3⟩ := h
 refine loopW.upL b.nodes.length (fun i out => out = portsTo b l i) [] rfl ?_
 rintro i out K hi rfl IH
 simp only [forall_eq, decide_eq_true_eq, decide_eq_false_iff_not]
 refine ⟨fun hc => ?_, fun hc => by rw [show i = b.nodes.length by omega]; rfl⟩
 have hi1 : i < b.nodes.length := by omega
 have hpl := portsTo_len h2 l i (by omega)
 have hli := h2 i hi1
 refine loopW.upL (at' b.nodes (i : Int)).links.length (fun k out => out = portsTo b l i ++ rowP b l i k) _ (by simp [rowP_zero]) ?_
 rintro k out K2 hk rfl IH2
 have hrl := rowP_len b l i k
 dsimp only
 refine ⟨by omega, fun hc2 => ⟨by omega, by omega, fun hc3 => ⟨by simp; omega, by simp only [I64]; omega, IH2 (by omega) _ ?_⟩, fun hc3 => ⟨by simp only [I64]; omega, IH2 (by omega) _ ?_⟩⟩, fun hc2 => ⟨by simp only [I64]; omega, IH hi1 _ ?_⟩⟩
 ·rw [List.append_assoc, rowP_yes hc3]
 ·rw [rowP_no hc3]
 ·rw [show k = (at' b.nodes (i : Int)).links.length by omega, portsTo_succ]
abbrev l2Ends_pre (b : Big) (_ : Int) : Prop := LinkSz b
abbrev l2Ends (b : Big) (l : Int) := endsB b l
def l2Ends_wp (b : Big) (link : Int) (Z : (List Str) → Prop) : Prop :=
 loopW (σ := Int × (List Str)) (fun (i14, l15) K19 => ∀ len20 : Int, len20 = (b.inner.length : Int) → ∀ c22 : Bool, c22 = decide (i14 < len20) → ((c22 = true → (0 ≤ i14 ∧ i14 < b.inner.length) ∧ ∀ x25 : Wire, x25 = at' b.inner i14 → ∀ c27 : Bool, c27 = decide (x25.link = link) → ((c27 = true → (0 ≤ i14 ∧ i14 < b.inner.length) ∧ ∀ x30 : Wire, x30 = at' b.inner i14 → (l15.length + 1 ≤ 1073741824) ∧ ∀ l34 : List Str, l34 = l15 ++ [x25.name] → (I64 (i14 + 1)) ∧ ∀ v44 : Int, v44 = i14 + 1 → K19 (v44, l34)) ∧ (c27 = false → (I64 (i14 + 1)) ∧ ∀ v47 : Int, v47 = i14 + 1 → K19 (v47, l15)))) ∧ (c22 = false → Z l15))) (0, ([] : List Str))
theorem l2Ends_vc (b : Big) (l : Int) (h : l2Ends_pre b l) : l2Ends_wp b l (fun y => y = l2Ends b l) := by
 unfold l2Ends_wp
 obtain ⟨h1, h2, h3⟩ := h
 refine loopW.upL b.inner.length (fun i out => out = endsTo b l i) [] (by simp [endsTo]) ?_
 rintro i out K hi rfl IH
 have hle := endsTo_len b l i
 simp only [forall_eq, decide_eq_true_eq, decide_eq_false_iff_not]
 refine ⟨fun hc => ?_, fun hc => by rw [show i = b.inner.length by omega, endsTo_end]⟩
 have hi1 : i < b.inner.length := by omega
 rw [at_lt hi1]
 refine ⟨by omega, fun hc3 => ⟨by omega, by omega, by simp only [I64]; omega, IH hi1 _ ?_⟩, fun hc3 => ⟨by simp only [I64]; omega, IH hi1 _ ?_⟩⟩
 ·rw [endsTo_succ l hi1, if_pos hc3]
 ·rw [endsTo_succ l hi1, if_neg hc3, List.append_nil]
abbrev pointsOf_pre (b : Big) (_ : Int) : Prop := LinkSz b
abbrev pointsOf (b : Big) (l : Int) := (portsB b l, endsB b l)
def pointsOf_wp (b : Big) (link : Int) (Z : ((List (Int × Int)) × (List Str)) → Prop) : Prop :=
 ∀ len9 : Int, len9 = (b.nodes.length : Int) → loopW (σ := Int × (List (Int × Int))) (fun (v20, l21) K26 => ∀ c27 : Bool, c27 = decide (v20 < len9) → ((c27 = true → (0 ≤ v20 ∧ v20 < b.nodes.length) ∧ ∀ x30 : GNode, x30 = at' b.nodes v20 → ∀ len36 : Int, len36 = (x30.links.length : Int) → loopW (σ := Int × (List (Int × Int))) (fun (v47, l48) K53 => ∀ c54 : Bool, c54 = decide (v47 < len36) → ((c54 = true → (0 ≤ v47 ∧ v47 < x30.links.length) ∧ ∀ x57 : Int, x57 = at' x30.links v47 → ∀ c59 : Bool, c59 = decide (x57 = link) → ((c59 = true → (l48.length + 1 ≤ 1073741824) ∧ ∀ l62 : List (Int × Int), l62 = l48 ++ [(v20, v47)] → (I64 (v47 + 1)) ∧ ∀ v73 : Int, v73 = v47 + 1 → K53 (v73, l62)) ∧ (c59 = false → (I64 (v47 + 1)) ∧ ∀ v76 : Int, v76 = v47 + 1 → K53 (v76, l48)))) ∧ (c54 = false → (I64 (v20 + 1)) ∧ ∀ v79 : Int, v79 = v20 + 1 → K26 (v79, l48)))) (0, l21)) ∧ (c27 = false → ∀ len81 : Int, len81 = (b.inner.length : Int) → loopW (σ := Int × (List Str)) (fun (v92, l93) K98 => ∀ c99 : Bool, c99 = decide (v92 < len81) → ((c99 = true → (0 ≤ v92 ∧ v92 < b.inner.length) ∧ ∀ x102 : Wire, x102 = at' b.inner v92 → ∀ c108 : Bool, c108 = decide (x102.link = link) → ((c108 = true → (l93.length + 1 ≤ 1073741824) ∧ ∀ l111 : List Str, l111 = l93 ++ [x102.name] → (I64 (v92 + 1)) ∧ ∀ v122 : Int, v122 = v92 + 1 → K98 (v122, l111)) ∧ (c108 = false → (I64 (v92 + 1)) ∧ ∀ v125 : Int, v125 = v92 + 1 → K98 (v125, l93)))) ∧ (c99 = false → Z (l21, l93)))) (0, ([] : List Str))))) (0, ([] : List (Int × Int)))
theorem pointsOf_vc (b : Big) (l : Int) (h : pointsOf_pre b l) : pointsOf_wp b l (fun y => y = pointsOf b l) := by
 unfold pointsOf_wp
 obtain ⟨h1, h2, h3⟩ := h
 rintro _ rfl
 refine loopW.upL b.nodes.length (fun i out => out = portsTo b l i) [] rfl ?_
 rintro i out K hi rfl IH
 simp only [forall_eq, decide_eq_true_eq, decide_eq_false_iff_not]
 refine ⟨fun hc => ?_, fun hc => ?_⟩
 ·have hi1 : i < b.nodes.length := by omega
  have hpl := portsTo_len h2 l i (by omega)
  have hli := h2 i hi1
  refine ⟨by omega, loopW.upL (at' b.nodes (i : Int)).links.length (fun k out => out = portsTo b l i ++ rowP b l i k) _ (by simp [rowP_zero]) ?_⟩
  rintro k out K2 hk rfl IH2
  have hrl := rowP_len b l i k
  dsimp only
  refine ⟨fun hc2 => ⟨by omega, fun hc3 => ⟨by simp; omega, by simp only [I64]; omega, IH2 (by omega) _ ?_⟩, fun hc3 => ⟨by simp only [I64]; omega, IH2 (by omega) _ ?_⟩⟩, fun hc2 => ⟨by simp only [I64]; omega, IH hi1 _ ?_⟩⟩
  ·rw [List.append_assoc, rowP_yes hc3]
  ·rw [rowP_no hc3]
  ·rw [show k = (at' b.nodes (i : Int)).links.length by omega, portsTo_succ]
 ·rw [show i = b.nodes.length by omega]
  refine loopW.upL b.inner.length (fun i out => out = endsTo b l i) [] (by simp [endsTo]) ?_
  rintro i out K hi rfl IH
  have hle := endsTo_len b l i
  dsimp only
  refine ⟨fun hc => ?_, fun hc => by rw [show i = b.inner.length by omega, endsTo_end]; rfl⟩
  have hi1 : i < b.inner.length := by omega
  rw [at_lt hi1]
  refine ⟨by omega, fun hc3 => ⟨by omega, by simp only [I64]; omega, IH hi1 _ ?_⟩, fun hc3 => ⟨by simp only [I64]; omega, IH hi1 _ ?_⟩⟩
  ·rw [endsTo_succ l hi1, if_pos hc3]
  ·rw [endsTo_succ l hi1, if_neg hc3, List.append_nil]
abbrev l2Idle_pre (b : Big) (_ : Int) : Prop := LinkSz b
abbrev l2Idle (b : Big) (l : Int) : Bool := decide ((portsB b l).length = 0) && decide ((endsB b l).length = 0)
def l2Idle_wp (b : Big) (link : Int) (Z : Bool → Prop) : Prop :=
 joinW (fun (J4 : Bool → Prop) => (l2Ports_pre b link) ∧ ∀ r11 : List (Int × Int), r11 = l2Ports b link → ∀ len12 : Int, len12 = (r11.length : Int) → ∀ c14 : Bool, c14 = decide (len12 = 0) → ((c14 = true → (l2Ends_pre b link) ∧ ∀ r17 : List Str, r17 = l2Ends b link → ∀ len18 : Int, len18 = (r17.length : Int) → ∀ c20 : Bool, c20 = decide (len18 = 0) → J4 (c20)) ∧ (c14 = false → J4 (false)))) (fun b7 => Z b7)
theorem l2Idle_vc (b : Big) (l : Int) (h : l2Idle_pre b l) : l2Idle_wp b l (fun y => y = l2Idle b l) := by
 unfold l2Idle_wp
 refine ⟨fun x => x = l2Idle b l, ?_, fun x h => h⟩
 simp only [forall_eq, decide_eq_true_eq, decide_eq_false_iff_not, l2Idle]
 refine ⟨h, fun h1 => ⟨h, ?_⟩, fun h1 => ?_⟩
 ·simp only [l2Ports] at h1
  simp [show (portsB b l).length = 0 by omega]
 ·simp only [l2Ports] at h1
  simp [show ¬ (portsB b l).length = 0 by omega]
abbrev isIdle_pre (b : Big) (_ : Int) : Prop := LinkSz b
abbrev isIdle (b : Big) (l : Int) : Bool := l2Idle b l
def isIdle_wp (b : Big) (link : Int) (Z : Bool → Prop) : Prop :=
 (pointsOf_pre b link) ∧ ∀ r5 : (List (Int × Int)) × (List Str), r5 = pointsOf b link → ∀ len6 : Int, len6 = (r5.1.length : Int) → ∀ len8 : Int, len8 = (r5.2.length : Int) → (I64 (len6 + len8)) ∧ ∀ v11 : Int, v11 = len6 + len8 → ∀ c13 : Bool, c13 = decide (v11 = 0) → Z c13
theorem isIdle_vc (b : Big) (l : Int) (h : isIdle_pre b l) : isIdle_wp b l (fun y => y = isIdle b l) := by
 unfold isIdle_wp
 have h1 : (portsB b l).length ≤ 1024 * 1024 := Nat.le_trans (portsTo_len h.2.1 l _ (Nat.le_refl _)) (by have := h.1; omega)
 have h2 : (endsB b l).length ≤ 1048576 := by rw [← endsTo_end]; have := endsTo_len b l b.inner.length; have := h.2.2; omega
 simp only [forall_eq]
 refine ⟨h, by simp only [I64]; omega, ?_⟩
 rw [isIdle, l2Idle, Bool.eq_iff_iff]
 simp only [decide_eq_true_eq, Bool.and_eq_true]
 omega
abbrev isClosedB (b : Big) : Bool := decide (b.sites.length = 0) && decide (b.inner.length = 0)
abbrev isClosedB_pre (b : Big) : Prop := b.sites.length ≤ 1048576 ∧ b.inner.length ≤ 1048576
def isClosedB_wp (b : Big) (Z : Bool → Prop) : Prop :=
 joinW (fun (J4 : Bool → Prop) => ∀ len10 : Int, len10 = (b.sites.length : Int) → ∀ c12 : Bool, c12 = decide (len10 = 0) → ((c12 = true → ∀ len14 : Int, len14 = (b.inner.length : Int) → ∀ c16 : Bool, c16 = decide (len14 = 0) → J4 (c16)) ∧ (c12 = false → J4 (false)))) (fun b7 => Z b7)
theorem isClosedB_vc (b : Big) (h : isClosedB_pre b) : isClosedB_wp b (fun y => y = isClosedB b) := by
 unfold isClosedB_wp
 refine ⟨fun x => x = isClosedB b, ?_, fun x h => h⟩
 simp only [forall_eq, decide_eq_true_eq, decide_eq_false_iff_not, isClosedB]
 refine ⟨fun h1 => ?_, fun h1 => ?_⟩
 ·simp [show b.sites.length = 0 by omega]
 ·simp [show ¬ b.sites.length = 0 by omega]
def agentB (sig : Sig) (b : Big) : Bool := goodB sig b && isClosedB b
abbrev agentB_pre (sig : Sig) (b : Big) : Prop := SmallB sig b
def agentB_wp (sig : List Control) (b : Big) (Z : Bool → Prop) : Prop :=
 joinW (fun (J4 : Bool → Prop) => (SmallB sig b) ∧ ∀ r11 : Bool, r11 = goodB sig b → ((r11 = true → (isClosedB_pre b) ∧ ∀ r13 : Bool, r13 = isClosedB b → J4 (r13)) ∧ (r11 = false → J4 (false)))) (fun b7 => Z b7)
theorem agentB_vc (sig : Sig) (b : Big) (h : agentB_pre sig b) : agentB_wp sig b (fun y => y = agentB sig b) := by
 unfold agentB_wp
 refine ⟨fun x => x = agentB sig b, ?_, fun x h => h⟩
 simp only [forall_eq]
 refine ⟨h, fun h1 => ⟨⟨h.sitesLen, h.innerLen⟩, by rw [agentB, h1]; rfl⟩, fun h1 => by rw [agentB, h1]; rfl⟩
abbrev l2Agent (sig : Sig) (b : Big) : Bool := agentB sig b
abbrev l2Agent_pre (sig : Sig) (b : Big) : Prop := SmallB sig b
def l2Agent_wp (sig : List Control) (b : Big) (Z : Bool → Prop) : Prop :=
 joinW (fun (J4 : Bool → Prop) => (SmallB sig b) ∧ ∀ r11 : Bool, r11 = goodB sig b → ((r11 = true → ∀ len12 : Int, len12 = (b.sites.length : Int) → ∀ c14 : Bool, c14 = decide (len12 = 0) → ((c14 = true → ∀ len16 : Int, len16 = (b.inner.length : Int) → ∀ c18 : Bool, c18 = decide (len16 = 0) → J4 (c18)) ∧ (c14 = false → J4 (false)))) ∧ (r11 = false → J4 (false)))) (fun b7 => Z b7)
theorem l2Agent_vc (sig : Sig) (b : Big) (h : l2Agent_pre sig b) : l2Agent_wp sig b (fun y => y = l2Agent sig b) := by
 unfold l2Agent_wp
 refine ⟨fun x => x = agentB sig b, ?_, fun x h => h⟩
 simp only [forall_eq, decide_eq_true_eq, decide_eq_false_iff_not]
 refine ⟨h, fun h1 => ⟨fun h2 => ?_, fun h2 => ?_⟩, fun h1 => by rw [agentB, h1]; rfl⟩
 ·rw [agentB, h1, isClosedB]; simp [show b.sites.length = 0 by omega]
 ·rw [agentB, h1, isClosedB]; simp [show ¬ b.sites.length = 0 by omega]
def OkPlace (b : Big) (p : Int) : Prop := ¬ ((p < 0 ∧ ((kidsB b p).length = 0 ∨ 0 < (holesB b p).length)) ∨ 1 < (holesB b p).length)
def RedexP (b : Big) : Prop := b.inner.length = 0 ∧ b.roots ≠ 0 ∧ (∀ p, -b.roots ≤ p → p < b.nodes.length → OkPlace b p) ∧ ∀ l, 0 ≤ l → l < b.edges + b.outer.length → isIdle b l = false
open Classical in
noncomputable def redexB (b : Big) : Bool := decide (RedexP b)
theorem redexB_iff {b : Big} : redexB b = true ↔ RedexP b := by simp [redexB]
theorem redexB_no {b : Big} (h : ¬ RedexP b) : redexB b = false := by simp [redexB, h]
abbrev isRedex_pre (b : Big) : Prop := LinkSz b ∧ b.sites.length ≤ 1048576 ∧ 0 ≤ b.roots ∧ b.roots ≤ 1024 ∧ 0 ≤ b.edges ∧ b.edges ≤ 1024 ∧ b.outer.length ≤ 1024
noncomputable abbrev isRedex (b : Big) : Bool := redexB b
def isRedex_wp (b : Big) (Z : Bool → Prop) : Prop :=
 joinW (fun (J4 : Bool → Prop) => ∀ len71 : Int, len71 = (b.inner.length : Int) → ∀ c73 : Bool, c73 = decide (0 < len71) → ((c73 = true → J4 (true)) ∧ (c73 = false → ∀ c75 : Bool, c75 = decide (b.roots = 0) → J4 (c75)))) (fun b7 => ((b7 = true → Z false) ∧ (b7 = false → (I64 (-b.roots)) ∧ ∀ v11 : Int, v11 = -b.roots → loopW (σ := Int) (fun placeV15 K18 => ∀ len19 : Int, len19 = (b.nodes.length : Int) → ∀ c21 : Bool, c21 = decide (placeV15 < len19) → ((c21 = true → (childrenOf_pre b placeV15) ∧ ∀ r24 : (List Int) × (List Int), r24 = childrenOf b placeV15 → joinW (fun (J25 : Bool → Prop) => ∀ c34 : Bool, c34 = decide (placeV15 < 0) → ((c34 = true → ∀ len36 : Int, len36 = (r24.1.length : Int) → ∀ c38 : Bool, c38 = decide (len36 = 0) → ((c38 = true → J25 (true)) ∧ (c38 = false → ∀ len40 : Int, len40 = (r24.2.length : Int) → ∀ c42 : Bool, c42 = decide (0 < len40) → ((c42 = true → J25 (true)) ∧ (c42 = false → ∀ len44 : Int, len44 = (r24.2.length : Int) → ∀ c47 : Bool, c47 = decide (1 < len40) → J25 (c47)))))) ∧ (c34 = false → ∀ len49 : Int, len49 = (r24.2.length : Int) → ∀ c51 : Bool, c51 = decide (1 < len49) → J25 (c51)))) (fun b28 => ((b28 = true → Z false) ∧ (b28 = false → (I64 (placeV15 + 1)) ∧ ∀ v32 : Int, v32 = placeV15 + 1 → K18 (v32))))) ∧ (c21 = false → ∀ len53 : Int, len53 = (b.outer.length : Int) → (I64 (b.edges + len53)) ∧ ∀ v56 : Int, v56 = b.edges + len53 → loopW (σ := Int) (fun v60 K63 => ∀ c64 : Bool, c64 = decide (v60 < v56) → ((c64 = true → (isIdle_pre b v60) ∧ ∀ r67 : Bool, r67 = isIdle b v60 → ((r67 = true → Z false) ∧ (r67 = false → (I64 (v60 + 1)) ∧ ∀ v69 : Int, v69 = v60 + 1 → K63 (v69)))) ∧ (c64 = false → Z true))) (0)))) (v11))))
theorem isRedex_vc (b : Big) (h : isRedex_pre b) : isRedex_wp b (fun y => y = isRedex b) := by
 unfold isRedex_wp
 obtain ⟨hL, hs, hr0, hr1, he0, he1, ho⟩ := h
 have hch : childrenOf_pre b 0 := ⟨by have := hL.1; omega, hs⟩
 have hL1 := hL.1
 simp only [forall_eq, decide_eq_true_eq, decide_eq_false_iff_not]
 refine ⟨fun c => c = true ↔ ¬ (b.inner.length = 0 ∧ b.roots ≠ 0), ⟨fun h1 => iff_of_true rfl (by omega), fun h1 => by simp only [decide_eq_true_eq]; omega⟩, fun c hc => ⟨fun h1 => (redexB_no fun hR => hc.1 h1 ⟨hR.1, hR.2.1⟩).symm, fun h1 => ?_⟩⟩
 have hc0 : b.inner.length = 0 ∧ b.roots ≠ 0 := Classical.not_not.1 fun h => by rw [hc.2 h] at h1; cases h1
 refine ⟨by simp only [I64]; omega, ?_⟩
 refine loopW.byM (fun place => -b.roots ≤ place ∧ place ≤ b.nodes.length ∧ ∀ p, -b.roots ≤ p → p < place → OkPlace b p) (fun place => (b.nodes.length - place).toNat) ⟨by omega, by omega, fun p h1 h2 => by omega⟩ ?_
 rintro place ⟨hp1, hp2, hp3⟩
 refine ⟨fun h2 => ⟨hch, fun c => c = true ↔ ¬ OkPlace b place, ?_, fun c hc => ⟨fun h3 => (redexB_no fun hR => hc.1 h3 (hR.2.2.1 place hp1 h2)).symm, fun h3 => ⟨by simp only [I64]; omega, ⟨by omega, by omega, fun p h4 h5 => ?_⟩, by omega⟩⟩⟩, fun h2 => ?_⟩
 ·simp only [OkPlace]
  refine ⟨fun h3 => ⟨fun h4 => ?_, fun h4 => ⟨fun h5 => ?_, fun h5 => ?_⟩⟩, fun h3 => ?_⟩ <;> simp only [decide_eq_true_eq, true_iff] <;> omega
 ·have hok : OkPlace b place := Classical.not_not.1 fun h => by rw [hc.2 h] at h3; cases h3
  rcases Int.lt_or_le p place with h6 | h6
  ·exact hp3 p h4 h6
  ·rw [show p = place by omega]; exact hok
 ·have hN : ((b.edges + b.outer.length).toNat : Int) = b.edges + b.outer.length := by omega
  refine ⟨by simp only [I64]; omega, loopW.up1 (b.edges + b.outer.length).toNat (fun k => ∀ l, 0 ≤ l → l < (k : Int) → isIdle b l = false) (fun l h1 h2 => by omega) ?_⟩
  rintro k K hk hI IH
  refine ⟨fun h3 => ⟨hL, fun h4 => (redexB_no fun hR => ?_).symm, fun h4 => ⟨by simp only [I64]; omega, IH (by omega) fun l h5 h6 => ?_⟩⟩, fun h3 => ?_⟩
  ·have := hR.2.2.2 k (by omega) h3
   rw [h4] at this; cases this
  ·rcases Int.lt_or_le l k with h7 | h7
   ·exact hI l h5 h7
   ·rw [show l = k by omega]; exact h4
  ·exact (redexB_iff.2 ⟨hc0.1, hc0.2, fun p h4 h5 => hp3 p h4 (by omega), fun l h4 h5 => hI l h4 (by omega)⟩).symm
abbrev l8Solid_pre (b : Big) : Prop := isRedex_pre b
noncomputable abbrev l8Solid (b : Big) : Bool := redexB b
def l8Solid_wp (b : Big) (Z : Bool → Prop) : Prop :=
 joinW (fun (J4 : Bool → Prop) => ∀ len83 : Int, len83 = (b.inner.length : Int) → ∀ c85 : Bool, c85 = decide (0 < len83) → ((c85 = true → J4 (true)) ∧ (c85 = false → ∀ c87 : Bool, c87 = decide (b.roots = 0) → J4 (c87)))) (fun b7 => ((b7 = true → Z false) ∧ (b7 = false → loopW (σ := Int) (fun r12 K15 => ∀ c16 : Bool, c16 = decide (r12 < b.roots) → ((c16 = true → joinW (fun (J18 : Bool → Prop) => (I64 ((-1) - r12)) ∧ ∀ v28 : Int, v28 = (-1) - r12 → (l2Kids_pre b v28) ∧ ∀ r31 : List Int, r31 = l2Kids b v28 → ∀ len32 : Int, len32 = (r31.length : Int) → ∀ c34 : Bool, c34 = decide (len32 = 0) → ((c34 = true → J18 (true)) ∧ (c34 = false → (I64 ((-1) - r12)) ∧ ∀ v37 : Int, v37 = (-1) - r12 → (l2Holes_pre b v28) ∧ ∀ r41 : List Int, r41 = l2Holes b v28 → ∀ len42 : Int, len42 = (r41.length : Int) → ∀ c44 : Bool, c44 = decide (0 < len42) → J18 (c44)))) (fun b21 => ((b21 = true → Z false) ∧ (b21 = false → (I64 (r12 + 1)) ∧ ∀ v25 : Int, v25 = r12 + 1 → K15 (v25))))) ∧ (c16 = false → loopW (σ := Int) (fun i48 K51 => ∀ len52 : Int, len52 = (b.nodes.length : Int) → ∀ c54 : Bool, c54 = decide (i48 < len52) → ((c54 = true → (l2Holes_pre b i48) ∧ ∀ r57 : List Int, r57 = l2Holes b i48 → ∀ len58 : Int, len58 = (r57.length : Int) → ∀ c60 : Bool, c60 = decide (1 < len58) → ((c60 = true → Z false) ∧ (c60 = false → (I64 (i48 + 1)) ∧ ∀ v63 : Int, v63 = i48 + 1 → K51 (v63)))) ∧ (c54 = false → loopW (σ := Int) (fun link67 K70 => ∀ len71 : Int, len71 = (b.outer.length : Int) → (I64 (b.edges + len71)) ∧ ∀ v74 : Int, v74 = b.edges + len71 → ∀ c76 : Bool, c76 = decide (link67 < v74) → ((c76 = true → (l2Idle_pre b link67) ∧ ∀ r79 : Bool, r79 = l2Idle b link67 → ((r79 = true → Z false) ∧ (r79 = false → (I64 (link67 + 1)) ∧ ∀ v81 : Int, v81 = link67 + 1 → K70 (v81)))) ∧ (c76 = false → Z true))) (0)))) (0)))) (0))))
theorem l8Solid_vc (b : Big) (h : l8Solid_pre b) : l8Solid_wp b (fun y => y = l8Solid b) := by
 unfold l8Solid_wp
 obtain ⟨hL, hs, hr0, hr1, he0, he1, ho⟩ := h
 have hL1 := hL.1
 have hk1 : l2Kids_pre b 0 := by simp only [l2Kids_pre]; omega
 simp only [forall_eq, decide_eq_true_eq, decide_eq_false_iff_not, l2Kids, l2Holes]
 refine ⟨fun c => c = true ↔ ¬ (b.inner.length = 0 ∧ b.roots ≠ 0), ⟨fun h1 => iff_of_true rfl (by omega), fun h1 => by simp only [decide_eq_true_eq]; omega⟩, fun c hc => ⟨fun h1 => (redexB_no fun hR => hc.1 h1 ⟨hR.1, hR.2.1⟩).symm, fun h1 => ?_⟩⟩
 have hc0 : b.inner.length = 0 ∧ b.roots ≠ 0 := Classical.not_not.1 fun h => by rw [hc.2 h] at h1; cases h1
 have hR0 : (b.roots.toNat : Int) = b.roots := by omega
 refine loopW.up1 b.roots.toNat (fun k => ∀ r, 0 ≤ r → r < (k : Int) → (kidsB b (-1 - r)).length ≠ 0 ∧ (holesB b (-1 - r)).length = 0) (fun l h1 h2 => by omega) ?_
 rintro k K hk hI IH
 refine ⟨fun h2 => ⟨fun c => c = true ↔ ¬ ((kidsB b (-1 - (k : Int))).length ≠ 0 ∧ (holesB b (-1 - (k : Int))).length = 0), ⟨by simp only [I64]; omega, hk1, fun h3 => iff_of_true rfl (by omega), fun h3 => ⟨by simp only [I64]; omega, hs, by simp only [decide_eq_true_eq]; omega⟩⟩, fun c hc => ⟨fun h3 => (redexB_no fun hR => ?_).symm, fun h3 => ⟨by simp only [I64]; omega, IH (by omega) fun r h4 h5 => ?_⟩⟩⟩, fun h2 => ?_⟩
 ·have := hR.2.2.1 (-1 - (k : Int)) (by omega) (by omega)
  have h4 := hc.1 h3
  simp only [OkPlace] at this
  omega
 ·rcases Int.lt_or_le r k with h6 | h6
  ·exact hI r h4 h6
  ·rw [show r = k by omega]
   exact Classical.not_not.1 fun h => by rw [hc.2 h] at h3; cases h3
 refine loopW.up1 b.nodes.length (fun k => ∀ i, 0 ≤ i → i < (k : Int) → ¬ 1 < (holesB b i).length) (fun l h1 h2 => by omega) ?_
 rintro q K2 hq hI2 IH2
 refine ⟨fun h3 => ⟨hs, fun h4 => (redexB_no fun hR => ?_).symm, fun h4 => ⟨by simp only [I64]; omega, IH2 (by omega) fun i h5 h6 => ?_⟩⟩, fun h3 => ?_⟩
 ·have := hR.2.2.1 q (by omega) h3
  simp only [OkPlace] at this
  omega
 ·rcases Int.lt_or_le i q with h7 | h7
  ·exact hI2 i h5 h7
  ·rw [show i = q by omega]; omega
 have hN : ((b.edges + b.outer.length).toNat : Int) = b.edges + b.outer.length := by omega
 refine loopW.up1 (b.edges + b.outer.length).toNat (fun k => ∀ l, 0 ≤ l → l < (k : Int) → isIdle b l = false) (fun l h1 h2 => by omega) ?_
 rintro z K3 hz hI3 IH3
 refine ⟨by simp only [I64]; omega, fun h4 => ⟨hL, fun h5 => (redexB_no fun hR => ?_).symm, fun h5 => ⟨by simp only [I64]; omega, IH3 (by omega) fun l h6 h7 => ?_⟩⟩, fun h4 => ?_⟩
 ·have := hR.2.2.2 z (by omega) h4
  simp only [isIdle] at this
  rw [h5] at this; cases this
 ·rcases Int.lt_or_le l z with h8 | h8
  ·exact hI3 l h6 h8
  ·rw [show l = z by omega]; exact h5
 ·refine (redexB_iff.2 ⟨hc0.1, hc0.2, fun p h5 h6 => ?_, fun l h5 h6 => hI3 l h5 (by omega)⟩).symm
  simp only [OkPlace]
  rcases Int.lt_or_le p 0 with h7 | h7
  ·have := hI (-1 - p) (by omega) (by omega)
   rw [show -1 - (-1 - p) = p by omega] at this
   omega
  ·have := hI2 p h7 (by omega)
   omega
end Go.Ab.Vg
/- The abstract machine, part Sc: copying into an array of the call's own (elements of one cell). -/
namespace Go.Ab
section
variable {P : Program} {N : Nat} {Ty : Types} {ρ : Env} {H : Heap} {n : Nat}
variable {d : Option Tmp} {ty : TypeId} {pos : String} {af : Array Edge} {gu : Option (Nat × Bool)}
theorem exec_copy {a : Act} {w w' : World} {s x : Operand} {t t' : TypeId} {u : Value} (h : (Builtin.copy_ #[t, t'] ty #[a.eval s, a.eval x]).run P w = .ok u w') :
  (execOp a.eval ⟨d, .call ⟨.builtin .copy, #[s, x], #[t, t']⟩, ty, pos, af, gu⟩).run P w = .ok (.value u) w' := by
 simp only [execOp, resolve, invoke, builtin, Sem.run_bind, Sem.run_pure, Result.andThen_ok, List.map_toArray, List.map_cons, List.map_nil, h]
def copied (es new : List (List AVal)) (off len : Nat) : List (List AVal) := es.take off ++ new.take (min new.length len) ++ es.drop (off + min new.length len)
theorem copied_len {es new : List (List AVal)} {off len : Nat} (h : off + len ≤ es.length) : (copied es new off len).length = es.length := by simp [copied]; omega
theorem OpSem.copy1 (hT : TypesOk P Ty) {t t' : TypeId} {dst src : Operand} {j : TI} {id : Id} {g0 off len : Nat} {o : Ob} {els : List (List AVal)} (hk : kd Ty t = .slice j) (hj : j.size = 1) (hd : ρ.ev dst = .arr id g0 off len) (hl : live H id g0 = some o) (ho : o.size = 1)
  (hs : srcOf H (ρ.ev src) = some els) (hes : els.all (·.length == 1) = true) (h1 : els.all (fun e => e.all one1) = true) :
  OpSem P N ⟨d, .call ⟨.builtin .copy, #[dst, src], #[t, t']⟩, ty, pos, af, gu⟩ ρ H n fun v1 H1 n1 => v1 = int (min els.length len : Nat) ∧ H1 = H.set id ⟨1, copied o.els els off len⟩ ∧ n1 = n := by
 refine OpSem.of_value fun c a hH hn g r => ?_
 subst hH
 obtain ⟨i, e, hi, hde, hje⟩ := kd_slice hk
 obtain ⟨hu, _⟩ := hT t i hi
 rw [hde] at hu
 obtain ⟨_, info, zv, hinfo, his, _, _, _⟩ := hT e j hje
 have hs1 : (P.info? e).map (·.size) = some 1 := by rw [hinfo]; simp [his, hj]
 have rs := r.ev dst
 rw [hd] at rs
 obtain ⟨l1, l2⟩ := live_some hl
 have rx := srcOf_ok g (r.ev src) hs hes
 generalize hsv : a.eval dst = sv at rs
 generalize hxv : a.eval src = xv at rx
 cases rs with
 | arr _ _ _ _ _ hone hn0 hg hp =>
 obtain ⟨p1, ad, cap, rfl, hab, hsp, hlc, hoff, hcl⟩ := hp o l1 l2
 obtain ⟨ab, ao, asp⟩ := ad
 simp only at hab hsp hoff
 subst hab hsp
 obtain ⟨hB, cl, el, hh, hsz, hel⟩ := g.obj id o l1
 rw [ho] at hsz hoff
 have hsame : min els.length len = 0 → c.H.set id ⟨1, copied o.els els off len⟩ = c.H := fun h0 => by
  funext q
  by_cases hq : q = id
  ·subst hq
   rw [Heap.get_set_self, l1]
   have : copied o.els els off len = o.els := by simp [copied, h0]
   rw [this, ← ho]
  ·exact Heap.get_set_ne _ _ hq
 by_cases hm : min els.length len = 0
 ·have hrun : (Builtin.copy_ #[t, t'] ty #[a.eval dst, a.eval src]).run P c.w = .ok (goInt 0) c.w := by
   rw [hsv, hxv]
   rcases rx with ⟨rfl, rfl⟩ | ⟨a2, cap2, news, rfl, _⟩
   ·exact run_copy_nil P c.w t t' ty e _ len cap hu (by rw [hs1]; rfl)
   ·exact run_copy_none c.w t t' ty e _ _ len cap els.length cap2 hu hs1 hm
  exact ⟨_, _, c, exec_copy hrun, ⟨by rw [hm]; rfl, (hsame hm).symm, hn⟩, .v _, g, Keeps.refl c⟩
 ·rcases rx with ⟨rfl, rfl⟩ | ⟨a2, cap2, news, rfl, hnl, hnc, hnr⟩
  ·simp at hm
  have hao : ao = off := by
   rcases hoff with h | h
   ·omega
   ·omega
  subst hao
  have hog : o.els.length = g0 := l2
  have hml : (news.take (min els.length len)).length = min els.length len := by rw [List.length_take, hnl]; omega
  have hone' : ∀ v ∈ news.take (min els.length len), v.oneCell' = true := fun v hv => allOne h1 hnl hnr v (List.mem_of_mem_take hv)
  have hfit : ao + (news.take (min els.length len)).length ≤ cl.size := by rw [hml]; omega
  have hrun : (Builtin.copy_ #[t, t'] ty #[a.eval dst, a.eval src]).run P c.w = .ok (goInt (news.take (min els.length len)).length) (c.w.setRow (c.β id) (cl.toList.take ao ++ news.take (min els.length len) ++ cl.toList.drop (ao + (news.take (min els.length len)).length)).toArray) := by
   rw [hsv, hxv]
   exact run_copy_row P c.w t t' ty e (c.β id) ao len cap a2 els.length cap2 cl el _ hu hs1 hh hml (fun j v hj => hnc j v (by
    rw [List.getElem?_take] at hj
    split at hj
    ·exact hj
    ·cases hj)) hfit hone'
  have hov : (cl.toList.take ao ++ news.take (min els.length len) ++ cl.toList.drop (ao + (news.take (min els.length len)).length)).toArray = over cl ao (news.take (min els.length len)) := rfl
  rw [hov] at hrun
  have hup := upd_same g l1 ⟨1, copied o.els els ao len⟩ (c.w.setRow (c.β id) (over cl ao (news.take (min els.length len)))) cl (over cl ao (news.take (min els.length len))) el el ⟨rfl, rfl, rfl⟩ (by simp [World.setRow]) hh (fun k hk => setRow_other c.w _ k _ hk) (setRow_heap c.w _ cl _ el _ hh)
   (by rw [over_size hfit]; exact Nat.le_refl _) ho (by rw [copied_len (by omega)]; exact Nat.le_refl _) ⟨?_, ?_⟩
  ·exact ⟨int (min els.length len : Nat), goInt (news.take (min els.length len)).length, { c with H := c.H.set id ⟨1, copied o.els els ao len⟩, w := c.w.setRow (c.β id) (over cl ao (news.take (min els.length len))) }, exec_copy hrun, ⟨rfl, rfl, hn⟩, by rw [hml]; exact .v _, hup.2, hup.1⟩
  ·rw [over_size hfit, copied_len (by omega)]; simpa using hsz
  ·intro q e' he
   simp only [copied] at he
   have hcell : ∀ (x : List AVal), o.els[q]? = some x → ¬ (ao ≤ q ∧ q < ao + min els.length len) → x.length = 1 ∧ ∀ (j : Nat) (y : AVal), x[j]? = some y → ∃ z, (over cl ao (news.take (min els.length len)))[q * 1 + j]? = some z ∧ Rep c y z := fun x hx hnot => by
    obtain ⟨h2, h3⟩ := hel q x hx
    rw [ho] at h2 h3
    refine ⟨h2, fun j y hy => ?_⟩
    have hj0 : j = 0 := by have := (List.getElem?_eq_some_iff.1 hy).1; omega
    subst hj0
    have h4 := h3 0 y hy
    rwa [over_get hfit, hml, if_neg (by omega)]
   by_cases c1 : q < ao
   ·rw [List.append_assoc, List.getElem?_append_left (by simp; omega), List.getElem?_take, if_pos c1] at he
    exact hcell e' he (by omega)
   ·by_cases c2 : q < ao + min els.length len
    ·rw [List.append_assoc, List.getElem?_append_right (by simp; omega), List.getElem?_append_left (by simp; omega), List.getElem?_take] at he
     have hmin : min ao o.els.length = ao := by omega
     simp only [List.length_take, hmin] at he
     rw [if_pos (by omega)] at he
     obtain ⟨h2, h3⟩ := hnr _ e' he
     refine ⟨h2, fun j y hy => ?_⟩
     have hj0 : j = 0 := by have := (List.getElem?_eq_some_iff.1 hy).1; omega
     subst hj0
     obtain ⟨z, hz, hrep⟩ := h3 0 y hy
     refine ⟨z, ?_, hrep⟩
     show (over cl ao (news.take (min els.length len)))[q * 1 + 0]? = some z
     rw [over_get hfit, hml, if_pos (by omega), List.getElem?_take, if_pos (by omega)]
     rw [← hz]; congr 1; omega
    ·rw [List.getElem?_append_right (by simp; omega)] at he
     have hmin : min ao o.els.length = ao := by omega
     have hmin2 : min (min els.length len) els.length = min els.length len := by omega
     simp only [List.length_append, List.length_take, hmin, hmin2, List.getElem?_drop] at he
     rw [show ao + min els.length len + (q - (ao + min els.length len)) = q by omega] at he
     exact hcell e' he (by omega)
theorem OpSem.copy1' (hT : TypesOk P Ty) {t t' : TypeId} {dst src : Operand} {j : TI} {id : Id} {g0 off len m : Nat} {o : Ob} {els es' : List (List AVal)} (hk : kd Ty t = .slice j) (hj : j.size = 1) (hd : ρ.ev dst = .arr id g0 off len) (hl : live H id g0 = some o) (ho : o.size = 1)
  (hs : srcOf H (ρ.ev src) = some els) (hes : els.all (·.length == 1) = true) (h1 : els.all (fun e => e.all one1) = true) (hm : min els.length len = m) (he : copied o.els els off len = es') :
  OpSem P N ⟨d, .call ⟨.builtin .copy, #[dst, src], #[t, t']⟩, ty, pos, af, gu⟩ ρ H n (isV (int m) (H.set id ⟨1, es'⟩) n) := by
 subst hm he
 exact OpSem.copy1 hT hk hj hd hl ho hs hes h1
end
end Go.Ab
/- slices.Repeat of one number. -/
namespace Go.Ab.Vg
set_option linter.unusedSimpArgs false
set_option linter.unusedVariables false
open Go.Proofs
theorem rep_vs (c : Ctx) (vs : List Value) : Rep c (.tup (vs.map AVal.v)) (.tuple vs.toArray) := .tup _ _ (by simp) fun i a x ha hx => by
 rw [List.getElem?_map] at ha
 rw [hx] at ha
 simp only [Option.map_some, Option.some.injEq] at ha
 exact ha ▸ .v x
theorem e182 : Ent Tryz.prog 182 := Ent.of Tryz.func182 (by kernel_rfl) rfl
theorem e168 : Ent Tryz.prog 168 := Ent.of Tryz.func168 (by kernel_rfl) rfl
theorem bitsMul_ok (x y : Nat) (hx : x < 18446744073709551616) (hy : y < 18446744073709551616) : PureC Tryz.prog 182 [.v (.int .u64 x), .v (.int .u64 y)] (fun r => r = .tup [.v (.int .u64 ((x * y / 18446744073709551616 : Nat) : Int)), .v (.int .u64 ((x * y % 18446744073709551616 : Nat) : Int))]) := by
 refine PureC.of_below fun c xs _ r => ?_
 obtain ⟨a, b, rfl, ha, hb⟩ := r.two2
 rw [ha.v_inv, hb.v_inv]
 refine (Tryz.bits_Mul x y hx hy c.w).mono ?_
 rintro e w' ⟨he, rfl⟩
 exact ⟨_, _, he, rfl, .tup _ (by simp), fun c' => rep_vs c' [.int .u64 ((x * y / 18446744073709551616 : Nat) : Int), .int .u64 ((x * y % 18446744073709551616 : Nat) : Int)], Go.RowKit.Below.refl _ _⟩
def repeatI (l : List Int) (n : Int) : List Int := List.replicate n.toNat (l.headD 0)
abbrev repeatI_pre (l : List Int) (n : Int) : Prop := l.length = 1 ∧ 0 ≤ n ∧ n ≤ 1048576
theorem copied_rep {v : Int} {N m : Nat} (hm : m ≤ N) : copied ((List.replicate m v ++ List.replicate (N - m) (0 : Int)).map intC) ((List.replicate m v).map intC) m (N - m) = (List.replicate (m + min m (N - m)) v ++ List.replicate (N - (m + min m (N - m))) (0 : Int)).map intC := by
 simp only [copied, List.length_map, List.length_replicate, ← List.map_take, ← List.map_drop, ← List.map_append]
 congr 1
 refine List.ext_getElem (by simp; omega) fun i h1 h2 => ?_
 simp only [List.getElem_append, List.getElem_take, List.getElem_drop, List.getElem_replicate, List.length_append, List.length_take, List.length_replicate]
 repeat' split
 all_goals first | rfl | omega
theorem repeat_ok (v n : Int) (h : 0 ≤ n ∧ n ≤ 1048576) : OwnS Tryz.prog 168 [.list false ([v].map intC), int n] (.s [.c]) (fun r => r = .list true ((List.replicate n.toNat v).map intC)) := by
 obtain ⟨N, rfl⟩ : ∃ N : Nat, n = N := ⟨n.toNat, by omega⟩
 refine OwnS.of Tryz.func168 rfl Tryz.ntmps168 (by simp) fun Q hQ => ?_
 refine Runs.seqE Ty_ok (by decide) fun k' hk' => ?_
 simp
 refine hk' _ _ _ ?_
 refine Runs.seq ?_
 refine Runs.seqE Ty_ok (by decide) fun k' hk' => ?_
 simp
 refine hk' _ _ _ ?_
 refine Runs.ite rfl (fun hc1 => ?_) (fun hc1 => ?_)
 ·simp at hc1; omega
 clear hc1 hk'
 refine Runs.skip ?_
 refine Runs.seqE Ty_ok (by decide) fun k' hk' => ?_
 simp
 have hw : IntKind.u64.wrap (N : Int) = N := by simp [IntKind.wrap, IntKind.bits, IntKind.signed]; omega
 have hw1 : IntKind.u64.wrap 1 = 1 := by simp [IntKind.wrap, IntKind.bits, IntKind.signed]
 have hwi : IntKind.i64.wrap (N : Int) = N := wrap64 (by omega) (by omega)
 refine RunK.callA Ty_ok (bitsMul_ok 1 N (by omega) (by omega)) e182 (.cons (.v _ _ _) (.cons (.v _ _ _) .nil)) (by decide) (by decide) rfl (by simp [hw, hw1]) ?_
 rintro _ rfl
 have hd : (N : Int) / 18446744073709551616 = 0 := by omega
 have hm : (N : Int) % 18446744073709551616 = N := by omega
 simp [hd, hm]
 refine hk' _ _ _ ?_
 refine Runs.seq ?_
 refine Runs.seqE Ty_ok (by decide) fun k' hk' => ?_
 simp
 refine hk' _ _ _ ?_
 refine Runs.ite rfl (fun hc1 => ?_) (fun hc1 => ?_)
 ·simp at hc1; omega
 clear hc1 hk' hw1 hd hm
 refine Runs.skip ?_
 refine Runs.seqE Ty_ok (by decide) fun k' hk' => ?_
 simp [hwi, show (N : Int) ≤ 1073741824 by omega]
 refine hk' _ _ _ ?_
 refine Runs.cut (fun ρ H n => ρ 0 = .list false [intC v] ∧ ρ 7 = .arr (0, 30) N 0 N ∧ H (0, 30) = some ⟨1, (List.replicate N (0 : Int)).map intC⟩ ∧ n = 1) (by simp [intC]) ?_
 clear hk' hw hwi
 rintro ρ H _ ⟨h0, h7, hH, rfl⟩
 refine Runs.seqE Ty_ok (by decide) fun k' hk' => ?_
 simp [h0, h7]
 refine RunK.op Ty_ok (by decide) (by decide) rfl (OpSem.copy1 (id := (0, 30)) (g0 := N) (off := 0) (len := N) (o := ⟨1, (List.replicate N (0 : Int)).map intC⟩) (els := [v].map intC) Ty_ok kd_24 rfl (by simp [h7]) (by simp [live, hH]) rfl (by simp [srcOf, h0]) (by simp [intC]) (by simp [intC])) ?_
 rintro _ H' n' ⟨rfl, rfl, rfl⟩
 simp
 refine hk' _ _ _ ?_
 refine Runs.cut (fun ρ H n => ∃ m : Nat, ρ 7 = .arr (0, 30) N 0 N ∧ ρ 8 = int m ∧ m ≤ N ∧ (m = 0 → N = 0) ∧ H (0, 30) = some ⟨1, (List.replicate m v ++ List.replicate (N - m) (0 : Int)).map intC⟩ ∧ n = 1) ⟨min 1 N, by simp [h7], by simp, by omega, by omega, ?_, rfl⟩ ?_
 ·have hc : copied (List.replicate N (intC 0)) [intC v] 0 N = (List.replicate (min 1 N) v ++ List.replicate (N - min 1 N) (0 : Int)).map intC := by
   rcases Nat.eq_zero_or_pos N with h1 | h1
   ·subst h1; simp [copied]
   ·rw [show min 1 N = 1 by omega]; simp [copied, show min 1 N = 1 by omega]
  simp [hc]
 clear hk' h0 h7 hH
 rintro ρ H _ ⟨m, h7, h8, hm, hm0, hH, rfl⟩
 refine Runs.seq ?_
 refine Runs.block (Runs.loopM (fun q ρ H n => ∃ m : Nat, q = N - m ∧ ρ 7 = .arr (0, 30) N 0 N ∧ ρ 8 = int m ∧ m ≤ N ∧ (m = 0 → N = 0) ∧ H (0, 30) = some ⟨1, (List.replicate m v ++ List.replicate (N - m) (0 : Int)).map intC⟩ ∧ n = 1) (N - m) ⟨m, rfl, h7, h8, hm, hm0, hH, rfl⟩ ?_)
 clear h7 h8 hm hm0 hH
 rintro q ρ H _ ⟨m, rfl, h7, h8, hm, hm0, hH, rfl⟩ IH
 refine Runs.seq ?_
 refine Runs.seqE Ty_ok (by decide) fun k' hk' => ?_
 have hlen : ((List.replicate m v ++ List.replicate (N - m) (0 : Int)).map intC).length = N := by simp; omega
 generalize hels : (List.replicate m v ++ List.replicate (N - m) (0 : Int)).map intC = els at hH hlen
 simp [h7, h8, live, hH, hlen]
 refine hk' _ _ _ ?_
 refine Runs.ite rfl (fun hc1 => ?_) (fun hc1 => ?_)
 ·have hc1 : m < N := by simpa using hc1
  refine Runs.skip ?_
  refine Runs.block ?_
  refine Runs.evalDE Ty_ok kindOp_ok draws (by decide) (by kernel_rfl) fun k' hk' => ?_
  simp [h7, h8, live, hH, hlen, hm]
  have hmm : ((m : Int) + (min m (N - m) : Nat)) = ((m + min m (N - m) : Nat) : Int) := by omega
  refine RunDK.op Ty_ok kindOp_ok (v := int (min m (N - m) : Nat)) (H' := H.set (0, 30) ⟨1, (List.replicate (m + min m (N - m)) v ++ List.replicate (N - (m + min m (N - m))) (0 : Int)).map intC⟩) (n' := 1) rfl (by decide) (fun h => by cases h) ?_ ?_
  ·have e2 := copied_rep (v := v) (N := N) (m := m) hm
   rw [hels] at e2
   exact OpSem.copy1' (id := (0, 30)) (g0 := N) (off := m) (len := N - m) (o := ⟨1, els⟩) (els := (List.replicate m v).map intC) Ty_ok kd_24 rfl (by rw [loc_ev (by simp [Op.operands, Call.operands])]; simp) (by simp [live, hH, hlen]) rfl
    (by rw [loc_ev (by simp [Op.operands, Call.operands])]; simp [srcOf, live, hH, ← hels, List.take_append, show m + (N - m) = N by omega]) (by simp [intC]) (by simp [intC]) (by simp) e2
  have hwr : IntKind.i64.wrap ((m : Int) + (min m (N - m) : Nat)) = ((m + min m (N - m) : Nat) : Int) := by rw [hmm]; exact wrap64 (by omega) (by omega)
  have hz1 : 0 < min m (N - m) := by omega
  have hz2 : m + min m (N - m) ≤ N := by omega
  generalize hq : m + min m (N - m) = q at hwr hz2
  generalize min m (N - m) = z at hq hwr hz1
  simp [hwr]
  refine hk' _ _ _ ?_
  refine Runs.inBlock ?_
  exact IH (N - q) _ _ _ (by omega) ⟨q, rfl, by simp [h7], by simp, hz2, by omega, by simp, rfl⟩
 ·have hc1 : ¬ m < N := by simpa using hc1
  refine Runs.exit rfl ?_
  refine Runs.seqE Ty_ok (by decide) fun k' hk' => ?_
  simp [h7]
  refine hk' _ _ _ ?_
  have hmN : m = N := by omega
  subst hmN
  simp at hels
  exact Runs.ret1 (v := .arr (0, 30) m 0 m) Tryz.func168 Tryz.results168 (by simp) (hQ _ _ _ _ (Sep.ofArr (els := els) (by simp) hH hlen (by simp) (by simp) (by simp [← hels, intC]) (by simp)) (by simp [← hels]))
theorem repeatI_ok (l : List Int) (n : Int) (h : repeatI_pre l n) : OwnS Tryz.prog 168 [.list false (l.map intC), int n] (.s [.c]) (fun r => r = .list true ((repeatI l n).map intC)) := by
 obtain ⟨h1, h2⟩ := h
 match l, h1 with
 | [v], _ => exact repeat_ok v n h2
end Go.Ab.Vg
