/- Contract of impl.IsBigraph. -/
import Derived.Test.YtgmjebjcomckaaaDoorAbGg
namespace Go.Ab
open Go.Proofs
set_option linter.unusedSimpArgs false
theorem e27 : Ent Tryd.prog 27 := Ent.of Tryd.func27 (by kernel_rfl) rfl
theorem e76 : Ent Tryd.prog 76 := Ent.of Tryd.func76 (by kernel_rfl) rfl
theorem e78 : Ent Tryd.prog 78 := Ent.of Tryd.func78 (by kernel_rfl) rfl
theorem e80 : Ent Tryd.prog 80 := Ent.of Tryd.func80 (by kernel_rfl) rfl

/-- Bounds that the laws' own sizes give. -/
structure SmallB (sig : Sig) (b : Big) : Prop where
  sigLen : sig.length ≤ 1048576
  sigNames : ∀ c ∈ sig, c.name.length ≤ 1048576
  nodesLen : b.nodes.length ≤ 1048576
  sitesLen : b.sites.length ≤ 1048576
  outerLen : b.outer.length ≤ 1048576
  innerLen : b.inner.length ≤ 1048576
  outerNames : ∀ s ∈ b.outer, s.length ≤ 1048576
  innerNames : ∀ w ∈ b.inner, w.name.length ≤ 1048576
  linksLen : ∀ x ∈ b.nodes, x.links.length ≤ 1048576
  parents : ∀ x ∈ b.nodes, I64 x.parent
  sites64 : ∀ p ∈ b.sites, I64 p

theorem clos76 {H : Heap} {n : Nat} {X : Id} (b : Big) (he : 0 ≤ b.edges ∧ b.edges ≤ 8) (ho : b.outer.length ≤ 1048576) (hX : H X = some ⟨6, [b.cells false]⟩) (l : Int) : ClosC Tryd.prog H n (.fn (.func 76) [] [.ptr X 1 0 0]) [int l] (fun r => r = bool (!okLink b l)) := by
  refine ⟨76, [], [.ptr X 1 0 0], rfl, e76, ?_⟩
  have hX' := hX
  simp only [Big.cells] at hX'
  refine StillC.of Tryd.func76 rfl Tryd.ntmps76 (by simp) fun Q hB hQ => ?_
  refine Runs.seqE Ty_ok (by decide) fun k' hk' => ?_
  simp   -- R0
  refine hk' _ _ _ ?_
  refine Runs.seqE Ty_ok (by decide) fun k' hk' => ?_
  simp [hX']   -- R1
  refine RunK.callA Ty_ok (isLink_ok b l he ho) e77 (.cons (ArgOk.encB false b) (.cons (.v _ _ _) .nil)) (by decide) (by decide) rfl (by simp [encB, Big.cells]) ?_
  rintro _ rfl
  simp
  refine hk' _ _ _ ?_
  exact Runs.ret Tryd.func76 (RetOk.one Tryd.results76) (hQ _ _ _ _ (.bnd (.v _)) (Frame.refl _ _) (by simp))

theorem clos80 {H : Heap} {n : Nat} {X : Id} (b : Big) (he : 0 ≤ b.edges ∧ b.edges ≤ 8) (ho : b.outer.length ≤ 1048576) (hX : H X = some ⟨6, [b.cells false]⟩) (w : Wire) : ClosC Tryd.prog H n (.fn (.func 80) [] [.ptr X 1 0 0]) [.agg w.cells] (fun r => r = bool (!okLink b w.link)) := by
  refine ⟨80, [], [.ptr X 1 0 0], rfl, e80, ?_⟩
  have hX' := hX
  simp only [Big.cells] at hX'
  refine StillC.of Tryd.func80 rfl Tryd.ntmps80 (by simp) fun Q hB hQ => ?_
  have hXn := (hB X _ hX).1
  have hX2 : ¬ X = (n, 2) := by rintro rfl; simp at hXn
  refine Runs.seqE Ty_ok (by decide) fun k' hk' => ?_
  simp [Wire.cells]   -- R0
  refine hk' _ _ _ ?_
  refine Runs.seqE Ty_ok (by decide) fun k' hk' => ?_
  simp [hX2, hX']   -- R1
  refine RunK.callA Ty_ok (isLink_ok b w.link he ho) e77 (.cons (ArgOk.encB false b) (.cons (.v _ _ _) .nil)) (by decide) (by decide) rfl (by simp [encB, Big.cells]) ?_
  rintro _ rfl
  simp
  refine hk' _ _ _ ?_
  exact Runs.ret Tryd.func80 (RetOk.one Tryd.results80) (hQ _ _ _ _ (.bnd (.v _)) (Frame.set (by simp) (Frame.refl _ _)) (by simp))

theorem clos78 {H : Heap} {n : Nat} {X Y : Id} (sig : Sig) (b : Big) (hr : 0 ≤ b.roots ∧ b.roots ≤ 4) (hc : CtlOk sig b b.nodes.length) (hX : H X = some ⟨6, [b.cells false]⟩) (hY : H Y = some ⟨1, [[encSig false sig]]⟩) (p : Int) :
    ClosC Tryd.prog H n (.fn (.func 78) [] [.ptr X 1 0 0, .ptr Y 1 0 0]) [int p] (fun r => r = bool (!okParent sig b p b.nodes.length)) := by
  refine ⟨78, [], [.ptr X 1 0 0, .ptr Y 1 0 0], rfl, e78, ?_⟩
  have hX' := hX
  simp only [Big.cells, encN] at hX'
  have hY' := hY
  simp only [encSig] at hY'
  refine StillC.of Tryd.func78 rfl Tryd.ntmps78 (by simp) fun Q hB hQ => ?_
  refine Runs.seqE Ty_ok (by decide) fun k' hk' => ?_
  simp   -- R0
  refine hk' _ _ _ ?_
  refine Runs.seqE Ty_ok (by decide) fun k' hk' => ?_
  simp [hX', hY']   -- R1
  refine RunK.callA Ty_ok (isParent_ok sig b p b.nodes.length hr (Nat.le_refl _) hc) e74 (.cons (ArgOk.encB false b) (.cons (ArgOk.encSig false sig) (.cons (.v _ _ _) (.cons (.v _ _ _) .nil)))) (by decide) (by decide) rfl (by simp [encB, Big.cells, encN, encSig]) ?_
  rintro _ rfl
  simp
  refine hk' _ _ _ ?_
  exact Runs.ret Tryd.func78 (RetOk.one Tryd.results78) (hQ _ _ _ _ (.bnd (.v _)) (Frame.refl _ _) (by simp))

theorem ctl_step {sig : Sig} {b : Big} {k : Nat} (h : okNodeB sig b k = true) (hk : CtlOk sig b k) : CtlOk sig b (k + 1) := by
  intro i hi
  rcases Nat.lt_or_ge i k with h1 | h1
  · exact hk i h1
  · have : i = k := by omega
    subst this
    simp only [okNodeB, within, Bool.and_eq_true, decide_eq_true_eq] at h
    omega

/-- What stands ahead of the nodes. -/
def goodPre (sig : Sig) (b : Big) : Bool :=
  goodSig sig && within b.roots 0 4 && decide (b.nodes.length ≤ 8) && decide (b.sites.length ≤ 4) && within b.edges 0 8 && goodNames b.outer && goodNames (names b)
theorem goodB_eq (sig : Sig) (b : Big) : goodB sig b = (goodPre sig b && (List.range b.nodes.length).all (okNodeB sig b) && b.sites.all (fun p => okParent sig b p b.nodes.length) && b.inner.all (fun w => okLink b w.link)) := rfl

theorem any_not {α : Type} (l : List α) (p : α → Bool) : (l.any fun x => !p x) = !l.all p := by
  induction l with
  | nil => rfl
  | cons a l ih => simp [ih]

theorem IsBigraph_ok (sig : Sig) (b : Big) (hs : SmallB sig b) : PureC Tryd.prog 27 [encSig false sig, encB false b] (fun r => r = bool (goodB sig b)) := by
  obtain ⟨s1, s2, s3, s4, s5, s6, s7, s8, s9, _, _⟩ := hs
  have hnl : (names b).length ≤ 1048576 := by simpa [names] using s6
  have hnn : ∀ s ∈ names b, s.length ≤ 1048576 := by
    intro s hs
    obtain ⟨w, hw, rfl⟩ := List.mem_map.1 hs
    exact s8 w hw
  refine PureC.of Tryd.func27 rfl Tryd.ntmps27 (by simp) fun Q hQ => ?_
  refine Runs.seqE Ty_ok (by decide) fun k' hk' => ?_
  simp [encSig, encB, Big.cells]   -- R0
  refine hk' _ _ _ ?_
  refine Runs.cut (fun ρ H n => ρ 2 = .ptr (0, 2) 1 0 0 ∧ ρ 3 = .ptr (1, 3) 1 0 0 ∧ H (0, 2) = some ⟨1, [[encSig false sig]]⟩ ∧ H (1, 3) = some ⟨6, [b.cells false]⟩) ⟨by simp, by simp, by simp [encSig], by simp [Big.cells]⟩ ?_
  clear hk'
  rintro ρ H n ⟨h2, h3, hm2, hm3⟩
  have hm2' := hm2
  simp only [encSig] at hm2'
  have hm3' := hm3
  simp only [Big.cells, encN, encI, encS, encW] at hm3'
  refine Runs.seq ?_
  refine Runs.seqE Ty_ok (by decide) fun k' hk' => ?_
  have fin : ∀ ρ : Env, ρ 2 = .ptr (0, 2) 1 0 0 → ρ 3 = .ptr (1, 3) 1 0 0 → ρ 45 = bool (!goodPre sig b) → Runs Tryd.prog 27 101 k' ρ H n Q := by
    intro ρ h2 h3 h45
    refine hk' _ _ _ ?_
    refine Runs.ite h45 (fun hc1 => ?_) (fun hc1 => ?_)   -- t45
    · have hb : goodPre sig b = false := by simpa using hc1
      refine Runs.seqE Ty_ok (by decide) fun k' hk' => ?_
      simp   -- R2
      refine hk' _ _ _ ?_
      exact Runs.ret Tryd.func27 (RetOk.one Tryd.results27) (hQ _ _ _ _ (.v _ _ _) (by rw [goodB_eq, hb]; rfl))
    · have hb : goodPre sig b = true := by simpa using hc1
      have hb' := hb
      simp only [goodPre, within, Bool.and_eq_true, decide_eq_true_eq] at hb'
      obtain ⟨⟨⟨⟨⟨⟨_, hr⟩, hn8⟩, _⟩, hed⟩, _⟩, _⟩ := hb'
      refine Runs.skip ?_
      refine Runs.seq ?_
      refine Runs.seqE Ty_ok (by decide) fun k' hk' => ?_
      simp [h3, hm3']   -- R3
      refine hk' _ _ _ ?_
      refine Runs.block (Runs.loopUp b.nodes.length (fun k ρ H n => ρ 2 = .ptr (0, 2) 1 0 0 ∧ ρ 3 = .ptr (1, 3) 1 0 0 ∧ ρ 47 = .list false (b.nodes.map (GNode.cells false)) ∧ ρ 48 = int b.nodes.length ∧ ρ 49 = int k ∧
        H (0, 2) = some ⟨1, [[encSig false sig]]⟩ ∧ H (1, 3) = some ⟨6, [b.cells false]⟩ ∧ CtlOk sig b k ∧ (∀ i, i < k → okNodeB sig b i = true)) ?_ ?_)
      · exact ⟨by simp [h2], by simp [h3], by simp, by simp, by simp, hm2, hm3, fun i hi => by omega, fun i hi => by omega⟩
      · clear h2 h3 hm2' hm3'
        rintro k ρ H n hk ⟨h2, h3, h47, h48, h49, hm2, hm3, hctl, hall⟩ IH
        have hm2' := hm2
        simp only [encSig] at hm2'
        have hm3' := hm3
        simp only [Big.cells, encN, encI, encS, encW] at hm3'
        refine Runs.seqE Ty_ok (by decide) fun k' hk' => ?_
        simp [h48, h49]   -- R4
        refine hk' _ _ _ ?_
        refine Runs.seq ?_
        refine Runs.ite rfl (fun hc2 => ?_) (fun hc2 => ?_)   -- t50
        · have hc2 : k < b.nodes.length := by simpa using hc2
          have hgk : b.nodes.getD k default = b.nodes[k] := by simp [hc2]
          refine Runs.skip ?_
          refine Runs.seq ?_
          refine Runs.block ?_
          refine Runs.seqE Ty_ok (by decide) fun k' hk' => ?_
          simp [h47, h49, hc2, GNode.cells]   -- R5
          refine hk' _ _ _ ?_
          refine Runs.cut (fun ρ H m => ρ 2 = .ptr (0, 2) 1 0 0 ∧ ρ 3 = .ptr (1, 3) 1 0 0 ∧ ρ 47 = .list false (b.nodes.map (GNode.cells false)) ∧ ρ 48 = int b.nodes.length ∧ ρ 49 = int k ∧ ρ 5 = int k ∧ ρ 6 = .ptr (n, 6) 1 0 0 ∧
            H (0, 2) = some ⟨1, [[encSig false sig]]⟩ ∧ H (1, 3) = some ⟨6, [b.cells false]⟩ ∧ H (n, 6) = some ⟨3, [b.nodes[k].cells false]⟩ ∧ m = n + 1) ?_ ?_
          · exact ⟨by simp [h2], by simp [h3], by simp [h47], by simp [h48], by simp [h49], by simp, by simp, by simp [hm2], by simp [hm3], by simp [GNode.cells], rfl⟩
          clear hk' h2 h3 h47 h48 h49 hm2 hm3 hm2' hm3'
          rintro ρ H m ⟨h2, h3, h47, h48, h49, h5, h6, hm2, hm3, hm6, rfl⟩
          have hm2' := hm2
          simp only [encSig] at hm2'
          have hm3' := hm3
          simp only [Big.cells, encN, encI, encS, encW] at hm3'
          have hm6' := hm6
          simp only [GNode.cells] at hm6'
          refine Runs.seqD Ty_ok kindOp_ok draws (by decide) (by kernel_rfl) fun k' hk' => ?_
          have fin : ∀ ρ : Env, ρ 2 = .ptr (0, 2) 1 0 0 → ρ 3 = .ptr (1, 3) 1 0 0 → ρ 47 = .list false (b.nodes.map (GNode.cells false)) → ρ 48 = int b.nodes.length → ρ 49 = int k → ρ 87 = bool (!okNodeB sig b k) → Runs Tryd.prog 27 101 k' ρ H (n + 1) Q := by
            intro ρ h2 h3 h47 h48 h49 h87
            refine hk' _ _ _ ?_
            refine Runs.ite h87 (fun hc3 => ?_) (fun hc3 => ?_)   -- t87
            · have hb : okNodeB sig b k = false := by simpa using hc3
              refine Runs.seqE Ty_ok (by decide) fun k' hk' => ?_
              simp   -- R7
              refine hk' _ _ _ ?_
              exact Runs.ret Tryd.func27 (RetOk.one Tryd.results27) (hQ _ _ _ _ (.v _ _ _) (by rw [goodB_eq, all_range_bad hc2 hb, Bool.and_false]; rfl))
            · have hb : okNodeB sig b k = true := by simpa using hc3
              refine Runs.skip ?_
              refine Runs.inBlock ?_
              refine Runs.evalE Ty_ok (by decide) fun k' hk' => ?_
              simp [h49, wrap_succ (show k < 4611686018427387904 by omega)]   -- R8
              refine hk' _ _ _ ?_
              refine IH hc2 _ _ _ ⟨by simp [h2], by simp [h3], by simp [h47], by simp [h48], by simp, hm2, hm3, ctl_step hb hctl, fun i hi => ?_⟩
              rcases Nat.lt_or_ge i k with h | h
              · exact hall i h
              · rw [show i = k by omega]; exact hb
          have hw : IntKind.i64.wrap ((sig.length : Int) - 1) = (sig.length : Int) - 1 := by rw [wrap64] <;> omega
          simp [h2, h6, hm2', hm6', hw]   -- R6
          refine RunDK.callA Ty_ok kindOp_ok (within_ok b.nodes[k].control 0 ((sig.length : Int) - 1)) e71 (.cons (.v _ _ _) (.cons (.v _ _ _) (.cons (.v _ _ _) .nil))) (by decide) rfl (by simp) ?_
          cases q1 : within b.nodes[k].control 0 ((sig.length : Int) - 1)
          · simp [guardOf]
            exact fin _ (by simp [h2]) (by simp [h3]) (by simp [h47]) (by simp [h48]) (by simp [h49]) (by simp only [okNodeB, hgk, q1]; simp)
          simp [h2, h3, h5, h6, hm2', hm3', hm6', guardOf]
          refine RunDK.callA Ty_ok kindOp_ok (isParent_ok sig b b.nodes[k].parent k hr (by omega) hctl) e74 (.cons (ArgOk.encB false b) (.cons (ArgOk.encSig false sig) (.cons (.v _ _ _) (.cons (.v _ _ _) .nil)))) (by decide) rfl (by simp [encB, Big.cells, encN, encI, encS, encW, encSig]) ?_
          cases q2 : okParent sig b b.nodes[k].parent k
          · simp [guardOf]
            exact fin _ (by simp [h2]) (by simp [h3]) (by simp [h47]) (by simp [h48]) (by simp [h49]) (by simp only [okNodeB, hgk, q2]; simp)
          have q1' := q1
          simp only [within, Bool.and_eq_true, decide_eq_true_eq] at q1'
          obtain ⟨c, hc⟩ : ∃ c : Nat, b.nodes[k].control = c := ⟨b.nodes[k].control.toNat, by omega⟩
          have hcl : c < sig.length := by omega
          have q1c := q1
          rw [hc] at q1c
          have hgc : sig.getD c default = sig[c] := by simp [hcl]
          by_cases q3 : (b.nodes[k].links.length : Int) = sig[c].ports
          · have q3' : ((b.nodes[k].links.length : Int) != sig[c].ports) = false := by simpa using q3
            simp [h2, h3, h6, hm2', hm6', hc, hcl, q3', Control.cells, guardOf]
            refine RunDK.callT Ty_ok kindOp_ok (containsFuncI_ok false b.nodes[k].links (fun l => !okLink b l) (s9 _ (List.getElem_mem hc2)) (fun l _ => clos76 b hed s5 hm3 l)) e75 (by decide) rfl (by simp) ?_
            simp
            refine fin _ (by simp [h2]) (by simp [h3]) (by simp [h47]) (by simp [h48]) (by simp [h49]) ?_
            simp only [okNodeB, hgk, q1c, q2, hc, Int.toNat_natCast, hgc, q3, any_not]
            simp
          · have q3' : ((b.nodes[k].links.length : Int) != sig[c].ports) = true := by simpa using q3
            simp [h2, h3, h6, hm2', hm6', hc, hcl, q3', Control.cells, guardOf]
            exact fin _ (by simp [h2]) (by simp [h3]) (by simp [h47]) (by simp [h48]) (by simp [h49]) (by simp only [okNodeB, hgk, q1c, q2, hc, Int.toNat_natCast, hgc, q3]; simp)
        · have hc2 : ¬ k < b.nodes.length := by simpa using hc2
          have hke : k = b.nodes.length := by omega
          subst hke
          have hnodes := all_range_end hall
          refine Runs.exit rfl ?_
          refine Runs.seqE Ty_ok (by decide) fun k' hk' => ?_
          simp [h2, h3, hm3']   -- R9
          refine RunK.callT Ty_ok (containsFuncI_ok false b.sites (fun p => !okParent sig b p b.nodes.length) s4 (fun p _ => clos78 sig b hr hctl hm3 hm2 p)) e75 (by decide) (by decide) rfl (by simp) ?_
          rintro _ rfl
          rw [any_not]
          cases r1 : b.sites.all (fun p => okParent sig b p b.nodes.length)
          · simp [guardOf]
            refine hk' _ _ _ ?_
            exact Runs.ret Tryd.func27 (RetOk.one Tryd.results27) (hQ _ _ _ _ (.v _ _ _) (by rw [goodB_eq, r1]; simp))
          · simp [h3, hm3', guardOf]
            refine RunK.callT Ty_ok (containsFuncW_ok false b.inner (fun w => !okLink b w.link) s6 (fun w _ => clos80 b hed s5 hm3 w)) e79 (by decide) (by decide) rfl (by simp) ?_
            rintro _ rfl
            rw [any_not]
            simp
            refine hk' _ _ _ ?_
            exact Runs.ret Tryd.func27 (RetOk.one Tryd.results27) (hQ _ _ _ _ (.v _ _ _) (by rw [goodB_eq, hb, hnodes, r1]; simp))
  simp [h2, hm2']   -- R1
  refine RunK.callA Ty_ok (IsSignature_ok sig s1 s2) e70 (.cons (ArgOk.encSig false sig) .nil) (by decide) (by decide) rfl (by simp [encSig]) ?_
  rintro _ rfl
  cases p1 : goodSig sig
  · simp [guardOf]
    exact fin _ (by simp [h2]) (by simp [h3]) (by simp only [goodPre, p1]; simp)
  simp [h3, hm3', guardOf]
  refine RunK.callA Ty_ok (within_ok b.roots 0 4) e71 (.cons (.v _ _ _) (.cons (.v _ _ _) (.cons (.v _ _ _) .nil))) (by decide) (by decide) rfl (by simp) ?_
  rintro _ rfl
  cases p2 : within b.roots 0 4
  · simp [guardOf]
    exact fin _ (by simp [h2]) (by simp [h3]) (by simp only [goodPre, p2]; simp)
  by_cases p3 : (8 : Int) < b.nodes.length
  · simp [h3, hm3', p3, guardOf]
    exact fin _ (by simp [h2]) (by simp [h3]) (by simp only [goodPre, show ¬ b.nodes.length ≤ 8 by omega]; simp)
  by_cases p4 : (4 : Int) < b.sites.length
  · simp [h3, hm3', p3, p4, guardOf]
    exact fin _ (by simp [h2]) (by simp [h3]) (by simp only [goodPre, show ¬ b.sites.length ≤ 4 by omega]; simp)
  simp [h3, hm3', p3, p4, guardOf]
  refine RunK.callA Ty_ok (within_ok b.edges 0 8) e71 (.cons (.v _ _ _) (.cons (.v _ _ _) (.cons (.v _ _ _) .nil))) (by decide) (by decide) rfl (by simp) ?_
  rintro _ rfl
  cases p5 : within b.edges 0 8
  · simp [guardOf]
    exact fin _ (by simp [h2]) (by simp [h3]) (by simp only [goodPre, p5]; simp)
  simp [h3, hm3', guardOf]
  refine RunK.callA Ty_ok (areNames_ok b.outer s5 s7) e72 (.cons (ArgOk.encS false b.outer) .nil) (by decide) (by decide) rfl (by simp [encS]) ?_
  rintro _ rfl
  cases p6 : goodNames b.outer
  · simp [guardOf]
    exact fin _ (by simp [h2]) (by simp [h3]) (by simp only [goodPre, p6]; simp)
  simp [h3, hm3', guardOf]
  refine RunK.callA Ty_ok (innerNames_ok b s6) e73 (.cons (ArgOk.encB false b) .nil) (by decide) (by decide) rfl (by simp [encB, Big.cells, encN, encI, encS, encW]) ?_
  rintro _ rfl
  simp
  refine RunK.callA Ty_ok (areNames_ok (names b) hnl hnn) e72 (.cons (ArgOk.encS true (names b)) .nil) (by decide) (by decide) rfl (by simp [encS]) ?_
  rintro _ rfl
  simp
  exact fin _ (by simp [h2]) (by simp [h3]) (by simp only [goodPre, p1, p2, p5, p6, show b.nodes.length ≤ 8 by omega, show b.sites.length ≤ 4 by omega]; simp)
end Go.Ab
