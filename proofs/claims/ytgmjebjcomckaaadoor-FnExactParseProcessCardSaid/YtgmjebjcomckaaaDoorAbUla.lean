/- Contract of laws.markAmbNodeS. By program. -/
import Derived.Test.YtgmjebjcomckaaaDoorAbUk
import Derived.Test.YtgmjebjcomckaaaDoorAbTc
import Derived.Test.YtgmjebjcomckaaaDoorAbX
namespace Go.Ab
open Go.Proofs
set_option linter.unusedSimpArgs false
def markNode (k i : Nat) : AmbNode := ⟨((k + 3 * i : Nat) : Int), markTextL (k + 3 * i + 1), ((k + 3 * i + 2 : Nat) : Int)⟩
def markNodes (k c : Nat) : List (AmbNode) := (List.range c).map (markNode k)
theorem e55 : Ent Tryd.prog 55 := Ent.of Tryd.func55 (by kernel_rfl) rfl

theorem markAmbNodeS_ok {H : Heap} {n : Nat} {v : AVal} {S : List Id} (p : List (AmbNode)) (hO : Own H 1 v (.list true (p.map AmbNode.cells)) S) (k : Nat) (hk : k + 3 * p.length ≤ 1152921504606846976) :
    CallsA Tryd.prog 55 [v, int k] H n (fun r H1 n1 => r = int ((k + 3 * p.length : Nat) : Int) ∧ n1 = n ∧ Own H1 1 v (.list true ((markNodes k p.length).map AmbNode.cells)) S ∧ ∀ i, i ∉ S → H1 i = H i) := by
  refine CallsA.sized fun hsz => ?_
  rcases hO.flatS with ⟨rfl, hp, rfl⟩ | ⟨id, sz, rfl, hid, rfl⟩
  · have hp0 : p = [] := by simpa using hp
    subst hp0
    refine CallsA.of Tryd.func55 rfl Tryd.ntmps55 (by simp) fun Q hQ => ?_
    refine Runs.seqE Ty_ok (by decide) fun k' hk' => ?_
    simp   -- R0
    refine hk' _ _ _ ?_
    refine Runs.seq ?_
    refine Runs.seqE Ty_ok (by decide) fun k' hk' => ?_
    simp   -- R1
    refine hk' _ _ _ ?_
    refine Runs.block (Runs.loop ?_)
    refine Runs.seq ?_
    refine Runs.seqE Ty_ok (by decide) fun k' hk' => ?_
    simp   -- R2
    refine hk' _ _ _ ?_
    refine Runs.ite rfl (fun hc1 => by simp at hc1) (fun hc1 => ?_)
    refine Runs.exit rfl ?_
    refine Runs.seqE Ty_ok (by decide) fun k' hk' => ?_
    simp
    refine hk' _ _ _ ?_
    refine Runs.ret Tryd.func55 (RetOk.one Tryd.results55) (hQ _ _ _ ⟨by simp, rfl, ?_, fun _ _ => rfl⟩)
    simpa [markNodes] using Own.nilS
  · have hs3 : p ≠ [] → sz = 3 := by
      intro hne
      obtain ⟨x, r, rfl⟩ := List.exists_cons_of_ne_nil hne
      have := (hsz id _ hid).2 (AmbNode.cells x) (by simp)
      simpa [AmbNode.cells] using this.symm
    simp only [List.length_map]
    have hlen : ∀ j, j ≤ p.length → (partm (fun i => AmbNode.cells (markNode k i)) (p.map AmbNode.cells) j).length = p.length := fun j hj => by rw [partm_len (by simpa using hj)]; simp
    refine CallsA.of Tryd.func55 rfl Tryd.ntmps55 (by simp) fun Q hQ => ?_
    refine Runs.seqE Ty_ok (by decide) fun k' hk' => ?_
    simp   -- R0
    refine hk' _ _ _ ?_
    refine Runs.seq ?_
    refine Runs.seqE Ty_ok (by decide) fun k' hk' => ?_
    simp   -- R1
    refine hk' _ _ _ ?_
    refine Runs.block (Runs.loopUp p.length (fun j ρ H' n' => ρ 0 = .arr id p.length 0 p.length ∧ ρ 5 = int j ∧ ρ 1 = int ((k + 3 * j : Nat) : Int) ∧ n' = n ∧ H' = H.set id ⟨sz, partm (fun i => AmbNode.cells (markNode k i)) (p.map AmbNode.cells) j⟩) ?_ ?_)
    · refine ⟨by simp, by simp, by simp, rfl, ?_⟩
      rw [partm_zero]
      exact (Heap.set_same hid).symm
    · rintro j ρ H' n' hj ⟨h0, h5, h1, rfl, rfl⟩ IH
      refine Runs.seq ?_
      refine Runs.seqE Ty_ok (by decide) fun k' hk' => ?_
      simp [h0, h5, live, Heap.get_set_self, hlen j hj]   -- R2
      refine hk' _ _ _ ?_
      refine Runs.ite rfl (fun hc1 => ?_) (fun hc1 => ?_)
      · simp at hc1
        obtain rfl := hs3 (by intro h; subst h; simp at hc1)
        obtain ⟨els, hels, hl, hgj, hset⟩ := partm_step (row := fun i => AmbNode.cells (markNode k i)) (els := p.map AmbNode.cells) (k := j) (by simpa using hc1)
        rw [hels]
        simp only [List.length_map] at hl
        simp [hl, hc1, AmbNode.cells] at hgj
        have w1 := wrap_one (a := k + 3 * j) rfl (by omega)
        have w2 := wrap_one (a := k + 3 * j + 1) rfl (by omega)
        have w3 := wrap_one (a := k + 3 * j + 2) rfl (by omega)
        refine Runs.skip ?_
        refine Runs.seq ?_
        refine Runs.block ?_
        refine Runs.seqE Ty_ok (by decide) fun k' hk' => ?_
        simp [h0, h5, h1, live, Heap.get_set_self, hl, hc1, hgj, -Int.natCast_add]
        refine hk' _ _ _ ?_
        refine Runs.seqE Ty_ok (by decide) fun k' hk' => ?_
        simp [h1, w1, -Int.natCast_add]
        refine hk' _ _ _ ?_
        refine Runs.seqE Ty_ok (by decide) fun k' hk' => ?_
        simp [h0, h5, h1, live, Heap.get_set_self, hl, hc1, hgj, -Int.natCast_add]
        refine RunK.callA Ty_ok (markText_ok (k + 3 * j + 1) (by omega)) e99 (.cons (.v _ _ _) .nil) (by decide) (by decide) rfl (by simp [h1, -Int.natCast_add]) ?_
        rintro _ rfl
        simp [h0, h5, h1, live, Heap.get_set_self, hl, hc1, hgj, -Int.natCast_add]
        refine hk' _ _ _ ?_
        refine Runs.seqE Ty_ok (by decide) fun k' hk' => ?_
        simp [h1, w2, -Int.natCast_add]
        refine hk' _ _ _ ?_
        refine Runs.seqE Ty_ok (by decide) fun k' hk' => ?_
        simp [h0, h5, h1, live, Heap.get_set_self, hl, hc1, hgj, -Int.natCast_add]
        refine hk' _ _ _ ?_
        refine Runs.evalE Ty_ok (by decide) fun k' hk' => ?_
        simp [h1, w3, -Int.natCast_add]
        refine hk' _ _ _ ?_
        refine Runs.inBlock ?_
        refine Runs.evalE Ty_ok (by decide) fun k' hk' => ?_
        simp [h5, wrap_succ (show j < 4611686018427387904 by omega), -Int.natCast_add]
        refine hk' _ _ _ ?_
        refine IH hc1 _ _ _ ?_
        rw [← hset]
        simp [h0, markNode, AmbNode.cells,  Heap.set_set, -Int.natCast_add]
        omega
      · simp at hc1
        have hje : j = p.length := by omega
        subst hje
        refine Runs.exit rfl ?_
        refine Runs.seqE Ty_ok (by decide) fun k' hk' => ?_
        simp [h1, -Int.natCast_add]
        refine hk' _ _ _ ?_
        refine Runs.ret Tryd.func55 (RetOk.one Tryd.results55) (hQ _ _ _ ⟨by simp, rfl, ?_, fun i hi => ?_⟩)
        · refine Own.arrF (sz := sz) ?_ (by simp [markNodes]) (by simp [AmbNode.cells])
          have he := partm_end (row := fun i => AmbNode.cells (markNode k i)) (els := p.map AmbNode.cells)
          simp only [List.length_map] at he
          rw [Heap.get_set_self, he]
          simp [markNodes]
        · exact Heap.get_set_ne _ _ (by simpa using hi)

end Go.Ab
