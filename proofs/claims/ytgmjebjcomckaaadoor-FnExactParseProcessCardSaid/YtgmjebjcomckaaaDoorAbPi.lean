/- Contract of (*impl.scanner).inside. -/
import Derived.Test.YtgmjebjcomckaaaDoorAbPh
namespace Go.Ab
open Go.Proofs
set_option linter.unusedSimpArgs false

theorem insideI {X : Id} {m : Nat} : ∀ (G : Nat) (H : Heap) (n : Nat) (s : Str) (l : Proc) (nv : AVal) (parent : Int), s.length ≤ 1048576 → l.length ≤ 8 → H X = some (scan s nv false) → NV X m n H nv l → m ≤ n → X.1 < n → 3 * (8 - l.length) + 2 ≤ G →
    CallsA Tryd.prog 57 [.ptr X 1 0 0, int parent] H n (fun r H1 n1 => r = .tup [] ∧ PostS X m s H n (pIn false G parent s l) H1 n1) := by
  intro G
  induction G using Nat.strongRecOn with
  | _ G IHG =>
  intro H n s l nv parent hs hl hX hNV hmn hXn hG
  have node : ∀ (g : Nat) (H : Heap) (n : Nat) (s : Str) (l : Proc) (nv : AVal), g + 1 ≤ G → s.length ≤ 1048576 → l.length ≤ 8 → H X = some (scan s nv false) → NV X m n H nv l → m ≤ n → X.1 < n → 3 * (8 - l.length) ≤ g →
      CallsA Tryd.prog 121 [.ptr X 1 0 0, int parent] H n (fun r H1 n1 => r = .tup [] ∧ PostS X m s H n (pNode false (g + 1) parent s l) H1 n1) := fun g H n s l nv hgG hs hl hX hNV hmn hXn hg =>
    nodeI g parent hs hl hX hNV hmn hXn (fun H n s l nv parent h1 h2 _ h4 h5 h6 h7 h8 => IHG g (by omega) H n s l nv parent h1 h2 h4 h5 h6 h7 h8) hg
  have hX' := hX
  unfold scan at hX'
  refine CallsA.of Tryd.func57 rfl Tryd.ntmps57 (by simp) fun Q hQ => ?_
  refine Runs.seq ?_
  refine Runs.seqE Ty_ok (by decide) fun k' hk' => ?_
  simp   -- R0
  refine RunK.callS Ty_ok (take_ok [48] hX) e120 (by decide) (by decide) rfl (by simp) ?_
  rintro v H2 n2 ⟨rfl, rfl, rfl⟩
  simp
  refine hk' _ _ _ ?_
  obtain ⟨G', rfl⟩ : ∃ G', G = G' + 2 := ⟨G - 2, by omega⟩
  refine Runs.ite rfl (fun hc1 => ?_) (fun hc1 => ?_)   -- t5
  · have hp : List.isPrefixOf [48] s = true := by simpa using hc1
    have hp' : [48] <+: s := List.isPrefixOf_iff_prefix.1 hp
    rw [if_pos hp']
    refine Runs.ret Tryd.func57 (RetOk.zero Tryd.results57) (hQ _ _ _ ⟨rfl, by omega, fun i h1 h2 => Heap.get_set_ne _ _ h2, _, l, nv, false, by simp; rfl, hNV.mono (Nat.le_refl _) fun Y h1 _ _ => Heap.get_set_ne _ _ h1, by simp, hl, ?_⟩)
    rw [pIn, if_pos hp]
    exact ⟨rfl, by simp, rfl⟩
  · have hp : List.isPrefixOf [48] s = false := by simpa using hc1
    have hp' : ¬ [48] <+: s := fun h => by rw [List.isPrefixOf_iff_prefix.2 h] at hp; cases hp
    rw [if_neg hp']
    refine Runs.skip ?_
    refine Runs.seqE Ty_ok (by decide) fun k' hk' => ?_
    simp   -- R1
    refine RunK.callS Ty_ok (node G' H n2 s l nv (by omega) hs hl hX hNV hmn hXn (by omega)) e121 (by decide) (by decide) rfl (by simp) ?_
    rintro v H1 n1 ⟨rfl, hn1, hfr1, s1, l1, nv1, bad1, hX1, hNV1, hs1, hl1, hres1⟩
    simp
    refine hk' _ _ _ ?_
    refine Runs.block (Runs.loopM (fun q ρ H' n' => ρ 0 = .ptr X 1 0 0 ∧ ρ 1 = int parent ∧ n2 ≤ n' ∧ q ≤ G' + 1 ∧ (∀ i : Id, i.1 < m → i ≠ X → H' i = H i) ∧
      ∃ (s1 : Str) (l1 : Proc) (nv1 : AVal) (bad1 : Bool), H' X = some (scan s1 nv1 bad1) ∧ NV X m n' H' nv1 l1 ∧ s1.length ≤ s.length ∧ l1.length ≤ 8 ∧ (bad1 = false → 3 * (8 - l1.length) + 3 ≤ q) ∧
        (pIn false (G' + 2) parent s l) = (if bad1 then none else pLoop false q parent s1 l1)) (G' + 1) ?_ ?_)
    · refine ⟨by simp, by simp, hn1, Nat.le_refl _, hfr1, s1, l1, nv1, bad1, hX1, hNV1, hs1, hl1, fun h => ?_, ?_⟩
      · cases hpn : pNode false (G' + 1) parent s l with
        | none => rw [hpn] at hres1; simp only at hres1; rw [h] at hres1; cases hres1
        | some y =>
          rw [hpn] at hres1
          obtain ⟨_, rfl, rfl⟩ := hres1
          have := ((p_adds false _ _ _ _ _ _ hl).1 hpn).2.1
          omega
      · rw [pIn, if_neg (by simpa using hp')]
        cases hpn : pNode false (G' + 1) parent s l with
        | none => rw [hpn] at hres1; simp only at hres1; rw [hres1]; rfl
        | some y =>
          rw [hpn] at hres1
          obtain ⟨rfl, rfl, rfl⟩ := hres1
          rfl
    · clear hX1 hNV1 hs1 hl1 hres1 hfr1 hk' hn1
      rintro q ρ H' n' ⟨h0, h1, hn', hq, hfr, s1, l1, nv1, bad1, hX1, hNV1, hs1, hl1, hgas, htot⟩ IH
      have hX1' := hX1
      unfold scan at hX1'
      refine Runs.seq ?_
      refine Runs.seqE Ty_ok (by decide) fun k' hk' => ?_
      have stop : ∀ (ρ : Env), ρ 17 = bool false → bad1 = true ∨ List.isPrefixOf [124] s1 = false → Runs Tryd.prog 57 21 k' ρ H' n' Q := by
        intro ρ h17 hb
        refine hk' _ _ _ ?_
        refine Runs.ite h17 (fun h => by simp at h) (fun _ => ?_)
        refine Runs.exit rfl ?_
        refine Runs.fin Tryd.func57 (RetOk.zero Tryd.results57) (hQ _ _ _ ⟨rfl, hn', hfr, s1, l1, nv1, bad1, hX1, hNV1, hs1, hl1, ?_⟩)
        rw [htot]
        cases bad1
        · have hg := hgas rfl
          obtain ⟨g, rfl⟩ : ∃ g, q = g + 1 := ⟨q - 1, by omega⟩
          have hb' : List.isPrefixOf [124] s1 = false := by simpa using hb
          rw [if_neg (by simp), pLoop, if_neg (by simp [hb'])]
          exact ⟨rfl, rfl, rfl⟩
        · rfl
      cases bad1
      · simp [h0, hX1', guardOf]   -- R2
        refine RunK.callS Ty_ok (take_ok [124] hX1) e120 (by decide) (by decide) rfl (by simp [h0]) ?_
        rintro v H3 n3 ⟨rfl, rfl, rfl⟩
        cases hp2 : List.isPrefixOf [124] s1
        · simp
          exact stop _ (by simp [hp2]) (.inr hp2)
        · simp
          refine hk' _ _ _ ?_
          refine Runs.ite rfl (fun _ => ?_) (fun h => by simp [hp2] at h)
          refine Runs.skip ?_
          refine Runs.block ?_
          refine Runs.evalE Ty_ok (by decide) fun k' hk' => ?_
          simp [h0, h1]   -- R3
          have hg := hgas rfl
          obtain ⟨q', rfl⟩ : ∃ q', q = q' + 2 := ⟨q - 2, by omega⟩
          refine RunK.callS Ty_ok (node q' (H'.set X (scan s1.tail nv1 false)) n3 s1.tail l1 nv1 (by omega) (by simp; omega) hl1 (by simp) (hNV1.mono (Nat.le_refl _) fun Y h1 _ _ => Heap.get_set_ne _ _ h1) (by omega) (by omega) (by omega)) e121 (by decide) (by decide) rfl (by simp [h0, h1]) ?_
          rintro v H4 n4 ⟨rfl, hn4, hfr4, s2, l2, nv2, bad2, hX2, hNV2, hs2, hl2, hres2⟩
          simp
          refine hk' _ _ _ ?_
          refine Runs.inBlock ?_
          refine IH (q' + 1) _ _ _ (by omega) ⟨by simp [h0], by simp [h1], by omega, by omega, fun i h1 h2 => ?_, s2, l2, nv2, bad2, hX2, hNV2, by simp at hs2; omega, hl2, fun h => ?_, ?_⟩
          · rw [hfr4 i h1 h2, Heap.get_set_ne _ _ h2, hfr i h1 h2]
          · cases hpn : pNode false (q' + 1) parent s1.tail l1 with
            | none => rw [hpn] at hres2; simp only at hres2; rw [h] at hres2; cases hres2
            | some y =>
              rw [hpn] at hres2
              obtain ⟨_, rfl, rfl⟩ := hres2
              have := ((p_adds false _ _ _ _ _ _ hl1).1 hpn).2.1
              omega
          · rw [htot, if_neg (by simp), pLoop, if_pos hp2, List.drop_one]
            cases hpn : pNode false (q' + 1) parent s1.tail l1 with
            | none => rw [hpn] at hres2; simp only at hres2; rw [hres2]; rfl
            | some y =>
              rw [hpn] at hres2
              obtain ⟨rfl, rfl, rfl⟩ := hres2
              rfl
      · simp [h0, hX1', guardOf]   -- R2
        exact stop _ (by simp) (.inl rfl)
end Go.Ab
