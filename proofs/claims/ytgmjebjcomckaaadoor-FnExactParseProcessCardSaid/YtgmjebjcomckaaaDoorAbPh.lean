/- Contract of (*impl.scanner).node. -/
import Derived.Test.YtgmjebjcomckaaaDoorAbPg
namespace Go.Ab
open Go.Proofs
set_option linter.unusedSimpArgs false
theorem e57 : Ent Tryd.prog 57 := Ent.of Tryd.func57 (by kernel_rfl) rfl
theorem e121 : Ent Tryd.prog 121 := Ent.of Tryd.func121 (by kernel_rfl) rfl

/-- The nodes that are read, in memory. -/
def NV (X : Id) (m n : Nat) (H : Heap) (nv : AVal) (l : Proc) : Prop :=
  (nv = .v (.slice none 0 0) ∧ l = []) ∨ ∃ Y : Id, nv = .arr Y l.length 0 l.length ∧ H Y = some ⟨3, l.map AmbNode.cells⟩ ∧ Y ≠ X ∧ m ≤ Y.1 ∧ Y.1 < n

theorem NV.mono {X : Id} {m n n' : Nat} {H H' : Heap} {nv : AVal} {l : Proc} (h : NV X m n H nv l) (hn : n ≤ n') (hH : ∀ Y : Id, Y ≠ X → m ≤ Y.1 → Y.1 < n → H' Y = H Y) : NV X m n' H' nv l := by
  rcases h with h | ⟨Y, h1, h2, h3, h4, h5⟩
  · exact .inl h
  · exact .inr ⟨Y, h1, by rw [hH Y h3 h4 h5]; exact h2, h3, h4, by omega⟩

/-- What reading leaves. -/
def PostS (X : Id) (m : Nat) (s : Str) (H : Heap) (n : Nat) (o : Option (Str × Proc)) (H1 : Heap) (n1 : Nat) : Prop :=
  n ≤ n1 ∧ (∀ i : Id, i.1 < m → i ≠ X → H1 i = H i) ∧ ∃ s' l' nv' bad, H1 X = some (scan s' nv' bad) ∧ NV X m n1 H1 nv' l' ∧ s'.length ≤ s.length ∧ l'.length ≤ 8 ∧
    (match o with | some (t, l2) => bad = false ∧ s' = t ∧ l' = l2 | none => bad = true)

theorem drop_word_len (s : Str) (k : Nat) : (s.drop k).length ≤ s.length := by simp

theorem kindOf_at {s : Str} {j : Nat} (hj : j < 3) (hno : ∀ i, i < j → (word i).isPrefixOf s = false) (h : (word j).isPrefixOf s = true) : kindOf s = (j + 1, s.drop (word j).length) := by
  unfold kindOf
  match j, hj with
  | 0, _ => rw [if_pos h]
  | 1, _ => rw [if_neg (by rw [hno 0 (by omega)]; simp), if_pos h]
  | 2, _ => rw [if_neg (by rw [hno 0 (by omega)]; simp), if_neg (by rw [hno 1 (by omega)]; simp), if_pos h]

theorem nodeI {X : Id} {m n : Nat} {H : Heap} {s : Str} {l : Proc} {nv : AVal} (g : Nat) (parent : Int) (hs : s.length ≤ 1048576) (hl : l.length ≤ 8) (hX : H X = some (scan s nv false)) (hNV : NV X m n H nv l) (hmn : m ≤ n) (hXn : X.1 < n)
    (hin : ∀ (H : Heap) (n : Nat) (s : Str) (l : Proc) (nv : AVal) (parent : Nat), s.length ≤ 1048576 → l.length ≤ 8 → parent + 1 = l.length → H X = some (scan s nv false) → NV X m n H nv l → m ≤ n → X.1 < n → 3 * (8 - l.length) + 2 ≤ g →
      CallsA Tryd.prog 57 [.ptr X 1 0 0, int parent] H n (fun r H1 n1 => r = .tup [] ∧ PostS X m s H n (pIn false g parent s l) H1 n1))
    (hg : 3 * (8 - l.length) ≤ g) :
    CallsA Tryd.prog 121 [.ptr X 1 0 0, int parent] H n (fun r H1 n1 => r = .tup [] ∧ PostS X m s H n (pNode false (g + 1) parent s l) H1 n1) := by
  have hX4 : ¬ X = (n, 4) := by rintro rfl; simp at hXn
  have h4X : ¬ (n, 4) = X := fun h => hX4 h.symm
  refine CallsA.of Tryd.func121 rfl Tryd.ntmps121 (by simp) fun Q hQ => ?_
  refine Runs.seqE Ty_ok (by decide) fun k' hk' => ?_
  simp   -- R0
  refine hk' _ _ _ ?_
  refine Runs.seqE Ty_ok (by decide) fun k' hk' => ?_
  simp   -- R1
  refine hk' _ _ _ ?_
  refine Runs.seq_cut (fun ρ H' n' => ρ 0 = .ptr X 1 0 0 ∧ ρ 4 = .ptr (n, 4) 1 0 0 ∧ ρ 5 = str (opn (kindOf s).1) ∧ ρ 6 = str (cls (kindOf s).1) ∧
    H' (n, 4) = some ⟨3, [[int (kindOf s).1, str [], int parent]]⟩ ∧ H' X = some (scan (kindOf s).2 nv false) ∧ NV X m n H' nv l ∧ n' = n + 1 ∧ ∀ i : Id, i.1 < m → i ≠ X → H' i = H i) (fun after => ?_) ?_
  · refine Runs.seqE Ty_ok (by decide) fun k' hk' => ?_
    simp   -- R2
    refine RunK.callA Ty_ok prefixWords_ok e146 .nil (by decide) (by decide) rfl (by simp) ?_
    rintro _ rfl
    simp [encStrs]
    refine hk' _ _ _ ?_
    refine Runs.block (Runs.loopUp 3 (fun j ρ H' n' => ρ 0 = .ptr X 1 0 0 ∧ ρ 4 = .ptr (n, 4) 1 0 0 ∧ ρ 5 = str [91] ∧ ρ 6 = str [93] ∧ ρ 12 = .list true [[str (word 0)], [str (word 1)], [str (word 2)]] ∧ ρ 13 = int 3 ∧ ρ 14 = int j ∧
      H' (n, 4) = some ⟨3, [[int 0, str [], int parent]]⟩ ∧ H' X = some (scan s nv false) ∧ (∀ i, i < j → (word i).isPrefixOf s = false) ∧ n' = n + 1 ∧ ∀ i : Id, i.1 < n → i ≠ X → H' i = H i) ?_ ?_)
    · refine ⟨by simp, by simp, by simp, by simp, by simp, by simp, by simp, by simp, by simp [hX4, hX], by simp, rfl, fun i h1 h2 => ?_⟩
      have h3 : ¬ i = (n, 4) := by rintro rfl; simp at h1
      simp [h3]
    · rintro j ρ H' n' hj ⟨h0, h4, h5, h6, h12, h13, h14, hm4, hmX, hno, rfl, hfr⟩ IH
      have hw : ∀ j, j < 3 → ([[str (word 0)], [str (word 1)], [str (word 2)]] : List (List AVal))[j]? = some [str (word j)] := by
        intro j hj
        match j, hj with
        | 0, _ => rfl
        | 1, _ => rfl
        | 2, _ => rfl
      have hNV' : ∀ H2 : Heap, (∀ i : Id, i.1 < n → i ≠ X → H2 i = H i) → NV X m n H2 nv l := fun H2 h => hNV.mono (Nat.le_refl _) fun Y h1 _ h3 => h Y h3 h1
      refine Runs.seqE Ty_ok (by decide) fun k' hk' => ?_
      simp [h13, h14]   -- R3
      refine hk' _ _ _ ?_
      refine Runs.seq ?_
      refine Runs.ite rfl (fun hc1 => ?_) (fun hc1 => ?_)   -- t15
      · simp only [decide_eq_true_eq] at hc1
        have hj3 : j < 3 := by omega
        refine Runs.skip ?_
        refine Runs.seq ?_
        refine Runs.block ?_
        refine Runs.seqE Ty_ok (by decide) fun k' hk' => ?_
        have hwj : ∀ h : j < ([[str (word 0)], [str (word 1)], [str (word 2)]] : List (List AVal)).length, ([[str (word 0)], [str (word 1)], [str (word 2)]] : List (List AVal))[j] = [str (word j)] := fun h => by
          have := hw j hj3
          rw [List.getElem?_eq_getElem h] at this
          exact Option.some.inj this
        have hj3' : (j : Int) < 3 := by omega
        simp [h12, h14, hwj, hj3, hj3']   -- R4
        refine hk' _ _ _ ?_
        refine Runs.seqE Ty_ok (by decide) fun k' hk' => ?_
        simp [h0]   -- R5
        refine RunK.callS Ty_ok (take_ok (word j) hmX) e120 (by decide) (by decide) rfl (by simp [h0]) ?_
        rintro v H2 n2 ⟨rfl, rfl, rfl⟩
        simp
        refine hk' _ _ _ ?_
        refine Runs.ite rfl (fun hc2 => ?_) (fun hc2 => ?_)   -- t21
        · have hc2 : (word j).isPrefixOf s = true := by simpa using hc2
          have hko := kindOf_at hj3 hno hc2
          have hp : word j <+: s := List.isPrefixOf_iff_prefix.1 hc2
          refine Runs.seqE Ty_ok (by decide) fun k' hk' => ?_
          have hw1 : IntKind.i64.wrap (1 + (j : Int)) = ((j + 1 : Nat) : Int) := by rw [wrap64] <;> omega
          simp [h4, hm4, h4X, hp, hw1, -Int.natCast_add]   -- R6
          refine hk' _ _ _ ?_
          refine Runs.seqE Ty_ok (by decide) fun k' hk' => ?_
          simp   -- R7
          refine hk' _ _ _ ?_
          refine Runs.exit rfl ?_
          refine after _ _ _ ⟨by simp [h0], by simp [h4], by simp [hko, opn], by simp [hko, cls], by simp [hko], by simp [hX4, hko], hNV' _ fun i h1 h2 => ?_, rfl, fun i h1 h2 => ?_⟩
          · rw [Heap.get_set_ne _ _ (by rintro rfl; simp at h1), Heap.get_set_ne _ _ h2, hfr i h1 h2]
          · rw [Heap.get_set_ne _ _ (by rintro rfl; simp at h1; omega), Heap.get_set_ne _ _ h2, hfr i (by omega) h2]
        · have hc2 : (word j).isPrefixOf s = false := by simpa using hc2
          have hp : ¬ word j <+: s := fun h => by rw [List.isPrefixOf_iff_prefix.2 h] at hc2; cases hc2
          rw [if_neg hp]
          refine Runs.skip ?_
          refine Runs.inBlock ?_
          refine Runs.evalE Ty_ok (by decide) fun k' hk' => ?_
          simp [h14, wrap_succ (show j < 4611686018427387904 by omega)]   -- R8
          refine hk' _ _ _ ?_
          refine IH hj3 _ _ _ ⟨by simp [h0], by simp [h4], by simp [h5], by simp [h6], by simp [h12], by simp [h13], by simp, hm4, hmX, fun i hi => ?_, rfl, hfr⟩
          rcases Nat.lt_or_ge i j with h | h
          · exact hno i h
          · rw [show i = j by omega]; exact hc2
      · simp only [decide_eq_false_iff_not] at hc1
        have hj3 : j = 3 := by omega
        subst hj3
        have hko : kindOf s = (0, s) := by simp [kindOf, hno 0 (by omega), hno 1 (by omega), hno 2 (by omega)]
        refine Runs.exit rfl ?_
        exact after _ _ _ ⟨by simp [h0], by simp [h4], by simp [h5, hko, opn], by simp [h6, hko, cls], by simp [hm4, hko], by simp [hmX, hko], hNV' _ hfr, rfl, fun i h1 h2 => hfr i (by omega) h2⟩
  rintro ρ H1 n1 ⟨h0, h4, h5, h6, hm4, hmX, hNV, rfl, hfr⟩
  obtain ⟨k, hk⟩ : ∃ k, (kindOf s).1 = k := ⟨_, rfl⟩
  obtain ⟨s1, hs1⟩ : ∃ s1, (kindOf s).2 = s1 := ⟨_, rfl⟩
  have hsl : s1.length ≤ s.length := by rw [← hs1]; exact kindOf_len s
  rw [hk] at h5 h6 hm4
  rw [hs1] at hmX
  refine Runs.seqE Ty_ok (by decide) fun k' hk' => ?_
  simp [h0]   -- R9
  refine RunK.callS Ty_ok (name_ok (by omega) hmX) e153 (by decide) (by decide) rfl (by simp [h0]) ?_
  rintro v H2 n2 ⟨rfl, rfl, rfl⟩
  simp [h4, hm4, h4X]
  refine hk' _ _ _ ?_
  obtain ⟨nm, hnm⟩ : ∃ nm, s1.takeWhile lower = nm := ⟨_, rfl⟩
  obtain ⟨s2, hs2⟩ : ∃ s2, s1.dropWhile lower = s2 := ⟨_, rfl⟩
  have hs2l : s2.length ≤ s1.length := by rw [← hs2]; exact (List.dropWhile_suffix _).length_le
  rw [hnm, hs2]
  refine Runs.cut (fun ρ H' n' => ρ 0 = .ptr X 1 0 0 ∧ ρ 4 = .ptr (n, 4) 1 0 0 ∧ ρ 5 = str (opn k) ∧ ρ 6 = str (cls k) ∧
    H' (n, 4) = some ⟨3, [[int k, str nm, int parent]]⟩ ∧ H' X = some (scan s2 nv false) ∧ NV X m n H' nv l ∧ n' = n + 1 ∧ ∀ i : Id, i.1 < m → i ≠ X → H' i = H i) ?_ ?_
  · refine ⟨by simp [h0], by simp [h4], by simp [h5], by simp [h6], by simp, by simp [hX4], hNV.mono (Nat.le_refl _) fun Y h1 h2 h3 => ?_, rfl, fun i h1 h2 => ?_⟩
    · rw [Heap.get_set_ne _ _ (by rintro rfl; simp at h3), Heap.get_set_ne _ _ h1]
    · rw [Heap.get_set_ne _ _ (by rintro rfl; simp at h1; omega), Heap.get_set_ne _ _ h2]
      exact hfr i h1 h2
  clear hk' hfr hNV hmX hm4 h6 h5 h4 h0
  rintro ρ H1 n1 ⟨h0, h4, h5, h6, hm4, hmX, hNV, rfl, hfr⟩
  refine Runs.seqE Ty_ok (by decide) fun k' hk' => ?_
  have mid : ∀ ρ : Env, ρ 0 = .ptr X 1 0 0 → ρ 4 = .ptr (n, 4) 1 0 0 → ρ 5 = str (opn k) → ρ 6 = str (cls k) → ρ 9 = int l.length → Runs Tryd.prog 121 84 k' ρ H1 (n + 1) Q := by
    intro ρ h0 h4 h5 h6 h9
    refine hk' _ _ _ ?_
    refine Runs.seq ?_
    refine Runs.seqE Ty_ok (by decide) fun k' hk' => ?_
    have hmX' := hmX
    unfold scan at hmX'
    simp [h0, h5, hmX', guardOf]   -- R11
    refine RunK.callS Ty_ok (take_ok (opn k) hmX) e120 (by decide) (by decide) rfl (by simp [h0, h5]) ?_
    rintro v H2 n2 ⟨rfl, rfl, rfl⟩
    have fin : ∀ (ρ : Env) (s3 : Str) (bad : Bool), ρ 0 = .ptr X 1 0 0 → ρ 4 = .ptr (n, 4) 1 0 0 → ρ 6 = str (cls k) → ρ 9 = int l.length → s3.length ≤ s2.length → bad = (!(opn k).isPrefixOf s2 || l.length == 8) → (bad = false → s3 = s2.drop (opn k).length) →
        Runs Tryd.prog 121 84 k' ρ (H1.set X (scan s3 nv bad)) (n + 1) Q := by
      intro ρ s3 bad h0 h4 h6 h9 hs3 hbad hs3'
      refine hk' _ _ _ ?_
      refine Runs.seqE Ty_ok (by decide) fun k' hk' => ?_
      simp [h0, scan]   -- R12
      refine hk' _ _ _ ?_
      have hpn1 : bad = true → pNode false (g + 1) parent s l = none := by
        intro h
        rw [hbad] at h
        rw [pNode, hk, hs1, hnm, hs2, if_pos (by simpa using h)]
      have hpn2 : bad = false → pIn false g l.length (s2.drop (opn k).length) (l ++ [⟨k, nm, parent⟩]) = none → pNode false (g + 1) parent s l = none := by
        intro h h'
        rw [hbad] at h
        rw [pNode, hk, hs1, hnm, hs2, if_neg (by simpa using h), h']
      have hpn3 : bad = false → ∀ r l2, pIn false g l.length (s2.drop (opn k).length) (l ++ [⟨k, nm, parent⟩]) = some (r, l2) → pNode false (g + 1) parent s l = if (cls k).isPrefixOf r then some (r.drop 1, l2) else none := by
        intro h r l2 h'
        rw [hbad] at h
        rw [pNode, hk, hs1, hnm, hs2, if_neg (by simpa using h), h']
      refine Runs.ite rfl (fun hc3 => ?_) (fun hc3 => ?_)   -- t55
      · have hb : bad = true := by simpa using hc3
        refine Runs.ret Tryd.func121 (RetOk.zero Tryd.results121) (hQ _ _ _ ⟨rfl, by omega, fun i h1 h2 => ?_, s3, l, nv, true, ?_, ?_, by omega, hl, ?_⟩)
        · rw [Heap.get_set_ne _ _ h2]; exact hfr i h1 h2
        · simp [hb, scan]
        · exact hNV.mono (by omega) fun Y h1 _ _ => Heap.get_set_ne _ _ h1
        · rw [hpn1 hb]
      · have hb : bad = false := by simpa using hc3
        subst hb
        have hs3e := hs3' rfl
        have hpn2 := hpn2 rfl
        have hpn3 := hpn3 rfl
        have hl8 : l.length < 8 := by
          simp at hbad
          omega
        obtain ⟨x, hx⟩ : ∃ x : AmbNode, x = ⟨k, nm, parent⟩ := ⟨_, rfl⟩
        rw [← hx] at hpn2 hpn3
        refine Runs.skip ?_
        refine Runs.seqD Ty_ok kindOp_ok draws (by decide) (by kernel_rfl) fun k' hk' => ?_
        have mid2 : ∀ (ρ : Env) (H' : Heap) (n' : Nat) (nv' : AVal), ρ 0 = .ptr X 1 0 0 → ρ 6 = str (cls k) → ρ 9 = int l.length → H' X = some (scan s3 nv' false) → NV X m n' H' nv' (l ++ [x]) → n + 1 ≤ n' → (∀ i : Id, i.1 < m → i ≠ X → H' i = H i) →
            Runs Tryd.prog 121 84 k' ρ H' n' Q := by
          intro ρ H' n' nv' h0 h6 h9 hmX hNV hn' hfr
          refine hk' _ _ _ ?_
          refine Runs.seqE Ty_ok (by decide) fun k' hk' => ?_
          simp [h0, h9]   -- R14
          refine RunK.callS Ty_ok (hin H' n' s3 (l ++ [x]) nv' l.length (by omega) (by simp; omega) (by simp) hmX hNV (by omega) (by omega) (by simp; omega)) e57 (by decide) (by decide) rfl (by simp [h0, h9]) ?_
          rintro v H2 n2 ⟨rfl, hn2, hfr2, s', l', nv2, bad, hX2, hNV2, hs', hl', hres⟩
          simp
          refine hk' _ _ _ ?_
          rw [← hs3e] at hpn2 hpn3
          have hX2' := hX2
          unfold scan at hX2'
          refine Runs.evalE Ty_ok (by decide) fun k' hk' => ?_
          have hs2d : (s2.drop (opn k).length).length ≤ s2.length := by simp
          cases hpi : pIn false g l.length s3 (l ++ [x]) with
          | none =>
            rw [hpi] at hres
            subst hres
            simp [h0, h6, hX2', guardOf]   -- R15
            refine hk' _ _ _ ?_
            refine Runs.fin Tryd.func121 (RetOk.zero Tryd.results121) (hQ _ _ _ ⟨rfl, by omega, fun i h1 h2 => ?_, s', l', nv2, true, by simp [scan], hNV2.mono (Nat.le_refl _) fun Y h1 _ _ => Heap.get_set_ne _ _ h1, by omega, hl', ?_⟩)
            · rw [Heap.get_set_ne _ _ h2, hfr2 i h1 h2, hfr i h1 h2]
            · rw [hpn2 hpi]
          | some y =>
            obtain ⟨r, l2⟩ := y
            rw [hpi] at hres
            obtain ⟨rfl, rfl, rfl⟩ := hres
            have hp3 := hpn3 _ _ hpi
            simp [h0, h6, hX2', guardOf]   -- R15
            refine RunK.callS Ty_ok (take_ok (cls k) hX2) e120 (by decide) (by decide) rfl (by simp [h0, h6]) ?_
            rintro v H3 n3 ⟨rfl, rfl, rfl⟩
            cases hcl : (cls k).isPrefixOf s'
            · rw [hcl] at hp3
              simp [h0, hX2', guardOf]
              refine hk' _ _ _ ?_
              refine Runs.fin Tryd.func121 (RetOk.zero Tryd.results121) (hQ _ _ _ ⟨rfl, by omega, fun i h1 h2 => ?_, s', l', nv2, true, by simp [scan], hNV2.mono (Nat.le_refl _) fun Y h1 _ _ => Heap.get_set_ne _ _ h1, by omega, hl', ?_⟩)
              · rw [Heap.get_set_ne _ _ h2, hfr2 i h1 h2, hfr i h1 h2]
              · rw [hp3]; rfl
            · rw [hcl] at hp3
              simp [h0, scan, guardOf]
              refine hk' _ _ _ ?_
              refine Runs.fin Tryd.func121 (RetOk.zero Tryd.results121) (hQ _ _ _ ⟨rfl, by omega, fun i h1 h2 => ?_, s'.drop (cls k).length, l', nv2, false, by simp [scan], hNV2.mono (Nat.le_refl _) fun Y h1 _ _ => Heap.get_set_ne _ _ h1, by simp; omega, hl', ?_⟩)
              · rw [Heap.get_set_ne _ _ h2, hfr2 i h1 h2, hfr i h1 h2]
              · rw [hp3, cls_len]; exact ⟨rfl, rfl, rfl⟩
        have hm4' : (H1.set X (scan s3 nv false)) (n, 4) = some ⟨3, [[int k, str nm, int parent]]⟩ := by rw [Heap.get_set_ne _ _ h4X]; exact hm4
        have hxc : x.cells = [int k, str nm, int parent] := by rw [hx]; rfl
        rcases id hNV with ⟨rfl, rfl⟩ | ⟨Y, rfl, hY, hYX, hmY, hYn⟩
        · have hXn1 : ¬ X = (n + 1, 64) := by rintro rfl; simp at hXn; omega
          have hXn2 : ¬ (n + 1, 64) = X := fun h => hXn1 h.symm
          simp [h0, h4, hm4, h4X, hXn1, scan]   -- R13
          refine mid2 _ _ _ (.arr (n + 1, 64) 1 0 1) (by simp [h0]) (by simp [h6]) (by simp [h9]) (by simp [scan]) (.inr ⟨(n + 1, 64), by simp, by simp [hXn2, hxc], hXn2, by simp; omega, by simp⟩) (by omega) fun i h1 h2 => ?_
          rw [Heap.get_set_ne _ _ h2, Heap.get_set_ne _ _ (by rintro rfl; simp at h1; omega), Heap.get_set_ne _ _ h2, hfr i h1 h2]
        · have hY' : (H1.set X (scan s3 (.arr Y l.length 0 l.length) false)) Y = some ⟨3, l.map AmbNode.cells⟩ := by rw [Heap.get_set_ne _ _ hYX]; exact hY
          have hXY : ¬ X = Y := fun h => hYX h.symm
          simp [h0, h4, hm4, h4X, hY, hYX, hXY, scan, live, show l.length ≤ 1073741823 by omega]   -- R13
          refine mid2 _ _ _ (.arr Y (l.length + 1) 0 (l.length + 1)) (by simp [h0]) (by simp [h6]) (by simp [h9]) (by simp [scan]) (.inr ⟨Y, by simp, by simp [hYX, hxc], hYX, hmY, by omega⟩) (by omega) fun i h1 h2 => ?_
          rw [Heap.get_set_ne _ _ h2, Heap.get_set_ne _ _ (by rintro rfl; omega), Heap.get_set_ne _ _ h2, hfr i h1 h2]
    cases hop : (opn k).isPrefixOf s2
    · simp [h0, hmX', guardOf]
      exact fin _ s2 true (by simp [h0]) (by simp [h4]) (by simp [h6]) (by simp [h9]) (by omega) (by simp [hop]) (by simp)
    · by_cases h8 : l.length = 8
      · simp [h0, h9, h8, scan, guardOf]
        exact fin _ (s2.drop (opn k).length) true (by simp [h0]) (by simp [h4]) (by simp [h6]) (by simp [h9]) (by simp) (by simp [h8]) (by simp)
      · have h8' : ((l.length : Int) == 8) = false := by simp; omega
        simp [h0, h9, h8', scan, guardOf]
        exact fin _ (s2.drop (opn k).length) false (by simp [h0]) (by simp [h4]) (by simp [h6]) (by simp [h9]) (by simp) (by simp [hop, h8]) (by simp)
  rcases id hNV with ⟨rfl, hl0⟩ | ⟨Y, rfl, hY, hYX, hmY, hYn⟩
  · unfold scan at hmX
    simp [h0, hmX]   -- R10
    exact mid _ (by simp [h0]) (by simp [h4]) (by simp [h5]) (by simp [h6]) (by simp [hl0])
  · unfold scan at hmX
    simp [h0, hmX, hY, live]   -- R10
    exact mid _ (by simp [h0]) (by simp [h4]) (by simp [h5]) (by simp [h6]) (by simp)
end Go.Ab
