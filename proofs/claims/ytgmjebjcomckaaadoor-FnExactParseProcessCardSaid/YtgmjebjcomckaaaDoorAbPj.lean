/- Contract of impl.ParseProcess. -/
import Derived.Test.YtgmjebjcomckaaaDoorAbPi
namespace Go.Ab
open Go.Proofs
set_option linter.unusedSimpArgs false
theorem e21 : Ent Tryd.prog 21 := Ent.of Tryd.func21 (by kernel_rfl) rfl

theorem p_names (chk : Bool) (B : Nat) : ∀ g parent s l s2 l2, l.length ≤ 8 → s.length ≤ B → (∀ x ∈ l, x.name.length ≤ B) →
    (pNode chk g parent s l = some (s2, l2) → ∀ x ∈ l2, x.name.length ≤ B) ∧ (pIn chk g parent s l = some (s2, l2) → ∀ x ∈ l2, x.name.length ≤ B) ∧ (pLoop chk g parent s l = some (s2, l2) → ∀ x ∈ l2, x.name.length ≤ B)
  | 0, parent, s, l, s2, l2, _, _, _ => by simp [pNode, pIn, pLoop]
  | g + 1, parent, s, l, s2, l2, hl, hs, hn => by
    refine ⟨fun h => ?_, fun h => ?_, fun h => ?_⟩
    · rw [pNode] at h
      split at h
      · cases h
      · rename_i hc
        simp only [Bool.or_eq_true, not_or, Bool.and_eq_true, not_and, beq_iff_eq, Bool.not_eq_true', Bool.not_eq_true] at hc
        split at h
        · cases h
        · rename_i r l3 hr
          split at h
          · cases h
            have h8 := hc.2
            have h4 := kindOf_len s
            have h5 : ((kindOf s).2.dropWhile lower).length ≤ (kindOf s).2.length := (List.dropWhile_suffix _).length_le
            have h6 : ((kindOf s).2.takeWhile lower).length ≤ (kindOf s).2.length := (List.takeWhile_prefix _).length_le
            refine (p_names chk B g _ _ _ _ _ (by simp; omega) (by simp; omega) (fun x hx => ?_)).2.1 hr
            rcases List.mem_append.1 hx with hx | hx
            · exact hn x hx
            · simp at hx
              subst hx
              simp
              omega
          · cases h
    · rw [pIn] at h
      split at h
      · cases h
        exact hn
      · split at h
        · cases h
        · rename_i r l3 hr
          have ha := (p_adds chk g _ _ _ _ _ hl).1 hr
          exact (p_names chk B g _ _ _ _ _ ha.1.choose_spec.2.1 (by omega) ((p_names chk B g _ _ _ _ _ hl hs hn).1 hr)).2.2 h
    · rw [pLoop] at h
      split at h
      · split at h
        · cases h
        · rename_i r l3 hr
          have ha := (p_adds chk g _ _ _ _ _ hl).1 hr
          have hd : (s.drop 1).length ≤ s.length := by simp
          exact (p_names chk B g _ _ _ _ _ ha.1.choose_spec.2.1 (by omega) ((p_names chk B g _ _ _ _ _ hl (by omega) hn).1 hr)).2.2 h
      · cases h
        exact hn

theorem NV.own {X : Id} {m n : Nat} {H : Heap} {nv : AVal} {l : Proc} (h : NV X m n H nv l) : ∃ S, Own H 1 nv (.list true (l.map AmbNode.cells)) S ∧ (∀ i ∈ S, i ≠ X ∧ m ≤ i.1 ∧ i.1 < n) := by
  rcases h with ⟨rfl, rfl⟩ | ⟨Y, rfl, hY, h1, h2, h3⟩
  · exact ⟨[], Own.nilS, by simp⟩
  · exact ⟨[Y], Own.arrF hY (by simp) (by simp [AmbNode.cells]), by simpa using ⟨h1, h2, h3⟩⟩

theorem ParseProcess_ok (s : Str) (hs : s.length ≤ 1048576) : OwnC Tryd.prog 21 [str s] 3 (fun r => r = .tup [encP true (parse s).1, bool (parse s).2]) := by
  refine OwnC.of Tryd.func21 rfl Tryd.ntmps21 (by simp) fun Q hQ => ?_
  refine Runs.seqE Ty_ok (by decide) fun k' hk' => ?_
  simp   -- R0
  refine hk' _ _ _ ?_
  refine Runs.seqE Ty_ok (by decide) fun k' hk' => ?_
  simp   -- R1
  refine hk' _ _ _ ?_
  refine Runs.seqE Ty_ok (by decide) fun k' hk' => ?_
  simp   -- R2
  refine RunK.callS Ty_ok (insideI (X := (1, 7)) (m := 1) 40 _ 2 s [] (.v (.slice none 0 0)) (-1) hs (by simp) (by simp [scan]) (.inl ⟨rfl, rfl⟩) (by omega) (by simp) (by simp)) e57 (by decide) (by decide) rfl (by simp) ?_
  rintro v H1 n1 ⟨rfl, hn1, hfr, s', l, nv, bad, hX, hNV, hs', hl, hres⟩
  simp
  refine hk' _ _ _ ?_
  have hm2 := hfr (0, 2) (by simp) (by simp)
  simp at hm2
  obtain ⟨S, hO, hS⟩ := hNV.own
  have hO2 : Own H1 2 (.agg [nv]) (encP true l) S := Own.agg1 hO
  have hone := hO.one1
  unfold scan at hX
  refine Runs.cut (fun ρ H n => ρ 0 = str s ∧ ρ 2 = .ptr (0, 2) 1 0 0 ∧ ρ 4 = .ptr (1, 7) 1 0 0 ∧ H = H1) ⟨by simp, by simp, by simp, rfl⟩ ?_
  clear hk'
  rintro ρ H n ⟨h0, h2, h4, rfl⟩
  refine Runs.seq ?_
  refine Runs.seqE Ty_ok (by decide) fun k' hk' => ?_
  have fin : ∀ (ρ : Env) (ok : Bool), ρ 2 = .ptr (0, 2) 1 0 0 → ρ 4 = .ptr (1, 7) 1 0 0 → ρ 37 = bool (!ok) → parse s = (if ok then (l, true) else ([], false)) → Runs Tryd.prog 21 43 k' ρ H n Q := by
    intro ρ ok h2 h4 h37 hp
    refine hk' _ _ _ ?_
    refine Runs.ite h37 (fun hc1 => ?_) (fun hc1 => ?_)   -- t37
    · have hok : ok = false := by simpa using hc1
      subst hok
      refine Runs.seqE Ty_ok (by decide) fun k' hk' => ?_
      simp [h2, hm2]   -- R4
      refine hk' _ _ _ ?_
      exact Runs.ret Tryd.func21 (RetOk.mix2 (v1 := .agg [.v (.slice none 0 0)]) (v2 := bool false) Ty_ok Tryd.results21 (by simp [resA, h2, loadA]) (by simp [resA])) (hQ _ _ _ (.tup [encP true [], bool false]) _ (Own.tup2 (Own.agg1 (Own.nilS (d := 0))) _) (by rw [hp]; rfl))
    · have hok : ok = true := by simpa using hc1
      subst hok
      refine Runs.skip ?_
      refine Runs.seqE Ty_ok (by decide) fun k' hk' => ?_
      simp [h2, h4, hm2, hX, hone, -Ab.one1]   -- R5
      refine hk' _ _ _ ?_
      refine Runs.ret Tryd.func21 (RetOk.mix2 (v1 := .agg [nv]) (v2 := bool true) Ty_ok Tryd.results21 (by simp [resA, h2, loadA]) (by simp [resA])) (hQ _ _ _ (.tup [encP true l, bool true]) S (Own.tup2 (hO2.frame fun i hi => ?_) _) (by rw [hp]; rfl))
      exact Heap.get_set_ne _ _ (by rintro rfl; have := (hS _ hi).2.1; simp at this)
  have hpd : parse s = match pIn false 40 (-1) s [] with | none => ([], false) | some (r, l) => if r = [] ∧ goodP l = true ∧ textIn l (l.length + 1) (-1) = s then (l, true) else ([], false) := rfl
  cases hpi : pIn false 40 (-1) s [] with
  | none =>
    rw [hpi] at hres hpd
    subst hres
    simp [h4, hX, guardOf]
    exact fin _ false (by simp [h2]) (by simp [h4]) (by simp) hpd
  | some y =>
    obtain ⟨r, l2⟩ := y
    rw [hpi] at hres hpd
    obtain ⟨rfl, rfl, rfl⟩ := hres
    simp only at hpd
    have hnames := (p_names false 1048576 40 (-1) s [] _ _ (by simp) hs (by simp)).2.1 hpi
    by_cases hs0 : s' = []
    · subst hs0
      simp [h0, h4, hX, guardOf]   -- R3
      refine RunK.callA Ty_ok (IsProcess_ok l (by omega) (fun i hi => ?_)) e49 (.cons (ArgOk.own' hO2 (old_encP _ _)) .nil) (by decide) (by decide) rfl (by simp) ?_
      · have hg : l.getD i default = l[i] := by simp [hi]
        rw [hg]
        exact hnames _ (List.getElem_mem hi)
      rintro _ rfl
      cases hg : goodP l
      · simp [guardOf]
        exact fin _ false (by simp [h2]) (by simp [h4]) (by simp) (by rw [hpd, if_neg (by simp [hg])]; rfl)
      · have hv := goodP_valid hg
        simp [h0, h4, hX, guardOf]
        refine RunK.callA Ty_ok (textIn_ok hv (l.length + 1) (-1) (by omega) (by omega) (by omega) (by omega)) e50 (.cons (ArgOk.own' hO2 (old_encP _ _)) (.cons (.v _ _ _) .nil)) (by decide) (by decide) rfl (by simp) ?_
        rintro _ rfl
        simp [h0, guardOf]
        by_cases ht : textIn l (l.length + 1) (-1) = s
        · exact fin _ true (by simp [h2]) (by simp [h4]) (by simp [ht]) (by rw [hpd, if_pos ⟨rfl, hg, ht⟩]; rfl)
        · exact fin _ false (by simp [h2]) (by simp [h4]) (by simp [ht]) (by rw [hpd, if_neg (by simp [ht])]; rfl)
    · have hs0' : (s' == []) = false := by simpa using hs0
      simp [h4, hX, hs0', hs0, guardOf]   -- R3
      exact fin _ false (by simp [h2]) (by simp [h4]) (by simp) (by rw [hpd, if_neg (by simp [hs0])]; rfl)
end Go.Ab
