/- Contract of spec.l12Name. -/
import Derived.Test.YtgmjebjcomckaaaDoorAbPc
namespace Go.Ab
open Go.Proofs
set_option linter.unusedSimpArgs false
theorem e151 : Ent Tryd.prog 151 := Ent.of Tryd.func151 (by kernel_rfl) rfl

theorem tw_lt {q : UInt8 → Bool} : ∀ {l : Str} {k : Nat}, k < (l.takeWhile q).length → ∃ h : k < l.length, q l[k] = true
  | [], k, h => by simp at h
  | a :: l, k, h => by
    rw [List.takeWhile_cons] at h
    cases ha : q a
    · simp [ha] at h
    · simp only [ha, if_true, List.length_cons] at h
      match k with
      | 0 => exact ⟨by simp, by simpa using ha⟩
      | k + 1 =>
        obtain ⟨h1, h2⟩ := tw_lt (q := q) (l := l) (k := k) (by omega)
        exact ⟨by simpa using h1, by simpa using h2⟩
theorem tw_end {q : UInt8 → Bool} : ∀ {l : Str} (h : (l.takeWhile q).length < l.length), q l[(l.takeWhile q).length] = false
  | [], h => by simp at h
  | a :: l, h => by
    cases ha : q a
    · simp [List.takeWhile_cons, ha]
    · have he : ((a :: l).takeWhile q).length = (l.takeWhile q).length + 1 := by simp [List.takeWhile_cons, ha]
      have := tw_end (l := l) (by rw [he] at h; simpa using h)
      simpa [he] using this
theorem tw_take {q : UInt8 → Bool} : ∀ (l : Str), l.take (l.takeWhile q).length = l.takeWhile q
  | [] => by simp
  | a :: l => by
    cases ha : q a
    · simp [List.takeWhile_cons, ha]
    · simp [List.takeWhile_cons, ha, tw_take l]
theorem tw_drop {q : UInt8 → Bool} : ∀ (l : Str), l.drop (l.takeWhile q).length = l.dropWhile q
  | [] => by simp
  | a :: l => by
    cases ha : q a
    · simp [List.takeWhile_cons, List.dropWhile_cons, ha]
    · simp [List.takeWhile_cons, List.dropWhile_cons, ha, tw_drop l]

def nameAt (s : Str) (a : Nat) : Str := (s.drop a).takeWhile lower

theorem nameAt_len (s : Str) (a : Nat) (ha : a ≤ s.length) : a + (nameAt s a).length ≤ s.length := by
  have := (List.takeWhile_prefix lower (l := s.drop a)).length_le
  simp at this
  simp only [nameAt]
  omega

theorem l12Name_ok (s : Str) (l : Proc) (a : Nat) (ok : Bool) (hs : s.length ≤ 1048576) (ha : a ≤ s.length) :
    ShareC Tryd.prog 151 [str s, encR l a ok] (fun r => r = .tup [str (nameAt s a), encR l (a + (nameAt s a).length) (ok && isNm (nameAt s a))]) := by
  have hnl := nameAt_len s a ha
  refine ShareC.of Tryd.func151 rfl Tryd.ntmps151 (by simp) fun H n Q _ hQ => ?_
  refine Runs.seqE Ty_ok (by decide) fun k' hk' => ?_
  simp [encR]   -- R0
  refine hk' _ _ _ ?_
  refine Runs.seqE Ty_ok (by decide) fun k' hk' => ?_
  simp   -- R1
  refine hk' _ _ _ ?_
  refine Runs.seq ?_
  refine Runs.block (Runs.loopUp (nameAt s a).length (fun k ρ H' n' => ρ 0 = str s ∧ ρ 3 = .ptr (n, 3) 1 0 0 ∧ ρ 5 = .ptr (n + 1, 5) 1 0 0 ∧ ρ 6 = int a ∧
    H' (n, 3) = some ⟨3, [[.list true (l.map AmbNode.cells), int ((a : Int) + k), bool ok]]⟩ ∧ H' (n + 1, 5) = some ⟨3, [[.v (.slice none 0 0), int 0, bool false]]⟩ ∧ Frame n H H') ?_ ?_)
  · refine ⟨by simp, by simp, by simp, by simp, by simp, by simp, by repeat (first | exact Frame.refl _ _ | refine Frame.set (by simp) ?_)⟩
  · rintro k ρ H' n' hk ⟨h0, h3, h5, h6, hm3, hm5, hfr⟩ IH
    refine Runs.seq ?_
    refine Runs.seqE Ty_ok (by decide) fun k' hk' => ?_
    have fin : ∀ ρ : Env, (ρ 0 = str s ∧ ρ 3 = .ptr (n, 3) 1 0 0 ∧ ρ 5 = .ptr (n + 1, 5) 1 0 0 ∧ ρ 6 = int a ∧ ρ 27 = bool (decide (k < (nameAt s a).length))) → Runs Tryd.prog 151 49 k' ρ H' n' Q := by
      rintro ρ ⟨h0, h3, h5, h6, h27⟩
      refine hk' _ _ _ ?_
      refine Runs.ite h27 (fun hc1 => ?_) (fun hc1 => ?_)   -- t27
      · simp only [decide_eq_true_eq] at hc1
        refine Runs.skip ?_
        refine Runs.block ?_
        refine Runs.evalE Ty_ok (by decide) fun k' hk' => ?_
        have hw : IntKind.i64.wrap ((a : Int) + k + 1) = (a : Int) + (k + 1 : Nat) := by rw [wrap64] <;> omega
        simp [h3, hm3, hw, -Int.natCast_add]   -- R3
        refine hk' _ _ _ ?_
        refine Runs.inBlock ?_
        refine IH hc1 _ _ _ ⟨by simp [h0], by simp [h3], by simp [h5], by simp [h6], by simp, by simp [hm5], Frame.set (by simp) hfr⟩
      · simp only [decide_eq_false_iff_not] at hc1
        have hke : k = (nameAt s a).length := by omega
        subst hke
        refine Runs.exit rfl ?_
        have hsl : (s.drop a).take (nameAt s a).length = nameAt s a := tw_take _
        have g1 : (a : Int) ≤ (a : Int) + (nameAt s a).length := by omega
        have g2 : (a : Int) + (nameAt s a).length ≤ s.length := by omega
        have g3 : ((a : Int) + (nameAt s a).length).toNat = a + (nameAt s a).length := by omega
        refine Runs.seqE Ty_ok (by decide) fun k' hk' => ?_
        have fin2 : ∀ (ρ : Env) (H' : Heap), (ρ 0 = str s ∧ ρ 3 = .ptr (n, 3) 1 0 0 ∧ ρ 5 = .ptr (n + 1, 5) 1 0 0 ∧ ρ 6 = int a ∧
            H' (n, 3) = some ⟨3, [[.list true (l.map AmbNode.cells), int ((a : Int) + (nameAt s a).length), bool (ok && isNm (nameAt s a))]]⟩ ∧ H' (n + 1, 5) = some ⟨3, [[.v (.slice none 0 0), int 0, bool false]]⟩ ∧ Frame n H H') →
            Runs Tryd.prog 151 49 k' ρ H' n' Q := by
          rintro ρ H' ⟨h0, h3, h5, h6, hm3, hm5, hfr⟩
          refine hk' _ _ _ ?_
          refine Runs.seqD Ty_ok kindOp_ok draws (by decide) (by kernel_rfl) fun k' hk' => ?_
          simp [h0, h3, h5, h6, hm3, hm5, g1, g2, g3, hsl]   -- R5
          refine hk' _ _ _ ?_
          refine Runs.ret Tryd.func151 (RetOk.mix2 (v1 := str (nameAt s a)) (v2 := encR l (a + (nameAt s a).length) (ok && isNm (nameAt s a))) Ty_ok Tryd.results151 (by simp [resA]) (by simp [resA, h5, loadA, encR])) (hQ _ _ _ _ (.bnd (.tup2 (.v _) (bnd_encR _ _ _ _))) (Frame.set (by simp) hfr) rfl)
        cases ok
        · simp [h3, hm3, guardOf]   -- R4
          exact fin2 _ _ ⟨by simp [h0], by simp [h3], by simp [h5], by simp [h6], by simp, by simp [hm5], Frame.set (by simp) hfr⟩
        · simp [h0, h3, h6, hm3, guardOf, g1, g2, g3, hsl]   -- R4
          refine RunK.callA Ty_ok (l2Name_ok (nameAt s a) (by omega)) e105 (.cons (.v _ _ _) .nil) (by decide) (by decide) rfl (by simp) ?_
          rintro _ rfl
          simp [h3, hm3]
          exact fin2 _ _ ⟨by simp [h0], by simp [h3], by simp [h5], by simp [h6], by simp, by simp [hm5], Frame.set (by simp) hfr⟩
    by_cases hb : (a : Int) + k < s.length
    · have hb' : a + k < s.length := by omega
      have ht : ((a : Int) + k).toNat = a + k := by omega
      have hp : (0 : Int) ≤ (a : Int) + k := by omega
      have hlow : (decide (k < (nameAt s a).length)) = lower s[a + k] := by
        rcases Nat.lt_or_ge k (nameAt s a).length with h | h
        · obtain ⟨h1, h2⟩ := tw_lt (q := lower) (l := s.drop a) h
          simp only [List.getElem_drop] at h2
          simp [h, h2]
        · have hke : k = (nameAt s a).length := by omega
          have h2 := tw_end (q := lower) (l := s.drop a) (by simp only [nameAt] at hke; rw [← hke]; simp; omega)
          simp only [List.getElem_drop] at h2
          simp only [nameAt] at hke
          have h3 : lower s[a + k] = false := by
            rw [← h2]
            congr 2
            omega
          rw [h3]
          simpa using h
      by_cases h97 : (97 : Int) ≤ (s[a + k].toNat : Int)
      · by_cases h122 : (s[a + k].toNat : Int) ≤ (122 : Int)
        · simp [h0, h3, hm3, hb, hb', ht, hp, h97, h122, guardOf]
          refine fin _ ⟨by simp [h0], by simp [h3], by simp [h5], by simp [h6], ?_⟩
          rw [hlow]
          simp [lower]
          omega
        · simp [h0, h3, hm3, hb, hb', ht, hp, h97, h122, guardOf]
          refine fin _ ⟨by simp [h0], by simp [h3], by simp [h5], by simp [h6], ?_⟩
          rw [hlow]
          simp [lower]
          omega
      · simp [h0, h3, hm3, hb, hb', ht, hp, h97, guardOf]
        refine fin _ ⟨by simp [h0], by simp [h3], by simp [h5], by simp [h6], ?_⟩
        rw [hlow]
        simp [lower]
        omega
    · simp [h0, h3, hm3, hb, guardOf]
      refine fin _ ⟨by simp [h0], by simp [h3], by simp [h5], by simp [h6], ?_⟩
      simp
      omega
end Go.Ab
