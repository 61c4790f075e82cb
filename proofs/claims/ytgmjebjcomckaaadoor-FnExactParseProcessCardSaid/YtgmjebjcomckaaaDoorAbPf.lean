/- Contracts of spec.l12Read, spec.l12Node and spec.ParseProcess. -/
import Derived.Test.YtgmjebjcomckaaaDoorAbPe
namespace Go.Ab
open Go.Proofs
set_option linter.unusedSimpArgs false
theorem e20 : Ent Tryd.prog 20 := Ent.of Tryd.func20 (by kernel_rfl) rfl

theorem Res.get {s : Str} {o : Option (Str × Proc)} {r : AVal} (h : Res s o r) : ∃ l a ok, r = encR l a ok ∧ a ≤ s.length ∧ l.length ≤ 8 ∧ o = if ok then some (s.drop a, l) else none := by
  cases o with
  | none => obtain ⟨l, a, h1, h2, h3⟩ := h; exact ⟨l, a, false, h3, h1, h2, rfl⟩
  | some x => obtain ⟨a, h1, h2, h3, h4⟩ := h; exact ⟨x.2, a, true, h4, h1, h3, by simp [← h2]⟩
theorem Res.of {s : Str} {o : Option (Str × Proc)} {l : Proc} {a : Nat} {ok : Bool} (ha : a ≤ s.length) (hl : l.length ≤ 8) (h : o = if ok then some (s.drop a, l) else none) : Res s o (encR l a ok) := by
  subst h
  cases ok
  · exact ⟨l, a, ha, hl, rfl⟩
  · exact ⟨a, ha, rfl, hl, rfl⟩

theorem l12Read_ok (s : Str) (hs : s.length ≤ 1048576) : ∀ (G : Nat) (l : Proc) (a : Nat) (ok : Bool) (parent : Int), l.length ≤ 8 → a ≤ s.length → (ok = true → 3 * (8 - l.length) + 2 ≤ G) →
    ShareC Tryd.prog 56 [str s, encR l a ok, int parent] (Res s (if ok then pIn true G parent (s.drop a) l else none)) := by
  intro G
  induction G using Nat.strongRecOn with
  | _ G IHG =>
  intro l a ok parent hl ha hG
  have node : ∀ (g : Nat) (l : Proc) (a : Nat) (ok : Bool), g + 1 ≤ G ∨ ok = false → l.length ≤ 8 → a ≤ s.length → (ok = true → 3 * (8 - l.length) ≤ g) →
      ShareC Tryd.prog 119 [str s, encR l a ok, int parent] (Res s (if ok then pNode true (g + 1) parent (s.drop a) l else none)) := fun g l a ok hgG hl ha hg =>
    nodeK g s hs l hl a ha ok parent (fun hok l a ok' parent h1 h2 h3 h4 => by
      rcases hgG with h | h
      · exact IHG g (by omega) l a ok' parent h1 h3 h4
      · rw [hok] at h; cases h) hg
  refine ShareC.of Tryd.func56 rfl Tryd.ntmps56 (by simp) fun H n Q hB hQ => ?_
  refine Runs.seqE Ty_ok (by decide) fun k' hk' => ?_
  simp [encR]   -- R0
  refine hk' _ _ _ ?_
  refine Runs.seq ?_
  refine Runs.seqE Ty_ok (by decide) fun k' hk' => ?_
  simp   -- R1
  refine RunK.callH Ty_ok (l12Starts_ok s l a ok [48] hs ha (by simp)) e117 (.refl _) (by decide) (by decide) rfl (by simp [encR]) ?_
  rintro _ rfl
  simp
  refine hk' _ _ _ ?_
  refine Runs.ite rfl (fun hc1 => ?_) (fun hc1 => ?_)   -- t9
  · have hc1 : takes s a ok [48] = true := by simpa using hc1
    refine Runs.seqE Ty_ok (by decide) fun k' hk' => ?_
    simp   -- R2
    refine RunK.callH Ty_ok (l12Takes_ok s l a ok [48] hs ha (by simp)) e118 (.refl _) (by decide) (by decide) rfl (by simp [encR]) ?_
    rintro _ rfl
    simp [hc1, encR]
    refine hk' _ _ _ ?_
    simp only [takes, Bool.and_eq_true] at hc1
    obtain ⟨rfl, hp⟩ := hc1
    have hG' := hG rfl
    refine Runs.ret Tryd.func56 (RetOk.cell (cs := [.list true (l.map AmbNode.cells), int ((a + 1 : Nat) : Int), bool true]) (v := encR l (a + 1) true) Ty_ok Tryd.results56 Ty_94 (by simp) (by simp [loadA, encR])) (hQ _ _ _ _ (.bnd (bnd_encR n l (a + 1) true)) (by repeat (first | exact Frame.refl _ _ | refine Frame.set (by simp) ?_)) ?_)
    refine Res.of (prefix_le ha hp) hl ?_
    obtain ⟨g, rfl⟩ : ∃ g, G = g + 1 := ⟨G - 1, by omega⟩
    rw [if_pos rfl, pIn, if_pos hp]
    simp
  · have hc1 : takes s a ok [48] = false := by simpa using hc1
    refine Runs.skip ?_
    refine Runs.seqE Ty_ok (by decide) fun k' hk' => ?_
    simp   -- R3
    refine RunK.callH Ty_ok (node (G - 2) l a ok (by cases ok <;> simp_all; omega) hl ha (fun h => by have := hG h; omega)) e119 (.refl _) (by decide) (by decide) rfl (by simp [encR]) ?_
    intro r hr
    obtain ⟨l1, a1, ok1, rfl, ha1, hl1, he1⟩ := hr.get
    simp [encR]
    refine hk' _ _ _ ?_
    refine Runs.seq ?_
    refine Runs.block (Runs.loopM (fun m ρ H' n' => ρ 0 = str s ∧ ρ 2 = int parent ∧ ρ 4 = .ptr (n, 4) 1 0 0 ∧ ρ 6 = .ptr (n + 1, 6) 1 0 0 ∧ H' (n + 1, 6) = some ⟨3, [[.v (.slice none 0 0), int 0, bool false]]⟩ ∧ Frame n H H' ∧ m ≤ G ∧
      ∃ (l1 : Proc) (a1 : Nat) (ok1 : Bool), H' (n, 4) = some ⟨3, [[.list true (l1.map AmbNode.cells), int a1, bool ok1]]⟩ ∧ a1 ≤ s.length ∧ l1.length ≤ 8 ∧ (ok1 = true → 3 * (8 - l1.length) + 3 ≤ m) ∧
        (if ok then pIn true G parent (s.drop a) l else none) = (if ok1 then pLoop true m parent (s.drop a1) l1 else none)) (G - 1) ?_ ?_)
    · refine ⟨by simp, by simp, by simp, by simp, by simp, by repeat (first | exact Frame.refl _ _ | refine Frame.set (by simp) ?_), by omega, l1, a1, ok1, by simp, ha1, hl1, fun h => ?_, ?_⟩
      · subst h
        cases ok
        · simp at he1
        · have hG' := hG rfl
          have := ((p_adds true _ _ _ _ _ _ hl).1 he1).2.1
          omega
      · cases ok
        · simp at he1
          subst he1
          rfl
        · have hG' := hG rfl
          obtain ⟨g, rfl⟩ : ∃ g, G = g + 2 := ⟨G - 2, by omega⟩
          have hp : List.isPrefixOf [48] (s.drop a) = false := by simpa [takes] using hc1
          rw [if_pos rfl, pIn, if_neg (by simp [hp])]
          rw [if_pos rfl, show g + 2 - 2 + 1 = g + 1 by omega] at he1
          rw [he1]
          cases ok1 <;> rfl
    · rintro m ρ H' n' ⟨h0, h2, h4, h6, hm6, hfr, hmG, l1, a1, ok1, hm4, ha1, hl1, hm, htot⟩ IH
      refine Runs.seq ?_
      refine Runs.seqE Ty_ok (by decide) fun k' hk' => ?_
      have fin : ∀ ρ : Env, (ρ 0 = str s ∧ ρ 2 = int parent ∧ ρ 4 = .ptr (n, 4) 1 0 0 ∧ ρ 6 = .ptr (n + 1, 6) 1 0 0 ∧ ρ 23 = bool (takes s a1 ok1 [124])) → Runs Tryd.prog 56 31 k' ρ H' n' Q := by
        rintro ρ ⟨h0, h2, h4, h6, h23⟩
        refine hk' _ _ _ ?_
        refine Runs.ite h23 (fun hc2 => ?_) (fun hc2 => ?_)   -- t23
        · refine Runs.skip ?_
          refine Runs.block ?_
          refine Runs.evalE Ty_ok (by decide) fun k' hk' => ?_
          simp [h0, h4, hm4]   -- R5
          refine RunK.callH Ty_ok (l12Takes_ok s l1 a1 ok1 [124] hs ha1 (by simp)) e118 (.refl _) (by decide) (by decide) rfl (by simp [encR, h0]) ?_
          rintro _ rfl
          simp [hc2, h0, h2, encR]
          simp only [takes, Bool.and_eq_true] at hc2
          obtain ⟨rfl, hp⟩ := hc2
          have hm' := hm rfl
          refine RunK.callH Ty_ok (node (m - 2) l1 (a1 + 1) true (.inl (by omega)) hl1 (prefix_le ha1 hp) (fun _ => by omega)) e119 (.refl _) (by decide) (by decide) rfl (by simp [encR, h0, h2]) ?_
          intro r hr
          obtain ⟨l2, a2, ok2, rfl, ha2, hl2, he2⟩ := hr.get
          simp [encR, h4, hm4]
          refine hk' _ _ _ ?_
          refine Runs.inBlock ?_
          refine IH (m - 1) _ _ _ (by omega) ⟨by simp [h0], by simp [h2], by simp [h4], by simp [h6], by simp [hm6], Frame.set (by simp) hfr, by omega, l2, a2, ok2, by simp, ha2, hl2, fun h => ?_, ?_⟩
          · subst h
            have := ((p_adds true _ _ _ _ _ _ hl1).1 he2).2.1
            omega
          · obtain ⟨g, rfl⟩ : ∃ g, m = g + 2 := ⟨m - 2, by omega⟩
            rw [htot, if_pos rfl, pLoop, if_pos hp]
            rw [if_pos rfl, show g + 2 - 2 + 1 = g + 1 by omega] at he2
            rw [show (s.drop a1).drop 1 = s.drop (a1 + 1) by simp, he2]
            cases ok2 <;> rfl
        · refine Runs.exit rfl ?_
          refine Runs.seqE Ty_ok (by decide) fun k' hk' => ?_
          simp [h4, h6, hm4, hm6]   -- R6
          refine hk' _ _ _ ?_
          refine Runs.ret Tryd.func56 (RetOk.cell (cs := [.list true (l1.map AmbNode.cells), int a1, bool ok1]) (v := encR l1 a1 ok1) Ty_ok Tryd.results56 Ty_94 (by simp [h6]) (by simp [loadA, encR])) (hQ _ _ _ _ (.bnd (bnd_encR n l1 a1 ok1)) (Frame.set (by simp) hfr) ?_)
          refine Res.of ha1 hl1 ?_
          rw [htot]
          cases ok1
          · rfl
          · have hm' := hm rfl
            obtain ⟨g, rfl⟩ : ∃ g, m = g + 1 := ⟨m - 1, by omega⟩
            simp only [takes, Bool.true_and] at hc2
            rw [if_pos rfl, if_pos rfl, pLoop, if_neg (by simp [hc2])]
      cases ok1
      · simp [h4, hm4, guardOf]
        exact fin _ ⟨by simp [h0], by simp [h2], by simp [h4], by simp [h6], by simp [takes]⟩
      · simp [h0, h4, hm4, guardOf]
        refine RunK.callH Ty_ok (l12Starts_ok s l1 a1 true [124] hs ha1 (by simp)) e117 (.refl _) (by decide) (by decide) rfl (by simp [encR, h0]) ?_
        rintro _ rfl
        simp
        exact fin _ ⟨by simp [h0], by simp [h2], by simp [h4], by simp [h6], by simp⟩

theorem specParseProcess_ok (s : Str) (hs : s.length ≤ 1048576) : PureC Tryd.prog 20 [str s] (fun r => r = .tup [encP true (parse s).1, bool (parse s).2]) := by
  refine PureC.of Tryd.func20 rfl Tryd.ntmps20 (by simp) fun Q hQ => ?_
  refine Runs.seqE Ty_ok (by decide) fun k' hk' => ?_
  simp   -- R0
  refine hk' _ _ _ ?_
  refine Runs.seqE Ty_ok (by decide) fun k' hk' => ?_
  simp   -- R1
  refine RunK.callH Ty_ok (l12Read_ok s hs 40 [] 0 true (-1) (by simp) (by omega) (by simp)) e56 (.cons (.refl _) (.cons (Sub.agg (.cons (Sub.nil true) (.refl _))) (.refl _))) (by decide) (by decide) rfl (by simp) ?_
  intro r hr
  obtain ⟨l, a, ok, rfl, ha, hl, he⟩ := hr.get
  rw [if_pos rfl, List.drop_zero] at he
  have hpc := parse_chk s
  rw [he] at hpc
  simp [encR]
  refine hk' _ _ _ ?_
  refine Runs.seq ?_
  refine Runs.seqE Ty_ok (by decide) fun k' hk' => ?_
  have fin : ∀ ρ : Env, ρ 2 = .ptr (0, 2) 1 0 0 → ρ 4 = .ptr (1, 4) 1 0 0 → ρ 24 = bool (!(parse s).2) → ((parse s).2 = true → (parse s).1 = l) → ((parse s).2 = false → (parse s).1 = []) → ∀ H : Heap, H (0, 2) = some ⟨1, [[.v (.slice none 0 0)]]⟩ → H (1, 4) = some ⟨3, [[.list true (l.map AmbNode.cells), int a, bool ok]]⟩ → ∀ n, Runs Tryd.prog 20 28 k' ρ H n Q := by
    intro ρ h2 h4 h24 hp1 hp2 H hm2 hm4 n
    refine hk' _ _ _ ?_
    refine Runs.ite h24 (fun hc1 => ?_) (fun hc1 => ?_)   -- t24
    · have hc1 : (parse s).2 = false := by simpa using hc1
      refine Runs.seqE Ty_ok (by decide) fun k' hk' => ?_
      simp [h2, hm2]   -- R3
      refine hk' _ _ _ ?_
      refine Runs.ret Tryd.func20 (RetOk.mix2 (v1 := .agg [.v (.slice none 0 0)]) (v2 := bool false) Ty_ok Tryd.results20 (by simp [resA, h2, loadA]) (by simp [resA])) (hQ _ _ _ (.tup [encP true [], bool false]) (.of (Own.tup2 (Own.agg1 (Own.nilS (d := 0))) _).ret) (by rw [hp2 hc1, hc1]))
    · have hc1 : (parse s).2 = true := by simpa using hc1
      refine Runs.skip ?_
      refine Runs.seqE Ty_ok (by decide) fun k' hk' => ?_
      simp [h2, h4, hm2, hm4]   -- R4
      refine hk' _ _ _ ?_
      refine Runs.ret Tryd.func20 (RetOk.mix2 (v1 := encP true l) (v2 := bool true) Ty_ok Tryd.results20 (by simp [resA, h2, loadA, encP]) (by simp [resA])) (hQ _ _ _ _ (.of (Ret.fresh (by simp [encP, AmbNode.cells]))) (by rw [hp1 hc1, hc1]))
  cases ok
  · simp [guardOf]
    simp at hpc
    exact fin _ (by simp) (by simp) (by simp [hpc]) (by simp [hpc]) (by simp [hpc]) _ (by simp) (by simp) _
  · simp only [if_true] at hpc
    by_cases hal : a = s.length
    · subst hal
      have hg := good_of_adds ((p_adds true 40 (-1) s [] _ _ (by simp)).2.1 he).1
      have hv := goodP_valid hg
      simp [guardOf]
      refine RunK.callA Ty_ok (l12In_ok hv (l.length + 1) (-1) (by omega) (by omega) (by omega) (by omega)) e47 (.cons (ArgOk.encP true l) (.cons (.v _ _ _) .nil)) (by decide) (by decide) rfl (by simp [encP]) ?_
      rintro _ rfl
      simp [guardOf]
      by_cases ht : s = textIn l (l.length + 1) (-1)
      · have ht' : textIn l (l.length + 1) (-1) = s := ht.symm
        simp [ht'] at hpc
        exact fin _ (by simp) (by simp) (by simp [hpc, ← ht]) (by simp [hpc]) (by simp [hpc]) _ (by simp) (by simp) _
      · have ht' : ¬ textIn l (l.length + 1) (-1) = s := fun h => ht h.symm
        simp [ht'] at hpc
        exact fin _ (by simp) (by simp) (by simp [hpc]; exact fun h => ht h.symm) (by simp [hpc]) (by simp [hpc]) _ (by simp) (by simp) _
    · have hd : ¬ s.drop a = [] := by simp; omega
      simp only [hd, false_and, if_false] at hpc
      have hal' : ((a : Int) != (s.length : Int)) = true := by simp; omega
      simp [guardOf, hal']
      exact fin _ (by simp) (by simp) (by simp [hpc]) (by simp [hpc]) (by simp [hpc]) _ (by simp) (by simp) _
end Go.Ab
