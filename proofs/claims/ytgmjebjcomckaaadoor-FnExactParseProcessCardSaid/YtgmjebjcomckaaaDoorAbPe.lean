/- Contracts of spec.l12Node and spec.l12Read. -/
import Derived.Test.YtgmjebjcomckaaaDoorAbPd
import Derived.Test.YtgmjebjcomckaaaDoorAbTe
namespace Go.Ab
open Go.Proofs
set_option linter.unusedSimpArgs false
theorem e119 : Ent Tryd.prog 119 := Ent.of Tryd.func119 (by kernel_rfl) rfl
theorem e56 : Ent Tryd.prog 56 := Ent.of Tryd.func56 (by kernel_rfl) rfl

def Res (s : Str) (o : Option (Str × Proc)) (r : AVal) : Prop :=
  match o with
  | some (t, l2) => ∃ a, a ≤ s.length ∧ t = s.drop a ∧ l2.length ≤ 8 ∧ r = encR l2 a true
  | none => ∃ l a, a ≤ s.length ∧ l.length ≤ 8 ∧ r = encR l a false

theorem prefix_le {w s : Str} {a : Nat} (ha : a ≤ s.length) (h : w.isPrefixOf (s.drop a) = true) : a + w.length ≤ s.length := by
  have := (List.isPrefixOf_iff_prefix.1 h).length_le
  simp at this
  omega

theorem kindA_spec (s : Str) (a : Nat) (ha : a ≤ s.length) : (kindA s a true).1 = (kindOf (s.drop a)).1 ∧ s.drop (kindA s a true).2 = (kindOf (s.drop a)).2 ∧ (kindA s a true).2 ≤ s.length := by
  unfold kindA kindOf takes
  simp only [Bool.true_and]
  split
  · rename_i h; exact ⟨rfl, by simp, prefix_le ha h⟩
  · split
    · rename_i h; exact ⟨rfl, by simp, prefix_le ha h⟩
    · split
      · rename_i h; exact ⟨rfl, by simp, prefix_le ha h⟩
      · exact ⟨rfl, rfl, ha⟩

theorem nodes_flat (l : Proc) : ∀ e ∈ l.map AmbNode.cells, ∀ a ∈ e, flat a = true := by simp [AmbNode.cells]

theorem opn_len (k : Nat) : (opn k).length ≤ 100 := by unfold opn; split <;> simp
theorem cls_len (k : Nat) : (cls k).length = 1 := by unfold cls; split <;> simp

/-- The end of l12Node: what is in the node, and the bracket behind it. -/
def nodeEnd (g : Nat) (s : Str) (k a : Nat) (l : Proc) : Option (Str × Proc) :=
  if !(opn k).isPrefixOf (s.drop a) then none else
  match pIn true g (l.length - 1 : Nat) ((s.drop a).drop (opn k).length) l with
  | none => none
  | some (r, l2) => if (cls k).isPrefixOf r then some (r.drop 1, l2) else none

theorem nodeK (g : Nat) (s : Str) (hs : s.length ≤ 1048576) (l : Proc) (hl : l.length ≤ 8) (a : Nat) (ha : a ≤ s.length) (ok : Bool) (parent : Int)
    (hread : ok = true → ∀ (l : Proc) (a : Nat) (ok' : Bool) (parent : Nat), l.length ≤ 8 → parent + 1 = l.length → a ≤ s.length → (ok' = true → 3 * (8 - l.length) + 2 ≤ g) → ShareC Tryd.prog 56 [str s, encR l a ok', int parent] (Res s (if ok' then pIn true g parent (s.drop a) l else none)))
    (hg : ok = true → 3 * (8 - l.length) ≤ g) :
    ShareC Tryd.prog 119 [str s, encR l a ok, int parent] (Res s (if ok then pNode true (g + 1) parent (s.drop a) l else none)) := by
  refine ShareC.of Tryd.func119 rfl Tryd.ntmps119 (by simp) fun H n Q hB hQ => ?_
  refine Runs.seqE Ty_ok (by decide) fun k' hk' => ?_
  simp [encR]   -- R0
  refine hk' _ _ _ ?_
  refine Runs.seqE Ty_ok (by decide) fun k' hk' => ?_
  simp   -- R1
  refine RunK.callH Ty_ok (l12Kind_ok s l a ok hs ha) e150 (.refl _) (by decide) (by decide) rfl (by simp [encR]) ?_
  rintro _ rfl
  have hkA : (kindA s a ok).2 ≤ s.length := by
    cases ok
    · simpa [kindA, takes] using ha
    · exact (kindA_spec s a ha).2.2
  obtain ⟨k, a1, hka⟩ : ∃ k a1, kindA s a ok = (k, a1) := ⟨_, _, rfl⟩
  rw [hka] at hkA
  rw [hka]
  simp only at hkA
  simp [encR]
  refine hk' _ _ _ ?_
  refine Runs.seqE Ty_ok (by decide) fun k' hk' => ?_
  simp   -- R2
  refine RunK.callH Ty_ok (l12Name_ok s l a1 ok hs hkA) e151 (.refl _) (by decide) (by decide) rfl (by simp [encR]) ?_
  rintro _ rfl
  have hnl := nameAt_len s a1 hkA
  obtain ⟨nm, hnm⟩ : ∃ nm, nameAt s a1 = nm := ⟨_, rfl⟩
  rw [hnm] at hnl
  rw [hnm]
  simp [encR]
  refine hk' _ _ _ ?_
  obtain ⟨a2, ha2⟩ : ∃ a2, a1 + nm.length = a2 := ⟨_, rfl⟩
  rw [ha2] at hnl
  simp only [← Int.natCast_add, ha2]
  refine Runs.cut (fun ρ H' n' => ρ 0 = str s ∧ ρ 2 = int parent ∧ ρ 4 = .ptr (n, 4) 1 0 0 ∧ ρ 6 = .ptr (n + 1, 6) 1 0 0 ∧ ρ 7 = int k ∧ ρ 8 = str nm ∧
    H' (n, 4) = some ⟨3, [[.list true (l.map AmbNode.cells), int a2, bool (ok && isNm nm)]]⟩ ∧ H' (n + 1, 6) = some ⟨3, [[.v (.slice none 0 0), int 0, bool false]]⟩ ∧ Frame n H H' ∧ n' = n + 2) ?_ ?_
  · refine ⟨by simp, by simp, by simp, by simp, by simp, by simp, by simp, by simp, by repeat (first | exact Frame.refl _ _ | refine Frame.set (by simp) ?_), rfl⟩
  clear hk'
  rintro ρ H1 n1 ⟨h0, h2, h4, h6, h7, h8, hm4, hm6, hfr, rfl⟩
  refine Runs.seq ?_
  refine Runs.seqE Ty_ok (by decide) fun k' hk' => ?_
  have fin : ∀ ρ : Env, (ρ 0 = str s ∧ ρ 2 = int parent ∧ ρ 4 = .ptr (n, 4) 1 0 0 ∧ ρ 6 = .ptr (n + 1, 6) 1 0 0 ∧ ρ 7 = int k ∧ ρ 8 = str nm ∧ ρ 31 = bool (!(ok && isNm nm && decide (l.length < 8)))) → Runs Tryd.prog 119 69 k' ρ H1 (n + 2) Q := by
    rintro ρ ⟨h0, h2, h4, h6, h7, h8, h31⟩
    refine hk' _ _ _ ?_
    refine Runs.ite h31 (fun hc1 => ?_) (fun hc1 => ?_)   -- t31
    · refine Runs.seqE Ty_ok (by decide) fun k' hk' => ?_
      simp [h4, hm4]   -- R4
      refine hk' _ _ _ ?_
      refine Runs.seqE Ty_ok (by decide) fun k' hk' => ?_
      simp [h4, h6, hm6]   -- R5
      refine hk' _ _ _ ?_
      refine Runs.ret Tryd.func119 (RetOk.cell (cs := [.list true (l.map AmbNode.cells), int a2, bool false]) (v := encR l a2 false) Ty_ok Tryd.results119 Ty_94 (by simp [h6]) (by simp [loadA, encR])) (hQ _ _ _ _ (.bnd (bnd_encR n l a2 false)) (Frame.set (by simp) (Frame.set (by simp) hfr)) ?_)
      have hno : (if ok = true then pNode true (g + 1) parent (s.drop a) l else none) = none := by
        cases ok
        · rfl
        · obtain ⟨e1, e2, _⟩ := kindA_spec s a ha
          rw [hka] at e1 e2
          simp only at e1 e2
          have hn2 : nm = (kindOf (s.drop a)).2.takeWhile lower := by rw [← hnm, nameAt, e2]
          rw [if_pos rfl, pNode, ← hn2, if_pos]
          have hl8 : (l.length == 8) = !decide (l.length < 8) := by
            by_cases h : l.length < 8
            · simp [h]; omega
            · simp [h]; omega
          rw [hl8]
          cases hn : isNm nm
          · simp
          · simp [hn] at hc1
            simp [hc1]
      rw [hno]
      exact ⟨l, a2, hnl, hl, rfl⟩
    · simp only [Bool.not_eq_false', Bool.and_eq_true, decide_eq_true_eq] at hc1
      obtain ⟨⟨hok, hisn⟩, hl8⟩ := hc1
      subst hok
      refine Runs.skip ?_
      rw [hisn] at hm4
      simp only [Bool.and_self] at hm4
      refine Runs.seqE Ty_ok (by decide) fun k' hk' => ?_
      simp [h4, hm4]   -- R6
      refine hk' _ _ _ ?_
      refine Runs.seqE Ty_ok (by decide) fun k' hk' => ?_
      simp [h2, h4, h7, h8, hm4, show l.length ≤ 1073741824 by omega, show l.length + 1 ≤ 1073741824 by omega, AmbNode.cells]   -- R7
      refine hk' _ _ _ ?_
      obtain ⟨e1, e2, _⟩ := kindA_spec s a ha
      rw [hka] at e1 e2
      simp only at e1 e2
      have hn2 : nm = (kindOf (s.drop a)).2.takeWhile lower := by rw [← hnm, nameAt, e2]
      have hd2 : s.drop a2 = (kindOf (s.drop a)).2.dropWhile lower := by rw [← tw_drop, ← e2, List.drop_drop, ← ha2, ← hnm]; rfl
      have hk3 : k ≤ 3 := by rw [e1]; exact kindOf_le _
      obtain ⟨x, hx⟩ : ∃ x : AmbNode, x = ⟨k, nm, parent⟩ := ⟨_, rfl⟩
      have hxc : x.cells = [int k, str nm, int parent] := by rw [hx]; rfl
      refine Runs.freeze1 (n + 2, 38) (o := ⟨3, (l ++ [x]).map AmbNode.cells⟩) (by simp [hx, AmbNode.cells]) (nodes_flat _) ?_
      refine Runs.cut (fun ρ H' n' => ρ 0 = str s ∧ ρ 4 = .ptr (n, 4) 1 0 0 ∧ ρ 6 = .ptr (n + 1, 6) 1 0 0 ∧ ρ 7 = int k ∧ ρ 9 = int l.length ∧
        H' (n, 4) = some ⟨3, [[.list true ((l ++ [x]).map AmbNode.cells), int a2, bool true]]⟩ ∧ H' (n + 1, 6) = some ⟨3, [[.v (.slice none 0 0), int 0, bool false]]⟩ ∧ Frame n H H') ?_ ?_
      · refine ⟨by simp [h0, fz_v], by simp [h4, fz_ptr], by simp [h6, fz_ptr], by simp [h7, fz_v], by simp [fz_v], ?_, ?_, ?_⟩
        · rw [fzH_ne (by simp)]
          simp [fz_v]
          exact fz_own (by simp [hx, AmbNode.cells]; exact rfl) (by simp)
        · rw [fzH_ne (by simp)]
          simp [fz_v, hm6]
        · exact Frame.fz hB (by simp) (Frame.set (by simp) (Frame.set (by simp) hfr))
      clear hk' h0 h2 h4 h6 h7 h8 hm4 hm6 hfr
      rintro ρ H1 n1 ⟨h0, h4, h6, h7, h9, hm4, hm6, hfr⟩
      refine Runs.seq ?_
      refine Runs.seqE Ty_ok (by decide) fun k' hk' => ?_
      simp [h7]   -- R8
      refine hk' _ _ _ ?_
      have hgg := hg rfl
      refine Runs.ite rfl (fun hk0 => ?_) (fun hk0 => ?_)
      · simp at hk0
        have ho : opn k = [91] := by simp [opn, hk0]
        have hc : cls k = [93] := by simp [cls, hk0]
        refine Runs.seqE Ty_ok (by decide) fun k' hk' => ?_
        simp [h0, h4, hm4]   -- R9
        refine RunK.callH Ty_ok (l12Takes_ok s (l ++ [x]) a2 true [91] hs hnl (by simp)) e118 (.refl _) (by decide) (by decide) rfl (by simp [encR, h0]) ?_
        intro r1 hr1
        have hR : ∀ r, r = (if takes s a2 true [91] then encR (l ++ [x]) (a2 + (List.length ([91] : Str))) true else encR (l ++ [x]) a2 false) →
            ∃ a3 ok3, r = encR (l ++ [x]) a3 ok3 ∧ a3 ≤ s.length ∧ ((ok3 = true ∧ (opn k).isPrefixOf (s.drop a2) = true ∧ s.drop a3 = (s.drop a2).drop (opn k).length) ∨ (ok3 = false ∧ (opn k).isPrefixOf (s.drop a2) = false)) := by
          rintro _ rfl
          rw [ho]
          cases ht : List.isPrefixOf [91] (s.drop a2)
          · exact ⟨a2, false, by simp [takes, ht], hnl, .inr ⟨rfl, rfl⟩⟩
          · exact ⟨a2 + List.length ([91] : Str), true, by simp only [takes, ht, Bool.true_and, if_true], prefix_le hnl ht, .inl ⟨rfl, rfl, by simp⟩⟩
        obtain ⟨a3, ok3, rfl, ha3, h3⟩ := hR _ hr1
        simp [h0, h9, encR]
        refine RunK.callH Ty_ok (hread rfl (l ++ [x]) a3 ok3 l.length (by simp; omega) (by simp) ha3 (fun _ => by simp; omega)) e56 (.refl _) (by decide) (by decide) rfl (by simp [encR, h0, h9]) ?_
        intro r hr
        obtain ⟨l4, a4, ok4, rfl, hl4, ha4, h4'⟩ : ∃ l4 a4 ok4, r = encR l4 a4 ok4 ∧ l4.length ≤ 8 ∧ a4 ≤ s.length ∧ (if ok3 = true then pIn true g l.length (s.drop a3) (l ++ [x]) else none) = (if ok4 then some (s.drop a4, l4) else none) := by
          cases hp : (if ok3 = true then pIn true g l.length (s.drop a3) (l ++ [x]) else none) with
          | none =>
            rw [hp] at hr
            obtain ⟨l', a', q1, q2, q3⟩ := hr
            exact ⟨l', a', false, q3, q2, q1, by simp⟩
          | some t =>
            rw [hp] at hr
            obtain ⟨a', q1, q2, q3, q4⟩ := hr
            exact ⟨t.2, a', true, q4, q3, q1, by simp [← q2]⟩
        simp [h0, encR]
        refine RunK.callH Ty_ok (l12Takes_ok s l4 a4 ok4 [93] hs ha4 (by simp)) e118 (.refl _) (by decide) (by decide) rfl (by simp [encR, h0]) ?_
        intro r2 hr2
        have hfin : ∀ r, r = (if takes s a4 ok4 [93] then encR l4 (a4 + (List.length ([93] : Str))) true else encR l4 a4 false) → ∃ a5 ok5, r = encR l4 a5 ok5 ∧ Res s (pNode true (g + 1) parent (s.drop a) l) (encR l4 a5 ok5) := by
          rintro _ rfl
          rw [pNode, ← hn2, ← hd2, ← e1, hisn, ← hx]
          cases ht : takes s a4 ok4 [93]
          · refine ⟨a4, false, by simp, ?_⟩
            have hnone : ∀ o : Option (Str × Proc), o = none → Res s o (encR l4 a4 false) := by
              rintro _ rfl
              exact ⟨l4, a4, ha4, hl4, rfl⟩
            refine hnone _ ?_
            rcases h3 with ⟨rfl, q1, q2⟩ | ⟨rfl, q1⟩
            · rw [q1, ← q2]
              simp only [if_true] at h4'
              rw [h4']
              cases ok4
              · simp
              · simp only [takes, Bool.true_and] at ht
                simp [hc, ht]
            · simp [q1]
          · refine ⟨a4 + 1, true, by simp, ?_⟩
            simp only [takes, Bool.and_eq_true] at ht
            obtain ⟨rfl, ht⟩ := ht
            have hok3 : ok3 = true := by
              cases ok3
              · simp at h4'
              · rfl
            subst hok3
            rcases h3 with ⟨_, q1, q2⟩ | ⟨h, _⟩
            · simp only [if_true] at h4'
              have h8 : (l.length == 8) = false := by simp; omega
              rw [q1, ← q2, h4', hc, h8]
              simp only [if_true, ht]
              refine ⟨a4 + 1, prefix_le ha4 ht, by simp, hl4, rfl⟩
            · cases h
        obtain ⟨a5, ok5, rfl, hres⟩ := hfin _ hr2
        simp [h6, hm6, encR]
        refine hk' _ _ _ ?_
        exact Runs.ret Tryd.func119 (RetOk.cell (cs := [.list true (l4.map AmbNode.cells), int a5, bool ok5]) (v := encR l4 a5 ok5) Ty_ok Tryd.results119 Ty_94 (by simp [h6]) (by simp [loadA, encR])) (hQ _ _ _ _ (.bnd (bnd_encR n l4 a5 ok5)) (Frame.set (by simp) hfr) (by simpa using hres))
      · simp at hk0
        refine Runs.skip ?_
        have ho : opn k = [46, 40] := by simp [opn, hk0]
        have hc : cls k = [41] := by simp [cls, hk0]
        refine Runs.seqE Ty_ok (by decide) fun k' hk' => ?_
        simp [h0, h4, hm4]   -- R10
        refine RunK.callH Ty_ok (l12Takes_ok s (l ++ [x]) a2 true [46, 40] hs hnl (by simp)) e118 (.refl _) (by decide) (by decide) rfl (by simp [encR, h0]) ?_
        intro r1 hr1
        have hR : ∀ r, r = (if takes s a2 true [46, 40] then encR (l ++ [x]) (a2 + (List.length ([46, 40] : Str))) true else encR (l ++ [x]) a2 false) →
            ∃ a3 ok3, r = encR (l ++ [x]) a3 ok3 ∧ a3 ≤ s.length ∧ ((ok3 = true ∧ (opn k).isPrefixOf (s.drop a2) = true ∧ s.drop a3 = (s.drop a2).drop (opn k).length) ∨ (ok3 = false ∧ (opn k).isPrefixOf (s.drop a2) = false)) := by
          rintro _ rfl
          rw [ho]
          cases ht : List.isPrefixOf [46, 40] (s.drop a2)
          · exact ⟨a2, false, by simp [takes, ht], hnl, .inr ⟨rfl, rfl⟩⟩
          · exact ⟨a2 + List.length ([46, 40] : Str), true, by simp only [takes, ht, Bool.true_and, if_true], prefix_le hnl ht, .inl ⟨rfl, rfl, by simp⟩⟩
        obtain ⟨a3, ok3, rfl, ha3, h3⟩ := hR _ hr1
        simp [h0, h9, encR]
        refine RunK.callH Ty_ok (hread rfl (l ++ [x]) a3 ok3 l.length (by simp; omega) (by simp) ha3 (fun _ => by simp; omega)) e56 (.refl _) (by decide) (by decide) rfl (by simp [encR, h0, h9]) ?_
        intro r hr
        obtain ⟨l4, a4, ok4, rfl, hl4, ha4, h4'⟩ : ∃ l4 a4 ok4, r = encR l4 a4 ok4 ∧ l4.length ≤ 8 ∧ a4 ≤ s.length ∧ (if ok3 = true then pIn true g l.length (s.drop a3) (l ++ [x]) else none) = (if ok4 then some (s.drop a4, l4) else none) := by
          cases hp : (if ok3 = true then pIn true g l.length (s.drop a3) (l ++ [x]) else none) with
          | none =>
            rw [hp] at hr
            obtain ⟨l', a', q1, q2, q3⟩ := hr
            exact ⟨l', a', false, q3, q2, q1, by simp⟩
          | some t =>
            rw [hp] at hr
            obtain ⟨a', q1, q2, q3, q4⟩ := hr
            exact ⟨t.2, a', true, q4, q3, q1, by simp [← q2]⟩
        simp [h0, encR]
        refine RunK.callH Ty_ok (l12Takes_ok s l4 a4 ok4 [41] hs ha4 (by simp)) e118 (.refl _) (by decide) (by decide) rfl (by simp [encR, h0]) ?_
        intro r2 hr2
        have hfin : ∀ r, r = (if takes s a4 ok4 [41] then encR l4 (a4 + (List.length ([41] : Str))) true else encR l4 a4 false) → ∃ a5 ok5, r = encR l4 a5 ok5 ∧ Res s (pNode true (g + 1) parent (s.drop a) l) (encR l4 a5 ok5) := by
          rintro _ rfl
          rw [pNode, ← hn2, ← hd2, ← e1, hisn, ← hx]
          cases ht : takes s a4 ok4 [41]
          · refine ⟨a4, false, by simp, ?_⟩
            have hnone : ∀ o : Option (Str × Proc), o = none → Res s o (encR l4 a4 false) := by
              rintro _ rfl
              exact ⟨l4, a4, ha4, hl4, rfl⟩
            refine hnone _ ?_
            rcases h3 with ⟨rfl, q1, q2⟩ | ⟨rfl, q1⟩
            · rw [q1, ← q2]
              simp only [if_true] at h4'
              rw [h4']
              cases ok4
              · simp
              · simp only [takes, Bool.true_and] at ht
                simp [hc, ht]
            · simp [q1]
          · refine ⟨a4 + 1, true, by simp, ?_⟩
            simp only [takes, Bool.and_eq_true] at ht
            obtain ⟨rfl, ht⟩ := ht
            have hok3 : ok3 = true := by
              cases ok3
              · simp at h4'
              · rfl
            subst hok3
            rcases h3 with ⟨_, q1, q2⟩ | ⟨h, _⟩
            · simp only [if_true] at h4'
              have h8 : (l.length == 8) = false := by simp; omega
              rw [q1, ← q2, h4', hc, h8]
              simp only [if_true, ht]
              refine ⟨a4 + 1, prefix_le ha4 ht, by simp, hl4, rfl⟩
            · cases h
        obtain ⟨a5, ok5, rfl, hres⟩ := hfin _ hr2
        simp [h6, hm6, encR]
        refine hk' _ _ _ ?_
        exact Runs.ret Tryd.func119 (RetOk.cell (cs := [.list true (l4.map AmbNode.cells), int a5, bool ok5]) (v := encR l4 a5 ok5) Ty_ok Tryd.results119 Ty_94 (by simp [h6]) (by simp [loadA, encR])) (hQ _ _ _ _ (.bnd (bnd_encR n l4 a5 ok5)) (Frame.set (by simp) hfr) (by simpa using hres))
  cases ok
  · simp [h4, hm4, guardOf]
    exact fin _ ⟨by simp [h0], by simp [h2], by simp [h4], by simp [h6], by simp [h7], by simp [h8], by simp⟩
  · cases hn : isNm nm
    · simp [hn] at hm4
      simp [h4, hm4, guardOf]
      exact fin _ ⟨by simp [h0], by simp [h2], by simp [h4], by simp [h6], by simp [h7], by simp [h8], by simp [hn]⟩
    · simp [hn] at hm4
      simp [h4, hm4, guardOf]
      refine fin _ ⟨by simp [h0], by simp [h2], by simp [h4], by simp [h6], by simp [h7], by simp [h8], ?_⟩
      by_cases h : l.length < 8
      · simp [h, hn]; omega
      · simp [h, hn]; omega
end Go.Ab
