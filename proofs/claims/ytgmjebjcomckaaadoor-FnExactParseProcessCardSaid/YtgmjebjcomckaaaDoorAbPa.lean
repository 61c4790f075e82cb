/- The plain law of the parser of processes: with names looked at while reading, or behind it. -/
import Derived.Test.YtgmjebjcomckaaaDoorAbV
namespace Go.Ab
set_option linter.unusedSimpArgs false

def kindOf (s : Str) : Nat × Str :=
  if (word 0).isPrefixOf s then (1, s.drop (word 0).length) else if (word 1).isPrefixOf s then (2, s.drop (word 1).length) else if (word 2).isPrefixOf s then (3, s.drop (word 2).length) else (0, s)
def opn (k : Nat) : Str := if k = 0 then [91] else [46, 40]
def cls (k : Nat) : Str := if k = 0 then [93] else [41]

mutual
def pNode (chk : Bool) : Nat → Int → Str → Proc → Option (Str × Proc)
  | 0, _, _, _ => none
  | g + 1, parent, s, l =>
    if (chk && !isNm ((kindOf s).2.takeWhile lower)) || !(opn (kindOf s).1).isPrefixOf ((kindOf s).2.dropWhile lower) || l.length == 8 then none else
    match pIn chk g l.length (((kindOf s).2.dropWhile lower).drop (opn (kindOf s).1).length) (l ++ [⟨(kindOf s).1, (kindOf s).2.takeWhile lower, parent⟩]) with
    | none => none
    | some (r, l2) => if (cls (kindOf s).1).isPrefixOf r then some (r.drop 1, l2) else none
def pIn (chk : Bool) : Nat → Int → Str → Proc → Option (Str × Proc)
  | 0, _, _, _ => none
  | g + 1, parent, s, l =>
    if List.isPrefixOf [48] s then some (s.drop 1, l) else
    match pNode chk g parent s l with
    | none => none
    | some (r, l2) => pLoop chk g parent r l2
def pLoop (chk : Bool) : Nat → Int → Str → Proc → Option (Str × Proc)
  | 0, _, _, _ => none
  | g + 1, parent, s, l =>
    if List.isPrefixOf [124] s then
      match pNode chk g parent (s.drop 1) l with
      | none => none
      | some (r, l2) => pLoop chk g parent r l2
    else some (s, l)
end

theorem kindOf_le (s : Str) : (kindOf s).1 ≤ 3 := by
  unfold kindOf
  split
  · simp
  · split
    · simp
    · split <;> simp

theorem kindOf_len (s : Str) : (kindOf s).2.length ≤ s.length := by
  unfold kindOf
  split
  · simp
  · split
    · simp
    · split <;> simp

/-- What reading adds. -/
def Adds (chk : Bool) (parent : Int) (l l2 : Proc) : Prop :=
  ∃ m, l2 = l ++ m ∧ l2.length ≤ 8 ∧ ∀ (i : Nat) (x : AmbNode), m[i]? = some x → 0 ≤ x.kind ∧ x.kind ≤ 3 ∧ (x.parent = parent ∨ (l.length : Int) ≤ x.parent ∧ x.parent < l.length + i) ∧ (chk = true → isNm x.name = true)

theorem Adds.refl {chk : Bool} {parent : Int} {l : Proc} (hl : l.length ≤ 8) : Adds chk parent l l := ⟨[], by simp, hl, by simp⟩
theorem Adds.trans {chk : Bool} {parent : Int} {l l2 l3 : Proc} (h : Adds chk parent l l2) (k : Adds chk parent l2 l3) : Adds chk parent l l3 := by
  obtain ⟨m, rfl, h2, h3⟩ := h
  obtain ⟨m', rfl, k2, k3⟩ := k
  refine ⟨m ++ m', by simp, by omega, fun i x hx => ?_⟩
  rcases Nat.lt_or_ge i m.length with hi | hi
  · rw [List.getElem?_append_left hi] at hx
    exact h3 i x hx
  · rw [List.getElem?_append_right hi] at hx
    obtain ⟨a1, a2, a3, a4⟩ := k3 _ x hx
    refine ⟨a1, a2, ?_, a4⟩
    rcases a3 with h | h
    · exact .inl h
    · simp only [List.length_append] at h
      exact .inr ⟨by omega, by omega⟩

/-- A node and what is in it. -/
theorem Adds.node {chk : Bool} {parent : Int} {x : AmbNode} {l l2 : Proc} (hx : x.parent = parent) (hk : 0 ≤ x.kind ∧ x.kind ≤ 3) (hn : chk = true → isNm x.name = true) (k : Adds chk l.length (l ++ [x]) l2) : Adds chk parent l l2 := by
  obtain ⟨m', rfl, k2, k3⟩ := k
  refine ⟨[x] ++ m', by simp, by simpa using k2, fun i y hy => ?_⟩
  cases i with
  | zero => simp at hy; subst hy; exact ⟨hk.1, hk.2, .inl hx, hn⟩
  | succ i =>
    simp at hy
    obtain ⟨a1, a2, a3, a4⟩ := k3 _ y hy
    simp only [List.length_append, List.length_cons, List.length_nil] at a3
    refine ⟨a1, a2, .inr ?_, a4⟩
    rcases a3 with h | h <;> omega

theorem p_adds (chk : Bool) : ∀ g parent s l s2 l2, l.length ≤ 8 →
    (pNode chk g parent s l = some (s2, l2) → Adds chk parent l l2 ∧ l.length < l2.length ∧ s2.length ≤ s.length) ∧
    (pIn chk g parent s l = some (s2, l2) → Adds chk parent l l2 ∧ s2.length ≤ s.length) ∧
    (pLoop chk g parent s l = some (s2, l2) → Adds chk parent l l2 ∧ s2.length ≤ s.length)
  | 0, parent, s, l, s2, l2, _ => by simp [pNode, pIn, pLoop]
  | g + 1, parent, s, l, s2, l2, hl => by
    refine ⟨fun h => ?_, fun h => ?_, fun h => ?_⟩
    · rw [pNode] at h
      split at h
      · cases h
      · rename_i hc
        simp only [Bool.or_eq_true, not_or, Bool.and_eq_true, not_and, beq_iff_eq, Bool.not_eq_true', Bool.not_eq_true] at hc
        split at h
        · cases h
        · rename_i r l3 hr
          split at h
          · cases h
            have hl8 : l.length < 8 := by have := hc.2; omega
            obtain ⟨h1, h2⟩ := (p_adds chk g _ _ _ _ _ (by simp; omega)).2.1 hr
            obtain ⟨m, e1, _⟩ := id h1
            refine ⟨Adds.node rfl ⟨by simp, ?_⟩ (fun hk => ?_) h1, by rw [e1]; simp, ?_⟩
            · have := kindOf_le s
              simp
              omega
            · have := hc.1.1 hk
              simpa using this
            · have h4 := kindOf_len s
              have h5 : ((kindOf s).2.dropWhile lower).length ≤ (kindOf s).2.length := (List.dropWhile_suffix _).length_le
              simp at h2 ⊢
              omega
          · cases h
    · rw [pIn] at h
      split at h
      · cases h
        exact ⟨.refl hl, by simp⟩
      · split at h
        · cases h
        · rename_i r l3 hr
          obtain ⟨h1, _, h2⟩ := (p_adds chk g _ _ _ _ _ hl).1 hr
          obtain ⟨h3, h4⟩ := (p_adds chk g _ _ _ _ _ h1.choose_spec.2.1).2.2 h
          exact ⟨h1.trans h3, by omega⟩
    · rw [pLoop] at h
      split at h
      · split at h
        · cases h
        · rename_i r l3 hr
          obtain ⟨h1, _, h2⟩ := (p_adds chk g _ _ _ _ _ hl).1 hr
          obtain ⟨h3, h4⟩ := (p_adds chk g _ _ _ _ _ h1.choose_spec.2.1).2.2 h
          simp at h2
          exact ⟨h1.trans h3, by omega⟩
      · cases h
        exact ⟨.refl hl, by simp⟩

/-- A name that is none behind the first k nodes. -/
def BadIn (l : Proc) (k : Nat) : Prop := ∃ x ∈ l.drop k, isNm x.name = false

/-- Looking at the names while reading, or behind it. -/
def Both (a b : Option (Str × Proc)) (k : Nat) : Prop := (∃ x, a = some x ∧ b = some x) ∨ (a = none ∧ (b = none ∨ ∃ s2 l2, b = some (s2, l2) ∧ BadIn l2 k))

theorem BadIn.of {parent : Int} {l l2 : Proc} {k : Nat} (h : BadIn l k) (ha : Adds false parent l l2) : BadIn l2 k := by
  obtain ⟨x, hx, hn⟩ := h
  obtain ⟨m, rfl, _⟩ := ha
  refine ⟨x, ?_, hn⟩
  rw [List.drop_append]
  simp [hx]
theorem BadIn.le {l : Proc} {k k' : Nat} (h : BadIn l k) (hk : k' ≤ k) : BadIn l k' := by
  obtain ⟨x, hx, hn⟩ := h
  refine ⟨x, ?_, hn⟩
  have : l.drop k = (l.drop k').drop (k - k') := by rw [List.drop_drop]; congr 1; omega
  rw [this] at hx
  exact List.mem_of_mem_drop hx

theorem p_both : ∀ g parent s l, l.length ≤ 8 →
    Both (pNode true g parent s l) (pNode false g parent s l) l.length ∧ Both (pIn true g parent s l) (pIn false g parent s l) l.length ∧ Both (pLoop true g parent s l) (pLoop false g parent s l) l.length
  | 0, parent, s, l, _ => by simp [pNode, pIn, pLoop, Both]
  | g + 1, parent, s, l, hl => by
    have loop : ∀ (s' : Str), Both (match pNode true g parent s' l with | none => none | some (r, l2) => pLoop true g parent r l2) (match pNode false g parent s' l with | none => none | some (r, l2) => pLoop false g parent r l2) l.length := by
      intro s'
      rcases (p_both g parent s' l hl).1 with ⟨⟨r, l2⟩, h1, h2⟩ | ⟨h1, h2 | ⟨r, l2, h2, h3⟩⟩
      · rw [h1, h2]
        have hlt := ((p_adds true g parent s' l r l2 hl).1 h1)
        have hl2 := hlt.1.choose_spec.2.1
        have hlt := hlt.2.1
        rcases (p_both g parent r l2 hl2).2.2 with h | ⟨h, h' | ⟨r', l3, h', h''⟩⟩
        · exact .inl h
        · exact .inr ⟨h, .inl h'⟩
        · exact .inr ⟨h, .inr ⟨r', l3, h', h''.le (by omega)⟩⟩
      · rw [h1, h2]
        exact .inr ⟨rfl, .inl rfl⟩
      · rw [h1, h2]
        have hl2 := ((p_adds false g parent s' l r l2 hl).1 h2).1.choose_spec.2.1
        cases h4 : pLoop false g parent r l2 with
        | none => exact .inr ⟨rfl, .inl h4⟩
        | some x => exact .inr ⟨rfl, .inr ⟨x.1, x.2, h4, h3.of ((p_adds false g parent r l2 x.1 x.2 hl2).2.2 h4).1⟩⟩
    refine ⟨?_, ?_, ?_⟩
    · rw [pNode, pNode]
      by_cases hc : (!(opn (kindOf s).1).isPrefixOf ((kindOf s).2.dropWhile lower) || l.length == 8) = true
      · rw [if_pos (by simp only [Bool.or_assoc, hc, Bool.or_true]), if_pos (by simp only [Bool.or_assoc, hc, Bool.or_true])]
        exact .inr ⟨rfl, .inl rfl⟩
      · have hc' : (!(opn (kindOf s).1).isPrefixOf ((kindOf s).2.dropWhile lower) || l.length == 8) = false := by simpa using hc
        have hl8 : l.length < 8 := by simp at hc'; omega
        rw [Bool.or_assoc, hc', Bool.or_assoc, hc']
        cases hn : isNm ((kindOf s).2.takeWhile lower)
        · simp only [Bool.not_false, Bool.and_true, Bool.or_false, Bool.true_and, Bool.false_and, if_true, if_false]
          refine .inr ⟨rfl, ?_⟩
          cases h4 : pIn false g l.length (((kindOf s).2.dropWhile lower).drop (opn (kindOf s).1).length) (l ++ [⟨(kindOf s).1, (kindOf s).2.takeWhile lower, parent⟩]) with
          | none => exact .inl (by simp)
          | some x =>
            obtain ⟨r, l2⟩ := x
            simp only [Bool.false_eq_true, if_false]
            split
            · refine .inr ⟨_, l2, rfl, ?_⟩
              obtain ⟨m, e, _⟩ := ((p_adds false g _ _ _ _ _ (by simp; omega)).2.1 h4).1
              refine ⟨⟨(kindOf s).1, (kindOf s).2.takeWhile lower, parent⟩, ?_, hn⟩
              rw [e]
              simp
            · exact .inl rfl
        · simp only [Bool.not_true, Bool.and_false, Bool.or_false, if_false, Bool.false_eq_true]
          rcases (p_both g l.length (((kindOf s).2.dropWhile lower).drop (opn (kindOf s).1).length) (l ++ [⟨(kindOf s).1, (kindOf s).2.takeWhile lower, parent⟩]) (by simp; omega)).2.1 with ⟨⟨r, l2⟩, h1, h2⟩ | ⟨h1, h2 | ⟨r, l2, h2, h3⟩⟩
          · rw [h1, h2]
            simp only
            split
            · exact .inl ⟨_, rfl, rfl⟩
            · exact .inr ⟨rfl, .inl rfl⟩
          · rw [h1, h2]
            exact .inr ⟨rfl, .inl rfl⟩
          · rw [h1, h2]
            simp only
            split
            · exact .inr ⟨rfl, .inr ⟨_, _, rfl, h3.le (by simp)⟩⟩
            · exact .inr ⟨rfl, .inl rfl⟩
    · rw [pIn, pIn]
      split
      · exact .inl ⟨_, rfl, rfl⟩
      · exact loop s
    · rw [pLoop, pLoop]
      split
      · exact loop _
      · exact .inl ⟨_, rfl, rfl⟩

/-- Reading a process. -/
def parse (s : Str) : Proc × Bool :=
  match pIn false 40 (-1) s [] with
  | none => ([], false)
  | some (r, l) => if r = [] ∧ goodP l = true ∧ textIn l (l.length + 1) (-1) = s then (l, true) else ([], false)

theorem good_of_adds {l : Proc} (h : Adds true (-1) [] l) : goodP l = true := by
  obtain ⟨m, e, h2, h3⟩ := h
  simp only [List.nil_append] at e
  subst e
  unfold goodP
  simp only [Bool.and_eq_true, List.all_eq_true, List.mem_range, decide_eq_true_eq]
  refine ⟨fun i hi => ?_, by omega⟩
  have hx : l[i]? = some l[i] := List.getElem?_eq_getElem hi
  obtain ⟨a1, a2, a3, a4⟩ := h3 i _ hx
  have hg : l.getD i default = l[i] := by simp [hi]
  simp only [okNode, hg, within, Bool.and_eq_true, decide_eq_true_eq]
  refine ⟨⟨⟨a1, a2⟩, a4 rfl⟩, ?_⟩
  simp only [List.length_nil] at a3
  rcases a3 with h | h <;> omega

theorem parse_chk (s : Str) : parse s = match pIn true 40 (-1) s [] with
    | none => ([], false)
    | some (r, l) => if r = [] ∧ textIn l (l.length + 1) (-1) = s then (l, true) else ([], false) := by
  unfold parse
  rcases (p_both 40 (-1) s [] (by simp)).2.1 with ⟨⟨r, l⟩, h1, h2⟩ | ⟨h1, h2 | ⟨r, l, h2, h3⟩⟩
  · have hg := good_of_adds ((p_adds true 40 _ _ _ _ _ (by simp)).2.1 h1).1
    rw [h1, h2]
    simp only [hg, true_and]
  · rw [h1, h2]
  · rw [h1, h2]
    have hg : goodP l = false := by
      obtain ⟨x, hx, hn⟩ := h3
      simp only [List.length_nil, List.drop_zero] at hx
      obtain ⟨i, hi, rfl⟩ := List.getElem_of_mem hx
      refine goodP_bad hi ?_
      have hgd : l.getD i default = l[i] := by simp [hi]
      simp only [okNode, hgd, hn, Bool.and_false, Bool.false_and]
    simp only [hg, Bool.false_eq_true, false_and, and_false, if_false]
end Go.Ab
