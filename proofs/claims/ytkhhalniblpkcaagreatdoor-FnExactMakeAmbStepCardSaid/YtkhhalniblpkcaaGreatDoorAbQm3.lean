/- Merged texts (3 of 11) of the proof that ends in My: Sp Sq Sr Ss R Sv Sw Sx Sy Vp. -/
import Derived.Test.YtkhhalniblpkcaaGreatDoorAbQm2
import Derived.ProofKit
import Derived.LaidMore
import Derived.OpenShut
import Derived.Lay
import Derived.Stop.Joined
/- The abstract machine, part Sp: arrays of the call's own as values, each kept apart from the others; what is done with them. -/
namespace Go.Ab
set_option linter.unusedSectionVars false
set_option linter.unusedSimpArgs false

/-- A value's shape: a plain value, a slice of elements whose cells have shapes, a struct, a tuple. -/
inductive Sh where
  | c
  | s (l : List Sh)
  | a (l : List Sh)
  | t (l : List Sh)

def rowsP (R : List AVal → List AVal → List Id → Prop) : List (List AVal) → List (List AVal) → List Id → Prop
  | [], [], T => T = []
  | e :: es, f :: fs, T => ∃ T1 T2, R e f T1 ∧ rowsP R es fs T2 ∧ T = T1 ++ T2 ∧ ∀ i ∈ T1, i ∉ T2
  | _, _, _ => False

mutual
def Tr (H : Heap) : Sh → AVal → AVal → List Id → Prop
  | .c, a, b, S => ∃ x, a = .v x ∧ b = .v x ∧ S = []
  | .s l, a, b, S => (a = .v (.slice none 0 0) ∧ b = .list true [] ∧ S = []) ∨ ∃ id els es T, a = .arr id els.length 0 els.length ∧ b = .list true es ∧ H id = some ⟨l.length, els⟩ ∧ rowsP (Row H l) els es T ∧ id ∉ T ∧ S = id :: T
  | .a l, a, b, S => ∃ as bs, a = .agg as ∧ b = .agg bs ∧ Row H l as bs S
  | .t l, a, b, S => ∃ as bs, a = .tup as ∧ b = .tup bs ∧ Row H l as bs S
def Row (H : Heap) : List Sh → List AVal → List AVal → List Id → Prop
  | [], [], [], S => S = []
  | h :: l, a :: as, b :: bs, S => ∃ S1 S2, Tr H h a b S1 ∧ Row H l as bs S2 ∧ S = S1 ++ S2 ∧ ∀ i ∈ S1, i ∉ S2
  | _, _, _, _ => False
end

section
variable {R R' : List AVal → List AVal → List Id → Prop}
theorem rowsP.mono : ∀ {as bs : List (List AVal)} {S : List Id}, rowsP R as bs S → (∀ (e f : List AVal) (T : List Id), R e f T → (∀ i ∈ T, i ∈ S) → R' e f T) → rowsP R' as bs S
  | [], [], _, h, _ => h
  | _ :: _, _ :: _, _, ⟨T1, T2, h1, h2, h3, h4⟩, hm => ⟨T1, T2, hm _ _ _ h1 (fun i hi => by simp [h3, hi]), rowsP.mono h2 (fun e f T h hs => hm e f T h fun i hi => by simp [h3, hs i hi]), h3, h4⟩
  | [], _ :: _, _, h, _ => h.elim
  | _ :: _, [], _, h, _ => h.elim
theorem rowsP.len : ∀ {as bs : List (List AVal)} {S : List Id}, rowsP R as bs S → as.length = bs.length
  | [], [], _, _ => rfl
  | _ :: _, _ :: _, _, ⟨_, _, _, h2, _, _⟩ => by simp [h2.len]
  | [], _ :: _, _, h => h.elim
  | _ :: _, [], _, h => h.elim
theorem rowsP.append : ∀ {as bs cs ds : List (List AVal)} {S T : List Id}, rowsP R as bs S → rowsP R cs ds T → (∀ i ∈ S, i ∉ T) → rowsP R (as ++ cs) (bs ++ ds) (S ++ T)
  | [], [], _, _, _, _, h, k, _ => by rw [show _ = [] from h]; exact k
  | _ :: _, _ :: _, _, _, _, T, ⟨T1, T2, h1, h2, h3, h4⟩, k, hd => by
    subst h3
    refine ⟨T1, T2 ++ T, h1, rowsP.append h2 k (fun i hi => hd i (by simp [hi])), by simp, fun i hi hm => ?_⟩
    rcases List.mem_append.1 hm with hm | hm
    · exact h4 i hi hm
    · exact hd i (by simp [hi]) hm
  | [], _ :: _, _, _, _, _, h, _, _ => h.elim
  | _ :: _, [], _, _, _, _, h, _, _ => h.elim
/-- One row, and what stands around it. -/
theorem rowsP.at : ∀ {as bs : List (List AVal)} {S : List Id} {k : Nat}, rowsP R as bs S → k < as.length → ∃ (e f : List AVal) (T U : List Id), as[k]? = some e ∧ bs[k]? = some f ∧ R e f T ∧ (∀ i ∈ T, i ∈ S) ∧ (∀ i ∈ T, i ∉ U) ∧ (∀ i ∈ U, i ∈ S) ∧
    ∀ (R'' : List AVal → List AVal → List Id → Prop) e' f' T', R'' e' f' T' → (∀ (e f : List AVal) (T : List Id), R e f T → (∀ i ∈ T, i ∈ U) → R'' e f T) → (∀ i ∈ T', i ∉ U) → ∃ S', rowsP R'' (as.set k e') (bs.set k f') S' ∧ ∀ i ∈ S', i ∈ T' ∨ i ∈ U
  | e :: as, f :: bs, _, 0, ⟨T1, T2, h1, h2, h3, h4⟩, _ => ⟨e, f, T1, T2, rfl, rfl, h1, fun i hi => by simp [h3, hi], h4, fun i hi => by simp [h3, hi], fun R'' e' f' T' hr hm hd => ⟨T' ++ T2, ⟨T', T2, hr, h2.mono hm, rfl, hd⟩, fun i hi => by simpa using hi⟩⟩
  | e :: as, f :: bs, _, k + 1, ⟨T1, T2, h1, h2, h3, h4⟩, hk => by
    obtain ⟨e1, f1, T, U, p1, p2, p3, p4, p5, p6, p7⟩ := rowsP.at h2 (k := k) (by simpa using hk)
    refine ⟨e1, f1, T, T1 ++ U, by simpa using p1, by simpa using p2, p3, fun i hi => by simp [h3, p4 i hi], fun i hi hm => ?_, fun i hi => ?_, fun R'' e' f' T' hr hm hd => ?_⟩
    · rcases List.mem_append.1 hm with hm | hm
      · exact h4 i hm (p4 i hi)
      · exact p5 i hi hm
    · rcases List.mem_append.1 hi with hi | hi
      · simp [h3, hi]
      · simp [h3, p6 i hi]
    · obtain ⟨S', q1, q2⟩ := p7 R'' e' f' T' hr (fun e f T h hs => hm e f T h fun i hi => by simp [hs i hi]) (fun i hi hm => hd i hi (by simp [hm]))
      refine ⟨T1 ++ S', ⟨T1, S', hm _ _ _ h1 (fun i hi => by simp [hi]), q1, rfl, fun i hi hs => ?_⟩, fun i hi => ?_⟩
      · rcases q2 i hs with h | h
        · exact hd i h (by simp [hi])
        · exact h4 i hi (p6 i h)
      · rcases List.mem_append.1 hi with hi | hi
        · exact .inr (by simp [hi])
        · rcases q2 i hi with h | h
          · exact .inl h
          · exact .inr (by simp [h])
  | [], [], _, _, _, hk => by simp at hk
  | [], _ :: _, _, _, h, _ => h.elim
  | _ :: _, [], _, _, h, _ => h.elim
theorem rowsP.map {f : AVal → AVal} {g : Id → Id} (hg : ∀ i j, g i = g j → i = j) : ∀ {as bs : List (List AVal)} {S : List Id}, rowsP R as bs S → (∀ (e d : List AVal) (T : List Id), R e d T → (∀ i ∈ T, i ∈ S) → R' (e.map f) d (T.map g)) → rowsP R' (as.map fun e => e.map f) bs (S.map g)
  | [], [], _, h, _ => by rw [show _ = [] from h]; rfl
  | _ :: _, _ :: _, _, ⟨T1, T2, h1, h2, h3, h4⟩, hm => ⟨T1.map g, T2.map g, hm _ _ _ h1 (fun i hi => by simp [h3, hi]), rowsP.map hg h2 (fun e d T h hs => hm e d T h fun i hi => by simp [h3, hs i hi]), by simp [h3], fun i hi hm => by
      obtain ⟨j, hj, rfl⟩ := List.mem_map.1 hi
      obtain ⟨j2, hj2, he⟩ := List.mem_map.1 hm
      rw [hg _ _ he] at hj2
      exact h4 j hj hj2⟩
  | [], _ :: _, _, h, _ => h.elim
  | _ :: _, [], _, h, _ => h.elim
end

mutual
theorem Tr.frame {H H' : Heap} : ∀ {h : Sh} {a b : AVal} {S : List Id}, Tr H h a b S → (∀ i ∈ S, H' i = H i) → Tr H' h a b S
  | .c, _, _, _, h, _ => by simpa [Tr] using h
  | .s l, a, b, S, h, hf => by
    simp only [Tr] at h ⊢
    rcases h with h | ⟨id, els, es, T, h1, h2, h3, h4, h5, rfl⟩
    · exact .inl h
    · exact .inr ⟨id, els, es, T, h1, h2, by rw [hf id (by simp)]; exact h3, h4.mono fun e f T' hr hs => Row.frame hr fun i hi => hf i (by simp [hs i hi]), h5, rfl⟩
  | .a l, a, b, S, h, hf => by
    simp only [Tr] at h ⊢
    obtain ⟨as, bs, h1, h2, h3⟩ := h
    exact ⟨as, bs, h1, h2, Row.frame h3 hf⟩
  | .t l, a, b, S, h, hf => by
    simp only [Tr] at h ⊢
    obtain ⟨as, bs, h1, h2, h3⟩ := h
    exact ⟨as, bs, h1, h2, Row.frame h3 hf⟩
theorem Row.frame {H H' : Heap} : ∀ {l : List Sh} {as bs : List AVal} {S : List Id}, Row H l as bs S → (∀ i ∈ S, H' i = H i) → Row H' l as bs S
  | [], [], [], _, h, _ => by simpa [Row] using h
  | _ :: _, _ :: _, _ :: _, _, h, hf => by
    simp only [Row] at h ⊢
    obtain ⟨S1, S2, h1, h2, h3, h4⟩ := h
    exact ⟨S1, S2, h1.frame fun i hi => hf i (by simp [h3, hi]), Row.frame h2 fun i hi => hf i (by simp [h3, hi]), h3, h4⟩
  | [], [], _ :: _, _, h, _ => by simp [Row] at h
  | [], _ :: _, _, _, h, _ => by simp [Row] at h
  | _ :: _, [], _, _, h, _ => by simp [Row] at h
  | _ :: _, _ :: _, [], _, h, _ => by simp [Row] at h
end

mutual
theorem Tr.has {H : Heap} : ∀ {h : Sh} {a b : AVal} {S : List Id}, Tr H h a b S → ∀ i ∈ S, ∃ o, H i = some o
  | .c, _, _, _, h, i, hi => by simp only [Tr] at h; obtain ⟨_, _, _, rfl⟩ := h; cases hi
  | .s l, a, b, S, h, i, hi => by
    simp only [Tr] at h
    rcases h with ⟨_, _, rfl⟩ | ⟨id, els, es, T, h1, h2, h3, h4, h5, rfl⟩
    · cases hi
    · rcases List.mem_cons.1 hi with rfl | hi
      · exact ⟨_, h3⟩
      · exact rows_has (l := l) (fun e f T hr => Row.has hr) h4 i hi
  | .a l, a, b, S, h, i, hi => by simp only [Tr] at h; obtain ⟨as, bs, _, _, h3⟩ := h; exact Row.has h3 i hi
  | .t l, a, b, S, h, i, hi => by simp only [Tr] at h; obtain ⟨as, bs, _, _, h3⟩ := h; exact Row.has h3 i hi
theorem Row.has {H : Heap} : ∀ {l : List Sh} {as bs : List AVal} {S : List Id}, Row H l as bs S → ∀ i ∈ S, ∃ o, H i = some o
  | [], [], [], _, h, i, hi => by simp only [Row] at h; subst h; cases hi
  | _ :: _, _ :: _, _ :: _, _, h, i, hi => by
    simp only [Row] at h
    obtain ⟨S1, S2, h1, h2, h3, _⟩ := h
    subst h3
    rcases List.mem_append.1 hi with hi | hi
    · exact h1.has i hi
    · exact Row.has h2 i hi
  | [], [], _ :: _, _, h, _, _ => by simp [Row] at h
  | [], _ :: _, _, _, h, _, _ => by simp [Row] at h
  | _ :: _, [], _, _, h, _, _ => by simp [Row] at h
  | _ :: _, _ :: _, [], _, h, _, _ => by simp [Row] at h
theorem rows_has {H : Heap} {l : List Sh} (hr : ∀ (e f : List AVal) (T : List Id), Row H l e f T → ∀ i ∈ T, ∃ o, H i = some o) : ∀ {as bs : List (List AVal)} {S : List Id}, rowsP (Row H l) as bs S → ∀ i ∈ S, ∃ o, H i = some o
  | [], [], _, h, i, hi => by rw [show _ = [] from h] at hi; cases hi
  | _ :: _, _ :: _, _, ⟨T1, T2, h1, h2, h3, _⟩, i, hi => by
    subst h3
    rcases List.mem_append.1 hi with hi | hi
    · exact hr _ _ _ h1 i hi
    · exact rows_has hr h2 i hi
  | [], _ :: _, _, h, _, _ => h.elim
  | _ :: _, [], _, h, _, _ => h.elim
end

mutual
def Sh.dep : Sh → Nat
  | .c => 0
  | .s l => Sh.depL l + 1
  | .a l => Sh.depL l + 1
  | .t l => Sh.depL l + 1
def Sh.depL : List Sh → Nat
  | [] => 0
  | h :: l => max (Sh.dep h) (Sh.depL l)
end

theorem Own.up {H : Heap} : ∀ {d : Nat} {a b : AVal} {S : List Id}, Own H d a b S → Own H (d + 1) a b S
  | 0, _, _, _, h => .inl h
  | d + 1, a, b, S, h => by
    rcases h with h | ⟨cs, ds, h1, h2, h3⟩ | ⟨cs, ds, h1, h2, h3⟩ | h | ⟨id, o, els, T, h1, h2, h3, h4, h5⟩
    · exact .inl h
    · exact .inr (.inl ⟨cs, ds, h1, h2, h3.mono fun _ _ _ _ h _ => Own.up h⟩)
    · exact .inr (.inr (.inl ⟨cs, ds, h1, h2, h3.mono fun _ _ _ _ h _ => Own.up h⟩))
    · exact .inr (.inr (.inr (.inl h)))
    · exact .inr (.inr (.inr (.inr ⟨id, o, els, T, h1, h2, h3, h4.mono fun _ _ _ _ _ _ h _ => Own.up h, h5⟩)))
theorem Own.le {H : Heap} {d e : Nat} {a b : AVal} {S : List Id} (hd : d ≤ e) (h : Own H d a b S) : Own H e a b S := by
  induction hd with
  | refl => exact h
  | step _ ih => exact ih.up

mutual
theorem Tr.own {H : Heap} : ∀ {h : Sh} {a b : AVal} {S : List Id}, Tr H h a b S → Own H h.dep a b S
  | .c, _, _, _, h => by
    simp only [Tr] at h
    obtain ⟨x, rfl, rfl, rfl⟩ := h
    exact ⟨⟨x, rfl, rfl⟩, rfl⟩
  | .s l, a, b, S, h => by
    simp only [Tr] at h
    rcases h with ⟨rfl, rfl, rfl⟩ | ⟨id, els, es, T, rfl, rfl, h3, h4, h5, rfl⟩
    · exact .inr (.inr (.inr (.inl ⟨rfl, rfl, rfl⟩)))
    · exact .inr (.inr (.inr (.inr ⟨id, _, es, T, rfl, rfl, h3, rowsLL (l := l) (fun e f T h => Row.own h) h4, h5, rfl⟩)))
  | .a l, a, b, S, h => by
    simp only [Tr] at h
    obtain ⟨as, bs, rfl, rfl, h3⟩ := h
    exact .inr (.inl ⟨as, bs, rfl, rfl, Row.own h3⟩)
  | .t l, a, b, S, h => by
    simp only [Tr] at h
    obtain ⟨as, bs, rfl, rfl, h3⟩ := h
    exact .inr (.inr (.inl ⟨as, bs, rfl, rfl, Row.own h3⟩))
theorem Row.own {H : Heap} : ∀ {l : List Sh} {as bs : List AVal} {S : List Id}, Row H l as bs S → OwnL (Own H (Sh.depL l)) as bs S
  | [], [], [], _, h => by simp only [Row] at h; exact h
  | h :: l, _ :: _, _ :: _, _, hr => by
    simp only [Row] at hr
    obtain ⟨S1, S2, h1, h2, h3, h4⟩ := hr
    exact ⟨S1, S2, h1.own.le (Nat.le_max_left _ _), (Row.own h2).mono fun _ _ _ _ h _ => h.le (Nat.le_max_right _ _), h3, h4⟩
  | [], [], _ :: _, _, h => by simp [Row] at h
  | [], _ :: _, _, _, h => by simp [Row] at h
  | _ :: _, [], _, _, h => by simp [Row] at h
  | _ :: _, _ :: _, [], _, h => by simp [Row] at h
theorem rowsLL {H : Heap} {l : List Sh} {Q : AVal → AVal → List Id → Prop} (hr : ∀ (e f : List AVal) (T : List Id), Row H l e f T → OwnL Q e f T) : ∀ {as bs : List (List AVal)} {S : List Id}, rowsP (Row H l) as bs S → OwnLL Q as bs S
  | [], [], _, h => h
  | _ :: _, _ :: _, _, ⟨T1, T2, h1, h2, h3, h4⟩ => ⟨T1, T2, hr _ _ _ h1, rowsLL hr h2, h3, h4⟩
  | [], _ :: _, _, h => h.elim
  | _ :: _, [], _, h => h.elim
end

mutual
theorem Tr.sh {H H2 : Heap} {n : Nat} : ∀ {h : Sh} {a b : AVal} {S : List Id}, Tr H h a b S → (∀ i ∈ S, H2 (shId n i) = (H i).map (shOb n)) → Tr H2 h (shA n a) b (S.map (shId n))
  | .c, _, _, _, h, _ => by
    simp only [Tr] at h ⊢
    obtain ⟨x, rfl, rfl, rfl⟩ := h
    exact ⟨x, shA_v n x, rfl, rfl⟩
  | .s l, a, b, S, h, hf => by
    simp only [Tr] at h ⊢
    rcases h with ⟨rfl, rfl, rfl⟩ | ⟨id, els, es, T, rfl, rfl, h3, h4, h5, rfl⟩
    · exact .inl ⟨shA_v n _, rfl, rfl⟩
    · refine .inr ⟨shId n id, els.map fun e => e.map (shA n), es, T.map (shId n), by rw [shA_arr, List.length_map], rfl, by rw [hf id (by simp), h3]; rfl, ?_, ?_, rfl⟩
      · exact h4.map (shId_inj n) fun e d T' hr hs => Row.sh hr fun i hi => hf i (by simp [hs i hi])
      · intro hm
        obtain ⟨j, hj, he⟩ := List.mem_map.1 hm
        rw [shId_inj n _ _ he] at hj
        exact h5 hj
  | .a l, a, b, S, h, hf => by
    simp only [Tr] at h ⊢
    obtain ⟨as, bs, rfl, rfl, h3⟩ := h
    exact ⟨_, bs, shA_agg n as, rfl, Row.sh h3 hf⟩
  | .t l, a, b, S, h, hf => by
    simp only [Tr] at h ⊢
    obtain ⟨as, bs, rfl, rfl, h3⟩ := h
    exact ⟨_, bs, shA_tup n as, rfl, Row.sh h3 hf⟩
theorem Row.sh {H H2 : Heap} {n : Nat} : ∀ {l : List Sh} {as bs : List AVal} {S : List Id}, Row H l as bs S → (∀ i ∈ S, H2 (shId n i) = (H i).map (shOb n)) → Row H2 l (as.map (shA n)) bs (S.map (shId n))
  | [], [], [], _, h, _ => by simp only [Row] at h ⊢; subst h; simp [Row]
  | h :: l, _ :: _, _ :: _, _, hr, hf => by
    simp only [Row] at hr
    obtain ⟨S1, S2, h1, h2, rfl, h4⟩ := hr
    simp only [List.map_cons, Row]
    refine ⟨S1.map (shId n), S2.map (shId n), h1.sh fun i hi => hf i (by simp [hi]), Row.sh h2 fun i hi => hf i (by simp [hi]), by simp, fun i hi hm => ?_⟩
    obtain ⟨j, hj, rfl⟩ := List.mem_map.1 hi
    obtain ⟨j2, hj2, he⟩ := List.mem_map.1 hm
    rw [shId_inj n _ _ he] at hj2
    exact h4 j hj hj2
  | [], [], _ :: _, _, h, _ => by simp [Row] at h
  | [], _ :: _, _, _, h, _ => by simp [Row] at h
  | _ :: _, [], _, _, h, _ => by simp [Row] at h
  | _ :: _, _ :: _, [], _, h, _ => by simp [Row] at h
end
theorem Row.len {H : Heap} : ∀ {l : List Sh} {as bs : List AVal} {S : List Id}, Row H l as bs S → as.length = l.length ∧ bs.length = l.length
  | [], [], [], _, _ => ⟨rfl, rfl⟩
  | _ :: _, _ :: _, _ :: _, _, h => by
    simp only [Row] at h
    obtain ⟨_, _, _, h2, _, _⟩ := h
    have := Row.len h2
    simp [this.1, this.2]
  | [], [], _ :: _, _, h => by simp [Row] at h
  | [], _ :: _, _, _, h => by simp [Row] at h
  | _ :: _, [], _, _, h => by simp [Row] at h
  | _ :: _, _ :: _, [], _, h => by simp [Row] at h
theorem Row.append {H : Heap} : ∀ {l m : List Sh} {as bs cs ds : List AVal} {S T : List Id}, Row H l as bs S → Row H m cs ds T → (∀ i ∈ S, i ∉ T) → Row H (l ++ m) (as ++ cs) (bs ++ ds) (S ++ T)
  | [], m, [], [], _, _, _, _, h, k, _ => by simp only [Row] at h; subst h; simpa using k
  | _ :: _, _, _ :: _, _ :: _, _, _, _, T, h, k, hd => by
    simp only [Row] at h
    obtain ⟨S1, S2, h1, h2, rfl, h4⟩ := h
    simp only [List.cons_append, Row]
    refine ⟨S1, S2 ++ T, h1, Row.append h2 k (fun i hi => hd i (by simp [hi])), by simp, fun i hi hm => ?_⟩
    rcases List.mem_append.1 hm with hm | hm
    · exact h4 i hi hm
    · exact hd i (by simp [hi]) hm
  | [], _, [], _ :: _, _, _, _, _, h, _, _ => by simp [Row] at h
  | [], _, _ :: _, _, _, _, _, _, h, _, _ => by simp [Row] at h
  | _ :: _, _, [], _, _, _, _, _, h, _, _ => by simp [Row] at h
  | _ :: _, _, _ :: _, [], _, _, _, _, h, _, _ => by simp [Row] at h
theorem Row.split {H : Heap} : ∀ {l m : List Sh} {as bs : List AVal} {S : List Id}, Row H (l ++ m) as bs S → ∃ a1 a2 b1 b2 S1 S2, as = a1 ++ a2 ∧ bs = b1 ++ b2 ∧ Row H l a1 b1 S1 ∧ Row H m a2 b2 S2 ∧ S = S1 ++ S2 ∧ ∀ i ∈ S1, i ∉ S2
  | [], m, as, bs, S, h => ⟨[], as, [], bs, [], S, rfl, rfl, by simp [Row], h, rfl, by simp⟩
  | x :: l, m, a :: as, b :: bs, S, h => by
    simp only [List.cons_append, Row] at h
    obtain ⟨S1, S2, h1, h2, rfl, h4⟩ := h
    obtain ⟨a1, a2, b1, b2, T1, T2, rfl, rfl, p1, p2, rfl, p4⟩ := Row.split h2
    refine ⟨a :: a1, a2, b :: b1, b2, S1 ++ T1, T2, rfl, rfl, ?_, p2, by simp, fun i hi hm => ?_⟩
    · simp only [Row]
      exact ⟨S1, T1, h1, p1, rfl, fun i hi hm => h4 i hi (by simp [hm])⟩
    · rcases List.mem_append.1 hi with hi | hi
      · exact h4 i hi (by simp [hm])
      · exact p4 i hi hm
  | _ :: _, _, [], _, _, h => by simp [Row] at h
  | _ :: _, _, _ :: _, [], _, h => by simp [Row] at h
end Go.Ab

/- The abstract machine, part Sq: what a call owns, told apart: lists of own values; appending, reading, storing, handing over. -/
namespace Go.Ab
set_option linter.unusedSectionVars false
set_option linter.unusedSimpArgs false

abbrev OwnE := Sh × AVal × AVal

/-- Values of the call's own, with what each is read as; none meets another, nor one of the objects on a list. -/
def Sep (H : Heap) (n : Nat) (K : List OwnE) (ids : List Id) : Prop :=
  (∀ i ∈ ids, i.1 < n) ∧ ∃ S, Row H (K.map (·.1)) (K.map (·.2.1)) (K.map (·.2.2)) S ∧ ∀ i ∈ S, i.1 < n ∧ i ∉ ids

section
variable {H H' : Heap} {n n' : Nat} {K K1 K2 : List OwnE} {ids ids' : List Id}
theorem Sep.nil (h : ∀ i ∈ ids, i.1 < n) : Sep H n [] ids := ⟨h, [], by simp [Row], by simp⟩

theorem Sep.split (h : Sep H n (K1 ++ K2) ids) : (∀ i ∈ ids, i.1 < n) ∧ ∃ S1 S2, Row H (K1.map (·.1)) (K1.map (·.2.1)) (K1.map (·.2.2)) S1 ∧ Row H (K2.map (·.1)) (K2.map (·.2.1)) (K2.map (·.2.2)) S2 ∧ (∀ i ∈ S1, i ∉ S2) ∧ (∀ i ∈ S1, i.1 < n ∧ i ∉ ids) ∧ ∀ i ∈ S2, i.1 < n ∧ i ∉ ids := by
  obtain ⟨h0, S, h1, h2⟩ := h
  simp only [List.map_append] at h1
  obtain ⟨a1, a2, b1, b2, S1, S2, e1, e2, p1, p2, rfl, p4⟩ := Row.split h1
  have l1 := p1.len
  have ha : K1.map (·.2.1) = a1 ∧ K2.map (·.2.1) = a2 := List.append_inj e1 (by simpa using l1.1.symm)
  have hb : K1.map (·.2.2) = b1 ∧ K2.map (·.2.2) = b2 := List.append_inj e2 (by simpa using l1.2.symm)
  rw [ha.1, ha.2, hb.1, hb.2]
  exact ⟨h0, S1, S2, p1, p2, p4, fun i hi => h2 i (by simp [hi]), fun i hi => h2 i (by simp [hi])⟩

theorem Sep.join {S1 S2 : List Id} (h0 : ∀ i ∈ ids, i.1 < n) (p1 : Row H (K1.map (·.1)) (K1.map (·.2.1)) (K1.map (·.2.2)) S1) (p2 : Row H (K2.map (·.1)) (K2.map (·.2.1)) (K2.map (·.2.2)) S2) (hd : ∀ i ∈ S1, i ∉ S2)
    (h1 : ∀ i ∈ S1, i.1 < n ∧ i ∉ ids) (h2 : ∀ i ∈ S2, i.1 < n ∧ i ∉ ids) : Sep H n (K1 ++ K2) ids :=
  ⟨h0, S1 ++ S2, by simp only [List.map_append]; exact p1.append p2 hd, fun i hi => by
    rcases List.mem_append.1 hi with hi | hi
    · exact h1 i hi
    · exact h2 i hi⟩

/-- The order is free. -/
theorem Sep.swap (h : Sep H n (K1 ++ K2) ids) : Sep H n (K2 ++ K1) ids := by
  obtain ⟨h0, S1, S2, p1, p2, hd, q1, q2⟩ := h.split
  exact Sep.join h0 p2 p1 (fun i hi hm => hd i hm hi) q2 q1
theorem Sep.left (h : Sep H n (K1 ++ K2) ids) : Sep H n K1 ids := by
  obtain ⟨h0, S1, S2, p1, p2, hd, q1, q2⟩ := h.split
  exact ⟨h0, S1, p1, q1⟩
theorem Sep.right (h : Sep H n (K1 ++ K2) ids) : Sep H n K2 ids := h.swap.left
theorem Sep.front {x : OwnE} (h : Sep H n (K1 ++ x :: K2) ids) : Sep H n (x :: (K1 ++ K2)) ids := by
  obtain ⟨h0, S1, S2, p1, p2, hd, q1, q2⟩ := h.split
  simp only [List.map_cons, Row] at p2
  obtain ⟨T1, T2, r1, r2, rfl, r4⟩ := p2
  refine ⟨h0, T1 ++ (S1 ++ T2), ?_, fun i hi => ?_⟩
  · simp only [List.map_cons, List.map_append, Row]
    refine ⟨T1, S1 ++ T2, r1, p1.append r2 (fun i hi hm => hd i hi (by simp [hm])), rfl, fun i hi hm => ?_⟩
    rcases List.mem_append.1 hm with hm | hm
    · exact hd i hm (by simp [hi])
    · exact r4 i hi hm
  · simp only [List.mem_append] at hi
    rcases hi with hi | hi | hi
    · exact q2 i (by simp [hi])
    · exact q1 i hi
    · exact q2 i (by simp [hi])

/-- What is not owned may be turned. -/
theorem Sep.keep (h : Sep H n K ids) (hn : n ≤ n') (hH : ∀ i : Id, i.1 < n → i ∉ ids → H' i = H i) (hi : ∀ i ∈ ids', (i ∈ ids ∨ n ≤ i.1) ∧ i.1 < n') : Sep H' n' K ids' := by
  obtain ⟨_, S, h1, h2⟩ := h
  refine ⟨fun i h => (hi i h).2, S, h1.frame fun i hs => hH i (h2 i hs).1 (h2 i hs).2, fun i hs => ⟨by have := (h2 i hs).1; omega, fun hm => ?_⟩⟩
  rcases (hi i hm).1 with h | h
  · exact (h2 i hs).2 h
  · have := (h2 i hs).1; omega

theorem Sep.scalar {v : AVal} {x : Value} (h : Sep H n ((.c, v, .v x) :: K) ids) : v = .v x ∧ Sep H n K ids := by
  obtain ⟨h0, S, h1, h2⟩ := h
  simp only [List.map_cons, Row, Tr] at h1
  obtain ⟨S1, S2, ⟨y, e1, e2, rfl⟩, p2, rfl, _⟩ := h1
  cases e2
  exact ⟨e1, h0, _, p2, fun i hi => h2 i (by simpa using hi)⟩
theorem Sep.addScalar (x : Value) (h : Sep H n K ids) : Sep H n ((.c, .v x, .v x) :: K) ids := by
  obtain ⟨h0, S, h1, h2⟩ := h
  exact ⟨h0, S, by simp only [List.map_cons, Row, Tr]; exact ⟨[], S, ⟨x, rfl, rfl, rfl⟩, h1, rfl, by simp⟩, h2⟩

/-- A slice: nil, or an array. -/
theorem Sep.form {l : List Sh} {v e : AVal} (h : Sep H n ((.s l, v, e) :: K) ids) : one1 v = true ∧ ∃ es, e = .list true es ∧ ((v = .v (.slice none 0 0) ∧ es = []) ∨ ∃ id els, v = .arr id es.length 0 es.length ∧ els.length = es.length ∧ H id = some ⟨l.length, els⟩ ∧ id.1 < n ∧ id ∉ ids) := by
  obtain ⟨h0, S, h1, h2⟩ := h
  simp only [List.map_cons, Row, Tr] at h1
  obtain ⟨S1, S2, h3, _, rfl, _⟩ := h1
  rcases h3 with ⟨rfl, rfl, rfl⟩ | ⟨id, els, es, T, rfl, rfl, p3, p4, p5, rfl⟩
  · exact ⟨rfl, [], rfl, .inl ⟨rfl, rfl⟩⟩
  · have hl := p4.len
    exact ⟨rfl, es, rfl, .inr ⟨id, els, by rw [hl], hl, p3, (h2 id (by simp)).1, (h2 id (by simp)).2⟩⟩

/-- Cells of a row: plain ones, and own ones. -/
inductive Fill : List Sh → List OwnE → List AVal → List AVal → Prop
  | nil : Fill [] [] [] []
  | v {l : List Sh} {K : List OwnE} {as bs : List AVal} (x : Value) (h : Fill l K as bs) : Fill (.c :: l) K (.v x :: as) (.v x :: bs)
  | own {l : List Sh} {K : List OwnE} {as bs : List AVal} {t : Sh} {a b : AVal} (h : Fill l K as bs) : Fill (t :: l) ((t, a, b) :: K) (a :: as) (b :: bs)

theorem Fill.row {l : List Sh} {as bs : List AVal} (h : Fill l K as bs) : ∀ {S : List Id}, Row H (K.map (·.1)) (K.map (·.2.1)) (K.map (·.2.2)) S → Row H l as bs S := by
  induction h with
  | nil => intro S h; simpa using h
  | v x _ ih => intro S h; simp only [Row, Tr]; exact ⟨[], S, ⟨x, rfl, rfl, rfl⟩, ih h, rfl, by simp⟩
  | own _ ih =>
    intro S h
    simp only [List.map_cons, Row] at h ⊢
    obtain ⟨S1, S2, h1, h2, h3, h4⟩ := h
    exact ⟨S1, S2, h1, ih h2, h3, h4⟩
theorem Row.fill {l : List Sh} {as bs : List AVal} {S : List Id} (h : Row H l as bs S) (hf : ∀ t ∈ l, t = .c) : as = bs ∧ S = [] ∧ ∀ a ∈ as, flat a = true := by
  induction l generalizing as bs S with
  | nil =>
    match as, bs, h with
    | [], [], h => simp only [Row] at h; exact ⟨rfl, h, by simp⟩
    | [], _ :: _, h => simp [Row] at h
    | _ :: _, _, h => simp [Row] at h
  | cons t l ih =>
    match as, bs, h with
    | a :: as, b :: bs, h =>
      obtain rfl := hf t (by simp)
      simp only [Row, Tr] at h
      obtain ⟨S1, S2, ⟨x, rfl, rfl, rfl⟩, h2, rfl, _⟩ := h
      obtain ⟨rfl, rfl, h3⟩ := ih h2 (fun t ht => hf t (by simp [ht]))
      refine ⟨rfl, rfl, fun a ha => ?_⟩
      rcases List.mem_cons.1 ha with rfl | ha
      · rfl
      · exact h3 a ha
    | [], _, h => simp [Row] at h
    | _ :: _, [], h => simp [Row] at h
theorem rowsP.flats {l : List Sh} {es : List (List AVal)} (h : ∀ e ∈ es, e.length = l.length ∧ ∀ a ∈ e, flat a = true) (hf : ∀ t ∈ l, t = .c) : rowsP (Row H l) es es [] := by
  induction es with
  | nil => rfl
  | cons e es ih =>
    refine ⟨[], [], ?_, ih fun f hf => h f (by simp [hf]), rfl, by simp⟩
    obtain ⟨h1, h2⟩ := h e (by simp)
    clear ih h
    induction l generalizing e with
    | nil => cases e with
      | nil => simp [Row]
      | cons => simp at h1
    | cons t l ih =>
      cases e with
      | nil => simp at h1
      | cons a e =>
        obtain rfl := hf t (by simp)
        have ha := h2 a (by simp)
        cases a <;> simp [flat] at ha
        simp only [Row, Tr]
        exact ⟨[], [], ⟨_, rfl, rfl, rfl⟩, ih (fun t ht => hf t (by simp [ht])) e (by simpa using h1) (fun a ha => h2 a (by simp [ha])), rfl, by simp⟩
end

section
variable {H : Heap} {n : Nat} {K K1 K2 : List OwnE} {ids : List Id} {Ty : Types} {t : TypeId} {j : TI} {l : List Sh} {v : AVal} {es : List (List AVal)}

/-- APPEND. -/
theorem Sep.append {d : Nat} {x : AVal} {add adds : List (List AVal)} (h : Sep H n ((.s l, v, .list true es) :: (K1 ++ K2)) ids) (hk : kd Ty t = .slice j) (hj : j.size = l.length) (hz : j.zero.length = j.size ∧ j.bytes ≤ 131072)
    (hx : srcOf H x = some add) (ho : add.all (fun e => e.all one1) = true) (hadd : ∀ S, Row H (K1.map (·.1)) (K1.map (·.2.1)) (K1.map (·.2.2)) S → rowsP (Row H l) add adds S) (hne : adds ≠ []) (hlen : es.length + adds.length ≤ 1073741824) :
    ∃ v' H' n', appendF Ty (some d) t v x H n = some (v', H', n') ∧ Sep H' n' ((.s l, v', .list true (es ++ adds)) :: K2) ids ∧ (∀ i ∈ ids, H' i = H i) ∧ n ≤ n' := by
  obtain ⟨h0, S, h1, h2⟩ := h
  simp only [List.map_cons, Row] at h1
  obtain ⟨T1, T2, r1, r2, rfl, r4⟩ := h1
  simp only [List.map_append] at r2
  obtain ⟨a1, a2, b1, b2, U1, U2, e1, e2, p1, p2, rfl, p4⟩ := Row.split r2
  have l1 := p1.len
  have ha : K1.map (·.2.1) = a1 ∧ K2.map (·.2.1) = a2 := List.append_inj e1 (by simpa using l1.1.symm)
  have hb : K1.map (·.2.2) = b1 ∧ K2.map (·.2.2) = b2 := List.append_inj e2 (by simpa using l1.2.symm)
  obtain ⟨rfl, rfl⟩ := ha
  obtain ⟨rfl, rfl⟩ := hb
  have hr := hadd _ p1
  have hal := hr.len
  have hsz : add.all (fun e => e.length == j.size) = true := by
    rw [List.all_eq_true]
    intro e he
    have : ∀ {as bs : List (List AVal)} {S : List Id}, rowsP (Row H l) as bs S → ∀ e ∈ as, e.length = l.length := by
      intro as
      induction as with
      | nil => intro _ _ _ e he; cases he
      | cons a as ih =>
        intro bs S hr e he
        match bs, hr with
        | b :: bs, ⟨_, _, q1, q2, _, _⟩ =>
          rcases List.mem_cons.1 he with rfl | he
          · exact q1.len.1
          · exact ih q2 e he
        | [], hr => exact hr.elim
    simp [this hr e he, hj]
  simp only [Tr] at r1
  have hadd0 : add.length ≠ 0 := by
    rw [hal]
    intro h
    exact hne (List.eq_nil_of_length_eq_zero h)
  rcases r1 with ⟨rfl, he, rfl⟩ | ⟨id, els, es', T, rfl, he, q3, q4, q5, rfl⟩
  · injection he with _ he
    subst he
    refine ⟨.arr (n, d) add.length 0 add.length, H.set (n, d) ⟨j.size, add⟩, n + 1, ?_, ?_, fun i hi => ?_, by omega⟩
    · simp only [appendF, hk, hx]
      rw [if_pos ⟨hz.1, hz.2, hsz, ho⟩, if_neg hadd0, if_pos (by rw [hal]; simpa using hlen)]
    · have hnew : ∀ i ∈ U1 ++ U2, i ≠ (n, d) := fun i hi he => by
        have := (h2 i (by simpa using hi)).1
        rw [he] at this
        simp at this
      refine ⟨fun i hi => by have := h0 i hi; omega, (n, d) :: U1 ++ U2, ?_, fun i hi => ?_⟩
      · simp only [List.map_cons, Row, Tr]
        refine ⟨(n, d) :: U1, U2, .inr ⟨(n, d), add, adds, U1, rfl, by simp, by simp [Heap.get_set, hj], ?_, fun hm => hnew _ (by simp [hm]) rfl, rfl⟩, p2.frame fun i hi => ?_, rfl, fun i hi hm => ?_⟩
        · exact hr.mono fun e f T' hr hs => hr.frame fun i hi => Heap.get_set_ne _ _ (hnew i (by simp [hs i hi]))
        · exact Heap.get_set_ne _ _ (hnew i (by simp [hi]))
        · rcases List.mem_cons.1 hi with rfl | hi
          · exact hnew _ (by simp [hm]) rfl
          · exact p4 i hi hm
      · simp only [List.cons_append, List.mem_cons] at hi
        rcases hi with rfl | hi
        · exact ⟨by simp, fun hm => by have := h0 _ hm; simp at this⟩
        · have := h2 i (by simpa using hi)
          exact ⟨by omega, this.2⟩
    · refine Heap.get_set_ne _ _ fun he => ?_
      have := h0 i hi
      rw [he] at this
      simp at this
  · injection he with _ he
    subst he
    have hel := q4.len
    refine ⟨.arr id (els.length + add.length) 0 (els.length + add.length), H.set id ⟨j.size, els ++ add⟩, n, ?_, ?_, fun i hi => ?_, Nat.le_refl _⟩
    · simp only [appendF, hk, hx]
      rw [if_pos ⟨hz.1, hz.2, hsz, ho⟩]
      simp only [live, q3, ↓reduceIte]
      rw [if_pos ⟨trivial, trivial, hj.symm, by rw [hel, hal]; exact hlen⟩]
    · have hnid : ∀ i ∈ U1 ++ U2, i ≠ id := fun i hi he => by
        subst he
        exact r4 i (by simp) (by simpa using hi)
      have hnT : ∀ i ∈ T, i ≠ id := fun i hi he => by subst he; exact q5 hi
      refine ⟨h0, (id :: (T ++ U1)) ++ U2, ?_, fun i hi => h2 i ?_⟩
      · simp only [List.map_cons, Row, Tr]
        refine ⟨id :: (T ++ U1), U2, .inr ⟨id, els ++ add, es ++ adds, T ++ U1, by simp, rfl, by simp [Heap.get_set, hj], ?_, fun hm => ?_, rfl⟩, p2.frame fun i hi => ?_, rfl, fun i hi hm => ?_⟩
        · refine rowsP.append (q4.mono fun e f T' hr hs => hr.frame fun i hi => Heap.get_set_ne _ _ (hnT i (hs i hi))) (hr.mono fun e f T' hr hs => hr.frame fun i hi => Heap.get_set_ne _ _ (hnid i (by simp [hs i hi]))) (fun i hi hm => r4 i (by simp [hi]) (by simp [hm]))
        · rcases List.mem_append.1 hm with hm | hm
          · exact q5 hm
          · exact hnid id (by simp [hm]) rfl
        · exact Heap.get_set_ne _ _ (hnid i (by simp [hi]))
        · rcases List.mem_cons.1 hi with rfl | hi
          · exact hnid i (by simp [hm]) rfl
          · rcases List.mem_append.1 hi with hi | hi
            · exact r4 i (by simp [hi]) (by simp [hm])
            · exact p4 i hi hm
      · simp only [List.cons_append, List.mem_cons, List.mem_append] at hi ⊢
        rcases hi with h | (h | h) | h <;> simp [h]
    · refine Heap.get_set_ne _ _ fun he => ?_
      subst he
      exact (h2 i (by simp)).2 hi

/-- AN INDEX. -/
theorem Sep.index {k : IntKind} {i : Int} (h : Sep H n ((.s l, v, .list true es) :: K) ids) (hk : kd Ty t = .slice j) (hj : j.size = l.length) (hb : 0 ≤ i ∧ i < es.length) :
    ∃ id, v = .arr id es.length 0 es.length ∧ indexAddrF Ty H t v (.v (.int k i)) = some (.ptr id es.length i.toNat 0) := by
  obtain ⟨_, es', he, hv⟩ := h.form
  injection he with _ he
  subst he
  rcases hv with ⟨rfl, rfl⟩ | ⟨id, els, rfl, hl, hH, _⟩
  · simp at hb; omega
  · refine ⟨id, rfl, ?_⟩
    have := ix_arr (H := H) (Ty := Ty) (t := t) (id := id) (g := es.length) (off := 0) (len := es.length) (sz := l.length) (els := els) (k := k) (i := i) hk hH hl hj.symm hb
    simpa using this

/-- A row of plain cells, read. -/
theorem Sep.view {id : Id} {g p off : Nat} {i : Int} {α : Type} [Inhabited α] {f : α → List AVal} {xs : List α} {x : α} (h : Sep H n ((.s l, .arr id g 0 g, .list true (xs.map f)) :: K) ids) (hf : ∀ t ∈ l, t = .c) (hb : 0 ≤ i ∧ i < xs.length) (hx : x = at' xs i) (hp : p = i.toNat) :
    viewOf H (.ptr id g p off) = some ((f x).drop off) := by
  obtain ⟨h0, S, h1, h2⟩ := h
  simp only [List.map_cons, Row, Tr] at h1
  obtain ⟨S1, S2, h3, _, rfl, _⟩ := h1
  rcases h3 with ⟨e, _⟩ | ⟨id', els, es', T, e, he, q3, q4, q5, rfl⟩
  · cases e
  · cases e
    injection he with _ he
    subst he
    have hel : els = xs.map f := by
      have : ∀ {as bs : List (List AVal)} {S : List Id}, rowsP (Row H l) as bs S → as = bs := by
        intro as
        induction as with
        | nil => intro bs S hr; match bs, hr with
          | [], _ => rfl
          | _ :: _, hr => exact hr.elim
        | cons a as ih =>
          intro bs S hr
          match bs, hr with
          | b :: bs, ⟨_, _, q1, q2, _, _⟩ => rw [(q1.fill hf).1, ih q2]
          | [], hr => exact hr.elim
      exact this q4
    subst hel
    exact view_arr q3 rfl hb hx hp

/-- A whole element, stored. -/
theorem Sep.store {id : Id} {g : Nat} {k : Nat} {i : TI} {new news : List AVal} (h : Sep H n ((.s l, .arr id g 0 g, .list true es) :: (K1 ++ K2)) ids) (hi : i.size = l.length) (hk : k < es.length) (hg : g = es.length) (hone : new.all one1 = true)
    (hf : Fill l K1 new news) : ∃ H', storeF (some i) (.ptr id g k 0) (some new) H = some H' ∧ Sep H' n ((.s l, .arr id g 0 g, .list true (es.set k news)) :: K2) ids ∧ ∀ i ∈ ids, H' i = H i := by
  obtain ⟨h0, S, h1, h2⟩ := h
  simp only [List.map_cons, Row] at h1
  obtain ⟨T1, T2, r1, r2, rfl, r4⟩ := h1
  simp only [List.map_append] at r2
  obtain ⟨a1, a2, b1, b2, U1, U2, e1, e2, p1, p2, rfl, p4⟩ := Row.split r2
  have l1 := p1.len
  have ha : K1.map (·.2.1) = a1 ∧ K2.map (·.2.1) = a2 := List.append_inj e1 (by simpa using l1.1.symm)
  have hb : K1.map (·.2.2) = b1 ∧ K2.map (·.2.2) = b2 := List.append_inj e2 (by simpa using l1.2.symm)
  obtain ⟨rfl, rfl⟩ := ha
  obtain ⟨rfl, rfl⟩ := hb
  have hrow := hf.row p1
  have hnl : new.length = l.length := hrow.len.1
  simp only [Tr] at r1
  rcases r1 with ⟨e, _⟩ | ⟨id', els, es', T, e, he, q3, q4, q5, rfl⟩
  · cases e
  · injection e with e1 e2 e3 e4
    subst e1
    injection he with _ he
    subst he
    have hel := q4.len
    have hkel : k < els.length := by omega
    obtain ⟨e0, f0, Tk, Uk, s1, s2, s3, s4, s5, s6, s7⟩ := q4.at hkel
    have he0 : els[k] = e0 := by
      rw [List.getElem?_eq_getElem hkel] at s1
      exact Option.some.inj s1
    have hnid : ∀ i ∈ U1 ++ U2, i ≠ id := fun i hi he => by
      subst he
      exact r4 i (by simp) (by simpa using hi)
    have hnT : ∀ i ∈ T, i ≠ id := fun i hi he => by subst he; exact q5 hi
    let H' := H.set id (Ob.write ⟨l.length, els⟩ k 0 new)
    have hw : (Ob.write ⟨l.length, els⟩ k 0 new) = ⟨l.length, els.set k new⟩ := by
      have hlen0 : e0.length = l.length := s3.len.1
      have h3 : els[k]? = some e0 := s1
      simp only [Ob.write, Ob.mk.injEq, true_and]
      simp [h3, hkel, he0, splice, hnl, hlen0, List.drop_eq_nil_of_le (Nat.le_of_eq hlen0)]
    refine ⟨H', ?_, ?_, fun i hi => ?_⟩
    · simp only [storeF, live, q3]
      rw [if_pos (by omega)]
      simp only
      rw [if_pos ⟨by omega, by omega, by omega, hone⟩]
    · obtain ⟨S', w1, w2⟩ := s7 (Row H' l) new news U1 (hrow.frame fun i hi => Heap.get_set_ne _ _ (hnid i (by simp [hi]))) (fun e f T' hr hs => hr.frame fun i hi => Heap.get_set_ne _ _ (hnT i (s6 i (hs i hi)))) (fun i hi hm => r4 i (by simp [s6 i hm]) (by simp [hi]))
      have hS' : ∀ i ∈ S', i ∈ U1 ∨ i ∈ T := fun i hi => (w2 i hi).imp_right (s6 i)
      refine ⟨h0, (id :: S') ++ U2, ?_, fun i hi => ?_⟩
      · simp only [List.map_cons, Row, Tr]
        refine ⟨id :: S', U2, .inr ⟨id, els.set k new, es.set k news, S', by simp; omega, rfl, ?_, w1, fun hm => ?_, rfl⟩, p2.frame fun i hi => ?_, rfl, fun i hi hm => ?_⟩
        · show H.set id _ id = _
          rw [Heap.get_set_self, hw]
        · rcases hS' id hm with h | h
          · exact hnid id (by simp [h]) rfl
          · exact hnT id h rfl
        · exact Heap.get_set_ne _ _ (hnid i (by simp [hi]))
        · rcases List.mem_cons.1 hi with rfl | hi
          · exact hnid i (by simp [hm]) rfl
          · rcases hS' i hi with h | h
            · exact p4 i h hm
            · exact r4 i (by simp [h]) (by simp [hm])
      · simp only [List.cons_append, List.mem_cons, List.mem_append] at hi
        rcases hi with rfl | hi | hi
        · exact h2 i (by simp)
        · rcases hS' i hi with h | h
          · exact h2 i (by simp [h])
          · exact h2 i (by simp [h])
        · exact h2 i (by simp [hi])
    · refine Heap.get_set_ne _ _ fun he => ?_
      subst he
      exact (h2 i (by simp)).2 hi
end
end Go.Ab

/- The abstract machine, part Sr: contracts of functions whose results the caller owns, and of those that turn what a caller owns. -/
namespace Go.Ab
set_option linter.unusedSectionVars false
set_option linter.unusedSimpArgs false

/-- A function that makes its result anew: the caller owns it. -/
def OwnS (P : Program) (f : FuncId) (args : List AVal) (h : Sh) (R : AVal → Prop) : Prop := CallsA P f args noHeap 0 fun v H n => ∃ r, Sep H n [(h, v, r)] [] ∧ R r

theorem OwnS.mono {P : Program} {f : FuncId} {args : List AVal} {h : Sh} {R R' : AVal → Prop} (hc : OwnS P f args h R) (hr : ∀ r, R r → R' r) : OwnS P f args h R' := by
  unfold OwnS at *
  exact CallsA.mono hc fun _ _ _ ⟨r, h1, h2⟩ => ⟨r, h1, hr r h2⟩

section
variable {H : Heap} {n : Nat} {K : List OwnE} {ids : List Id} {h : Sh} {v r : AVal}
theorem Sep.tr (hs : Sep H n ((h, v, r) :: K) ids) : ∃ S, Tr H h v r S := by
  obtain ⟨_, S, h1, _⟩ := hs
  simp only [List.map_cons, Row] at h1
  obtain ⟨S1, _, h1, _⟩ := h1
  exact ⟨S1, h1⟩
theorem Sep.argOk (hs : Sep H n ((h, v, r) :: K) ids) : ArgOk H n v (old r) := by
  obtain ⟨S, h1⟩ := hs.tr
  exact ArgOk.own h1.own
theorem Sep.argOk' {b : AVal} (hs : Sep H n ((h, v, r) :: K) ids) (e : old r = b) : ArgOk H n v b := e ▸ hs.argOk
theorem Sep.ret (hs : Sep H n ((h, v, r) :: K) ids) : Ret H v r := by
  obtain ⟨S, h1⟩ := hs.tr
  exact h1.own.ret

theorem Sep.pack {l : List Sh} {K1 : List OwnE} {as bs : List AVal} (hf : Fill l K1 as bs) (hs : Sep H n (K1 ++ K) ids) : Sep H n ((.a l, .agg as, .agg bs) :: K) ids := by
  obtain ⟨h0, S1, S2, p1, p2, hd, q1, q2⟩ := hs.split
  refine ⟨h0, S1 ++ S2, ?_, fun i hi => ?_⟩
  · simp only [List.map_cons, Row, Tr]
    exact ⟨S1, S2, ⟨as, bs, rfl, rfl, hf.row p1⟩, p2, rfl, hd⟩
  · rcases List.mem_append.1 hi with hi | hi
    · exact q1 i hi
    · exact q2 i hi
theorem Sep.packT {l : List Sh} {K1 : List OwnE} {as bs : List AVal} (hf : Fill l K1 as bs) (hs : Sep H n (K1 ++ K) ids) : Sep H n ((.t l, .tup as, .tup bs) :: K) ids := by
  obtain ⟨h0, S1, S2, p1, p2, hd, q1, q2⟩ := hs.split
  refine ⟨h0, S1 ++ S2, ?_, fun i hi => ?_⟩
  · simp only [List.map_cons, Row, Tr]
    exact ⟨S1, S2, ⟨as, bs, rfl, rfl, hf.row p1⟩, p2, rfl, hd⟩
  · rcases List.mem_append.1 hi with hi | hi
    · exact q1 i hi
    · exact q2 i hi

def zip3 : List Sh → List AVal → List AVal → List OwnE
  | h :: l, a :: as, b :: bs => (h, a, b) :: zip3 l as bs
  | _, _, _ => []
theorem zip3_maps : ∀ {l : List Sh} {as bs : List AVal}, as.length = l.length → bs.length = l.length → (zip3 l as bs).map (·.1) = l ∧ (zip3 l as bs).map (·.2.1) = as ∧ (zip3 l as bs).map (·.2.2) = bs
  | [], [], [], _, _ => ⟨rfl, rfl, rfl⟩
  | h :: l, a :: as, b :: bs, h1, h2 => by
    obtain ⟨p, q, r⟩ := zip3_maps (l := l) (as := as) (bs := bs) (by simpa using h1) (by simpa using h2)
    simp [zip3, p, q, r]
  | [], [], _ :: _, _, h => by simp at h
  | [], _ :: _, _, h, _ => by simp at h
  | _ :: _, [], _, h, _ => by simp at h
  | _ :: _, _ :: _, [], _, h => by simp at h

theorem Sep.unrow {l : List Sh} {bs : List AVal} {S1 S2 : List Id} {as : List AVal} (h0 : ∀ i ∈ ids, i.1 < n) (p1 : Row H l as bs S1) (p2 : Row H (K.map (·.1)) (K.map (·.2.1)) (K.map (·.2.2)) S2) (hd : ∀ i ∈ S1, i ∉ S2) (hS : ∀ i ∈ S1 ++ S2, i.1 < n ∧ i ∉ ids) :
    Sep H n (zip3 l as bs ++ K) ids := by
  obtain ⟨e1, e2⟩ := p1.len
  obtain ⟨z1, z2, z3⟩ := zip3_maps e1 e2
  refine Sep.join h0 (S1 := S1) (S2 := S2) ?_ p2 hd (fun i hi => hS i (by simp [hi])) (fun i hi => hS i (by simp [hi]))
  rw [z1, z2, z3]
  exact p1
theorem Sep.unpack {l : List Sh} {bs : List AVal} (hs : Sep H n ((.a l, v, .agg bs) :: K) ids) : ∃ as, v = .agg as ∧ as.length = l.length ∧ Sep H n (zip3 l as bs ++ K) ids := by
  obtain ⟨h0, S, h1, h2⟩ := hs
  simp only [List.map_cons, Row, Tr] at h1
  obtain ⟨S1, S2, ⟨as, bs', rfl, hb, p1⟩, p2, rfl, p4⟩ := h1
  cases hb
  exact ⟨as, rfl, p1.len.1, Sep.unrow h0 p1 p2 p4 h2⟩
theorem Sep.unpackT {l : List Sh} {bs : List AVal} (hs : Sep H n ((.t l, v, .tup bs) :: K) ids) : ∃ as, v = .tup as ∧ as.length = l.length ∧ Sep H n (zip3 l as bs ++ K) ids := by
  obtain ⟨h0, S, h1, h2⟩ := hs
  simp only [List.map_cons, Row, Tr] at h1
  obtain ⟨S1, S2, ⟨as, bs', rfl, hb, p1⟩, p2, rfl, p4⟩ := h1
  cases hb
  exact ⟨as, rfl, p1.len.1, Sep.unrow h0 p1 p2 p4 h2⟩

/-- An array of plain cells that has been told in the heap. -/
theorem Sep.ofArr {l : List Sh} {id : Id} {g : Nat} {els : List (List AVal)} (h0 : ∀ i ∈ ids, i.1 < n) (hid : H id = some ⟨l.length, els⟩) (hg : els.length = g) (hn : id.1 < n) (hi : id ∉ ids) (hl : ∀ e ∈ els, e.length = l.length ∧ ∀ a ∈ e, flat a = true) (hf : ∀ t ∈ l, t = .c) :
    Sep H n [(.s l, .arr id g 0 g, .list true els)] ids := by
  subst hg
  refine ⟨h0, [id], ?_, fun i hi' => by simp at hi'; subst hi'; exact ⟨hn, hi⟩⟩
  simp only [List.map_cons, List.map_nil, Row, Tr]
  exact ⟨[id], [], .inr ⟨id, els, els, [], rfl, rfl, hid, rowsP.flats hl hf, by simp, rfl⟩, rfl, rfl, by simp⟩
/-- An empty array. -/
theorem Sep.ofEmpty {l : List Sh} {id : Id} (h0 : ∀ i ∈ ids, i.1 < n) (hid : H id = some ⟨l.length, []⟩) (hn : id.1 < n) (hi : id ∉ ids) : Sep H n [(.s l, .arr id 0 0 0, .list true [])] ids := by
  refine ⟨h0, [id], ?_, fun i hi' => by simp at hi'; subst hi'; exact ⟨hn, hi⟩⟩
  simp only [List.map_cons, List.map_nil, Row, Tr]
  exact ⟨[id], [], .inr ⟨id, [], [], [], rfl, rfl, hid, rfl, by simp, rfl⟩, rfl, rfl, by simp⟩
theorem Sep.addNil {l : List Sh} (hs : Sep H n K ids) : Sep H n ((.s l, .v (.slice none 0 0), .list true []) :: K) ids := by
  obtain ⟨h0, S, h1, h2⟩ := hs
  exact ⟨h0, S, by simp only [List.map_cons, Row, Tr]; exact ⟨[], S, .inl ⟨trivial, trivial, rfl⟩, h1, rfl, by simp⟩, h2⟩
/-- An array made anew. -/
theorem Sep.addNew {l : List Sh} {d : Nat} {els es : List (List AVal)} (hs : Sep H n K ids) (hl : rowsP (Row (H.set (n, d) ⟨l.length, els⟩) l) els es []) : Sep (H.set (n, d) ⟨l.length, els⟩) (n + 1) ((.s l, .arr (n, d) els.length 0 els.length, .list true es) :: K) ids := by
  obtain ⟨h0, S, h1, h2⟩ := hs
  have hne : ∀ i ∈ S, i ≠ (n, d) := fun i hi he => by have := (h2 i hi).1; rw [he] at this; simp at this
  refine ⟨fun i hi => by have := h0 i hi; omega, (n, d) :: S, ?_, fun i hi => ?_⟩
  · simp only [List.map_cons, Row, Tr]
    refine ⟨[(n, d)], S, .inr ⟨(n, d), els, es, [], rfl, rfl, by simp [Heap.get_set], hl, by simp, rfl⟩, h1.frame fun i hi => Heap.get_set_ne _ _ (hne i hi), rfl, fun i hi hm => ?_⟩
    simp at hi
    exact hne i hm hi
  · rcases List.mem_cons.1 hi with rfl | hi
    · exact ⟨by simp, fun hm => by have := h0 _ hm; simp at this⟩
    · have := h2 i hi
      exact ⟨by omega, this.2⟩
end

theorem OwnS.pure {P : Program} {f : FuncId} {args : List AVal} {h : Sh} {R : AVal → Prop} (hc : OwnS P f args h R) : PureC P f args R := by
  unfold OwnS at hc
  exact CallsA.mono hc fun _ _ _ ⟨r, h1, hR⟩ => ⟨r, .of h1.ret, hR⟩

theorem OpSem.callW {P : Program} {N : Nat} {d : Option Tmp} {g : Operand} {args : Array Operand} {ats : Array TypeId} {ty : TypeId} {pos : String} {af : Array Edge} {gu : Option (Nat × Bool)} {ρ : Env} {H : Heap} {n : Nat} {R : AVal → Prop} {K : List OwnE} {ids : List Id}
    {f : FuncId} {args' : List AVal} {sh : Sh} (hg : ρ.ev g = .fn (.func f) [] []) (hent : Ent P f) (ha : ArgsOk H n (args.toList.map ρ.ev) args') (h : OwnS P f args' sh R) (hs : Sep H n K ids) :
    OpSem P N ⟨d, .call ⟨.value g, args, ats⟩, ty, pos, af, gu⟩ ρ H n fun v1 H1 n1 => ∃ r, Sep H1 n1 ((sh, v1, r) :: K) ids ∧ R r ∧ n ≤ n1 ∧ ∀ i ∈ ids, H1 i = H i := by
  classical
  refine OpSem.call hg hent ?_
  intro c xs hH hn gd hl
  simp only [List.nil_append, List.append_nil] at hl
  have hb : Good ⟨c.w.heap.size, fun _ => 0, noHeap, 0, c.w⟩ := good_bare c.w
  obtain ⟨hlen, hget⟩ := ha.get
  have hrep : RepL ⟨c.w.heap.size, fun _ => 0, noHeap, 0, c.w⟩ args' xs := by
    refine ⟨by rw [← hlen]; exact hl.1, fun i b x hb' hx => ?_⟩
    have hi := (List.getElem?_eq_some_iff.1 hb').1
    have ha' : (args.toList.map ρ.ev)[i]? = some ((args.toList.map ρ.ev)[i]'(by omega)) := List.getElem?_eq_getElem (by omega)
    exact hget i _ b ha' hb' c x hH hn gd (hl.2 i _ x ha' hx) _ rfl (fun _ => rfl)
  refine (h _ xs rfl rfl hb hrep).mono ?_
  rintro e w' ⟨x, v, c1, he, hw, ⟨r, hsep, hR⟩, hrv, hg1, hk⟩
  subst hw
  obtain ⟨_, S, h1, h2⟩ := hsep
  simp only [List.map_cons, List.map_nil, Row] at h1
  obtain ⟨S1, S2, hT, hS2, rfl, _⟩ := h1
  subst hS2
  simp only [List.append_nil] at h2
  have hO := hT.own
  have hKS : ∀ i : Id, (fun i : Id => decide (i ∈ S1)) i = true ↔ i ∈ S1 := fun i => by simp
  have hcl : Closed c1.H fun i => decide (i ∈ S1) := fun id o ho hK e he a ha => (hO.cells id o ho ((hKS id).1 hK) e he a ha).mono fun i hi => (hKS i).2 hi
  obtain ⟨c2, e1, e2, e3, g2, k2, r2⟩ := take_over gd hg1 hk hcl
  subst hH hn
  have hT2 : Tr c2.H sh (shA c.n v) r (S1.map (shId c.n)) := hT.sh fun i hi => by rw [e1, merge_sh ((hKS i).2 hi)]
  have hlow : ∀ i : Id, i.1 < c.n → c2.H i = c.H i := fun i hi => by rw [e1, merge_lt hi]
  obtain ⟨h0, S, p1, p2⟩ := hs
  have hst : ∀ i ∈ S1.map (shId c.n), c.n ≤ i.1 ∧ i.1 < c2.n := fun i hi => by
    obtain ⟨o, ho⟩ := hT2.has i hi
    refine ⟨?_, g2.stamp i o ho⟩
    obtain ⟨j, _, rfl⟩ := List.mem_map.1 hi
    simp [shId]
  have hn2 : c.n ≤ c2.n := by rw [e2]; omega
  refine ⟨x, shA c.n v, c2, he, e3, ⟨r, ⟨fun i hi => by have := h0 i hi; omega, S1.map (shId c.n) ++ S, ?_, fun i hi => ?_⟩, hR, hn2, fun i hi => hlow i (h0 i hi)⟩, r2 v x hrv (hO.mv.mono fun i hi => (hKS i).2 hi), g2, k2⟩
  · simp only [List.map_cons, Row]
    refine ⟨_, S, hT2, p1.frame fun i hi => hlow i (p2 i hi).1, rfl, fun i hi hm => ?_⟩
    have := (hst i hi).1
    have := (p2 i hm).1
    omega
  · rcases List.mem_append.1 hi with hi | hi
    · have := hst i hi
      exact ⟨this.2, fun hm => by have := h0 i hm; omega⟩
    · have := p2 i hi
      exact ⟨by omega, this.2⟩

/-- What a body owes at its returns. -/
def PostS (h : Sh) (R : AVal → Prop) (Q : AVal → Heap → Nat → Prop) : Prop := ∀ v H n r, Sep H n [(h, v, r)] [] → R r → Q v H n
theorem OwnS.of {P : Program} {f : FuncId} {fn : Func} {body : Code} {args : List AVal} {R : AVal → Prop} {N : Nat} {h : Sh} (hfn : P.funcs[f]? = some fn) (hb : fn.body = some body) (hn : fn.ntmps = N) (hN : args.length ≤ N)
    (hq : ∀ Q, PostS h R Q → Runs P f N [.code body] (argEnv args) noHeap 0 Q) : OwnS P f args h R := by
  subst hn
  exact CallsA.of_runs hfn hb hN (hq (fun v H n => ∃ r, Sep H n [(h, v, r)] [] ∧ R r) fun v H n r h1 h2 => ⟨r, h1, h2⟩)

/-- A function that turns what its caller owns: Y tells what it comes to, and what is answered. -/
def MutS (P : Program) (f : FuncId) (args : AVal → List AVal) (h : Sh) (e : AVal) (Y : AVal → AVal → Prop) : Prop :=
  ∀ (H : Heap) (n : Nat) (v : AVal) (K : List OwnE) (ids : List Id), Sep H n ((h, v, e) :: K) ids → CallsA P f (args v) H n fun r H1 n1 => ∃ e', Y e' r ∧ Sep H1 n1 ((h, v, e') :: K) ids ∧ (∀ i ∈ ids, H1 i = H i) ∧ n ≤ n1
theorem MutS.mono {P : Program} {f : FuncId} {args : AVal → List AVal} {h : Sh} {e : AVal} {Y Y' : AVal → AVal → Prop} (hc : MutS P f args h e Y) (hy : ∀ e r, Y e r → Y' e r) : MutS P f args h e Y' := fun H n v K ids hs =>
  CallsA.mono (hc H n v K ids hs) fun _ _ _ ⟨e', h1, h2⟩ => ⟨e', hy _ _ h1, h2⟩

section
variable {P : Program} {f : FuncId} {N : Nat} {k : List Item} {Q : AVal → Heap → Nat → Prop} {Ty : Types} {l : List Oper} {ρ : Env} {H : Heap} {n : Nat} {K : List OwnE} {ids : List Id}
theorem RunK.callW (hT : TypesOk P Ty) {d : Option Tmp} {g : Operand} {args : Array Operand} {ats : Array TypeId} {ty : TypeId} {pos : String} {af : Array Edge} {R : AVal → Prop} {f' : FuncId} {as args' : List AVal} {ops : List Oper} {sh : Sh}
    (h : OwnS P f' args' sh R) (hent : Ent P f') (ha : ArgsOk H n as args') (hs : Sep H n K ids)
    (hN : ops.all (fun o => dok N o.dst) = true) (hl : (⟨d, .call ⟨.value g, args, ats⟩, ty, pos, af, none⟩ :: l : List Oper).all (fun o => dok N o.dst) = true) (hg : ρ.ev g = .fn (.func f') [] []) (has : args.toList.map ρ.ev = as)
    (hk : ∀ v H1 n1 r, Sep H1 n1 ((sh, v, r) :: K) ids → R r → n ≤ n1 → (∀ i ∈ ids, H1 i = H i) → evalK P f N k Q Ty ops.toArray l (ρ.put d v) H1 n1) :
    RunK P f N k Q ops.toArray (⟨d, .call ⟨.value g, args, ats⟩, ty, pos, af, none⟩ :: l) ρ H n :=
  RunK.op hT hN hl rfl (OpSem.callW hg hent (has ▸ ha) h hs) fun v H' n' ⟨r, h1, h2, h3, h4⟩ => hk v H' n' r h1 h2 h3 h4

theorem RunK.callM (hT : TypesOk P Ty) {d : Option Tmp} {g : Operand} {args : Array Operand} {ats : Array TypeId} {ty : TypeId} {pos : String} {af : Array Edge} {Y : AVal → AVal → Prop} {f' : FuncId} {ops : List Oper} {sh : Sh} {argf : AVal → List AVal} {v e : AVal}
    (h : MutS P f' argf sh e Y) (hent : Ent P f') (hs : Sep H n ((sh, v, e) :: K) ids)
    (hN : ops.all (fun o => dok N o.dst) = true) (hl : (⟨d, .call ⟨.value g, args, ats⟩, ty, pos, af, none⟩ :: l : List Oper).all (fun o => dok N o.dst) = true) (hg : ρ.ev g = .fn (.func f') [] []) (has : args.toList.map ρ.ev = argf v)
    (hk : ∀ r H1 n1 e', Y e' r → Sep H1 n1 ((sh, v, e') :: K) ids → n ≤ n1 → (∀ i ∈ ids, H1 i = H i) → evalK P f N k Q Ty ops.toArray l (ρ.put d r) H1 n1) :
    RunK P f N k Q ops.toArray (⟨d, .call ⟨.value g, args, ats⟩, ty, pos, af, none⟩ :: l) ρ H n :=
  RunK.op hT hN hl rfl (OpSem.call (post := fun r H1 n1 => ∃ e', Y e' r ∧ Sep H1 n1 ((sh, v, e') :: K) ids ∧ (∀ i ∈ ids, H1 i = H i) ∧ n ≤ n1) hg hent (by rw [has, List.nil_append, List.append_nil]; exact h H n v K ids hs)) fun r H' n' ⟨e', h1, h2, h3, h4⟩ => hk r H' n' e' h1 h2 h4 h3
end

theorem MutS.of {P : Program} {f : FuncId} {fn : Func} {body : Code} {args : AVal → List AVal} {h : Sh} {e : AVal} {Y : AVal → AVal → Prop} {N : Nat} (hfn : P.funcs[f]? = some fn) (hb : fn.body = some body) (hn : fn.ntmps = N) (hN : ∀ v, (args v).length ≤ N)
    (hq : ∀ (H0 : Heap) (n0 : Nat) (v : AVal) (K0 : List OwnE) (ids0 : List Id), Sep H0 n0 ((h, v, e) :: K0) ids0 → ∀ Q : AVal → Heap → Nat → Prop, (∀ r H1 n1 e', Sep H1 n1 ((h, v, e') :: K0) ids0 → (∀ i ∈ ids0, H1 i = H0 i) → n0 ≤ n1 → Y e' r → Q r H1 n1) → Runs P f N [.code body] (argEnv (args v)) H0 n0 Q) :
    MutS P f args h e Y := fun H n v K ids hs =>
  CallsA.of hfn hb hn (hN v) fun Q hQ => hq H n v K ids hs Q fun r H1 n1 e' h2 h3 h4 h1 => hQ r H1 n1 ⟨e', h1, h2, h3, h4⟩
end Go.Ab

/- The abstract machine, part Ss: own values in a walk by program. -/
namespace Go.Ab
set_option linter.unusedSectionVars false
set_option linter.unusedSimpArgs false

section
variable {H H' : Heap} {n n' : Nat} {K K1 K2 : List OwnE} {ids ids' : List Id}
theorem Sep.keep' (h : Sep H n K ids) (hn : n ≤ n') (hH : ∀ i : Id, i.1 < n → i ∉ ids → H' i = H i) (hi : ∀ i ∈ ids', i ∈ ids ∨ (n ≤ i.1 ∧ i.1 < n')) : Sep H' n' K ids' :=
  h.keep hn hH fun i hi' => (hi i hi').elim (fun h2 => ⟨.inl h2, by have := h.1 i h2; omega⟩) fun h2 => ⟨.inr h2.1, h2.2⟩
theorem keep_set {w : Id} {o : Ob} (h : ∀ i : Id, i.1 < n → i ∉ ids → H' i = H i) (hw : w ∈ ids ∨ n ≤ w.1) : ∀ i : Id, i.1 < n → i ∉ ids → (H'.set w o) i = H i := fun i h1 h2 => by
  rw [Heap.get_set_ne _ _ (by rintro rfl; rcases hw with hw | hw; exact h2 hw; omega)]
  exact h i h1 h2
/-- A variable made anew. -/
theorem Sep.var {d : Nat} {o : Ob} (h : Sep H n K ids) : Sep (H.set (n, d) o) (n + 1) K ((n, d) :: ids) :=
  h.keep' (Nat.le_succ n) (keep_set (fun _ _ _ => rfl) (.inr (Nat.le_refl _))) fun i hi => by
    rcases List.mem_cons.1 hi with rfl | hi
    · exact .inr ⟨Nat.le_refl _, Nat.lt_succ_self _⟩
    · exact .inl hi
theorem Sep.setVar {w : Id} {o : Ob} (h : Sep H n K ids) (hw : w ∈ ids) : Sep (H.set w o) n K ids :=
  h.keep' (Nat.le_refl n) (keep_set (fun _ _ _ => rfl) (.inl hw)) fun i hi => .inl hi
theorem Sep.sub (h : Sep H n K ids) (hi : ∀ i ∈ ids', i ∈ ids) : Sep H n K ids' := h.keep' (Nat.le_refl n) (fun _ _ _ => rfl) fun i h => .inl (hi i h)
theorem Sep.addEmpty {l : List Sh} {d : Nat} (hs : Sep H n K ids) : Sep (H.set (n, d) ⟨l.length, []⟩) (n + 1) ((.s l, .arr (n, d) 0 0 0, .list true []) :: K) ids := Sep.addNew (els := []) (es := []) hs rfl
theorem rows_rep {l : List Sh} {z z' : List AVal} (h : Row H l z z' []) : ∀ k, rowsP (Row H l) (List.replicate k z) (List.replicate k z') []
  | 0 => rfl
  | k + 1 => ⟨[], [], h, rows_rep h k, rfl, by simp⟩
/-- An array of zeros. -/
theorem Sep.addRep {α : Type} [Inhabited α] {f : α → List AVal} {l : List Sh} {d k : Nat} {z : List AVal} (hs : Sep H n K ids) (hz : ∀ H : Heap, Row H l z (f default) []) :
    Sep (H.set (n, d) ⟨l.length, List.replicate k z⟩) (n + 1) ((.s l, .arr (n, d) k 0 k, .list true ((List.replicate k (default : α)).map f)) :: K) ids := by
  have h := Sep.addNew (d := d) (els := List.replicate k z) (es := List.replicate k (f default)) hs (rows_rep (hz _) k)
  rw [List.map_replicate]
  simpa using h
theorem Sep.rot {x : OwnE} (h : Sep H n (x :: K) ids) : Sep H n (K ++ [x]) ids := Sep.swap (K1 := [x]) h

/-- Opened: an array of plain cells. -/
theorem Sep.openF {l : List Sh} {v : AVal} {i : Int} {α : Type} {f : α → List AVal} {xs : List α} (h : Sep H n ((.s l, v, .list true (xs.map f)) :: K) ids) (hf : ∀ t ∈ l, t = .c) (hb : 0 ≤ i ∧ i < xs.length) :
    ∃ id, v = .arr id xs.length 0 xs.length ∧ H id = some ⟨l.length, xs.map f⟩ ∧ id.1 < n ∧ id ∉ ids := by
  obtain ⟨h0, S, h1, h2⟩ := h
  simp only [List.map_cons, Row, Tr] at h1
  obtain ⟨S1, S2, h3, _, rfl, _⟩ := h1
  rcases h3 with ⟨_, e, _⟩ | ⟨id, els, es', T, rfl, he, q3, q4, q5, rfl⟩
  · injection e with _ e
    have : xs = [] := by simpa using e
    subst this
    simp at hb; omega
  · injection he with _ he
    subst he
    have hel : els = xs.map f := by
      have : ∀ {as bs : List (List AVal)} {S : List Id}, rowsP (Row H l) as bs S → as = bs := by
        intro as
        induction as with
        | nil => intro bs S hr; match bs, hr with
          | [], _ => rfl
          | _ :: _, hr => exact hr.elim
        | cons a as ih =>
          intro bs S hr
          match bs, hr with
          | b :: bs, ⟨_, _, q1, q2, _, _⟩ => rw [(q1.fill hf).1, ih q2]
          | [], hr => exact hr.elim
      exact this q4
    subst hel
    exact ⟨id, by simp, q3, (h2 id (by simp)).1, (h2 id (by simp)).2⟩
theorem Sep.len {Ty : Types} {t : TypeId} {j : TI} {l : List Sh} {v : AVal} {es : List (List AVal)} {m : Int} (h : Sep H n ((.s l, v, .list true es) :: K) ids) (hk : kd Ty t = .slice j) (hm : m = (es.length : Int)) : lenF Ty H t v = some (int m) := by
  obtain ⟨_, es', he, hv⟩ := h.form
  injection he with _ he
  subst he hm
  rcases hv with ⟨rfl, rfl⟩ | ⟨id, els, rfl, hl, hH, _⟩
  · simp [lenF, hk]
  · simp [lenF, hk, live, hH, hl]
theorem Sep.cells {l : List Sh} {v e : AVal} (h : Sep H n ((.s l, v, e) :: K) ids) : cellsA v = some [v] := by
  obtain ⟨_, es, _, hv⟩ := h.form
  rcases hv with ⟨rfl, _⟩ | ⟨id, els, rfl, _⟩ <;> rfl
theorem Sep.one1 {l : List Sh} {v e : AVal} (h : Sep H n ((.s l, v, e) :: K) ids) : Ab.one1 v = true := h.form.1
end

section
variable {P : Program} {f f' : FuncId} {N : Nat} {k : List Item} {Q : AVal → Heap → Nat → Prop} {Ty : Types} {ops : Array Oper} {L : List Oper} {ρ : Env} {H : Heap} {n : Nat} {K1 K2 : List OwnE} {ids : List Id} {t : TypeId} {j : TI} {l : List Sh} {v : AVal} {es : List (List AVal)} {o : Oper}
theorem bind_append {d : Nat} {x : AVal} (K1 K2 : List OwnE) (add adds : List (List AVal)) (h : Sep H n ((.s l, v, .list true es) :: (K1 ++ K2)) ids) (hk : kd Ty t = .slice j) (hj : j.size = l.length) (hz : j.zero.length = j.size ∧ j.bytes ≤ 131072)
    (hx : srcOf H x = some add) (ho : add.all (fun e => e.all Ab.one1) = true) (hadd : ∀ S, Row H (K1.map (·.1)) (K1.map (·.2.1)) (K1.map (·.2.2)) S → rowsP (Row H l) add adds S) (hne : adds ≠ []) (hlen : es.length + adds.length ≤ 1073741824)
    (hc : ∀ v' H' n', Sep H' n' ((.s l, v', .list true (es ++ adds)) :: K2) ids → (∀ i ∈ ids, H' i = H i) → n ≤ n' → evalK P f N k Q Ty ops L (ρ.put o.dst v') H' n') : bindE P f N k Q Ty ops (appendF Ty (some d) t v x H n) o L ρ H n := by
  obtain ⟨v', H', n', h1, h2, h3, h4⟩ := Sep.append (d := d) h hk hj hz hx ho hadd hne hlen
  rw [h1, bindE_some]
  exact hc v' H' n' h2 h3 h4
theorem bindD_append {κ : Op → Nat} {d : Nat} {x : AVal} (K1 K2 : List OwnE) (add adds : List (List AVal)) (h : Sep H n ((.s l, v, .list true es) :: (K1 ++ K2)) ids) (hk : kd Ty t = .slice j) (hj : j.size = l.length) (hz : j.zero.length = j.size ∧ j.bytes ≤ 131072)
    (hx : srcOf H x = some add) (ho : add.all (fun e => e.all Ab.one1) = true) (hadd : ∀ S, Row H (K1.map (·.1)) (K1.map (·.2.1)) (K1.map (·.2.2)) S → rowsP (Row H l) add adds S) (hne : adds ≠ []) (hlen : es.length + adds.length ≤ 1073741824)
    (hc : ∀ v' H' n', Sep H' n' ((.s l, v', .list true (es ++ adds)) :: K2) ids → (∀ i ∈ ids, H' i = H i) → n ≤ n' → evalD P f N k Q Ty κ ops L (ρ.put o.dst v') H' n') : bindD P f N k Q Ty κ ops (appendF Ty (some d) t v x H n) o L ρ H n := by
  obtain ⟨v', H', n', h1, h2, h3, h4⟩ := Sep.append (d := d) h hk hj hz hx ho hadd hne hlen
  rw [h1, bindD_some]
  exact hc v' H' n' h2 h3 h4
theorem bind_store {id : Id} {g q : Nat} {i : TI} {new news : List AVal} (K1 K2 : List OwnE) (h : Sep H n ((.s l, .arr id g 0 g, .list true es) :: (K1 ++ K2)) ids) (hi : i.size = l.length) (hk : q < es.length) (hg : g = es.length) (hone : new.all Ab.one1 = true)
    (hf : Fill l K1 new news) (hc : ∀ H', Sep H' n ((.s l, .arr id g 0 g, .list true (es.set q news)) :: K2) ids → (∀ i ∈ ids, H' i = H i) → evalK P f N k Q Ty ops L (ρ.put o.dst .undef) H' n) :
    bindE P f N k Q Ty ops (match storeF (some i) (.ptr id g q 0) (some new) H with | some H' => some (AVal.undef, H', n) | none => none) o L ρ H n := by
  obtain ⟨H', h1, h2, h3⟩ := Sep.store h hi hk hg hone hf
  rw [h1]
  exact (bindE_some (v := AVal.undef) (H' := H') (n' := n)).symm ▸ hc H' h2 h3
theorem fill_flat : ∀ {l : List Sh} {cs : List AVal}, (∀ t ∈ l, t = .c) → cs.length = l.length → (∀ a ∈ cs, flat a = true) → Fill l [] cs cs
  | [], [], _, _, _ => .nil
  | t :: l, a :: cs, h, hl, hf => by
    obtain rfl := h t (by simp)
    have ha := hf a (by simp)
    cases a <;> simp [flat] at ha
    exact .v _ (fill_flat (fun t ht => h t (by simp [ht])) (by simpa using hl) fun a ha => hf a (by simp [ha]))
  | [], _ :: _, _, h, _ => by simp at h
  | _ :: _, [], _, h, _ => by simp at h
theorem bind_field {α : Type} [Inhabited α] {id : Id} {g q off : Nat} {ix : Int} {i : TI} {new : List AVal} {xs : List α} {f : α → List AVal} {x y : α} {K : List OwnE} (h : Sep H n ((.s l, .arr id g 0 g, .list true (xs.map f)) :: K) ids) (hl : ∀ t ∈ l, t = .c)
    (hi : new.length = i.size) (hb : 0 ≤ ix ∧ ix < xs.length) (hx : x = at' xs ix) (hq : q = ix.toNat) (hg : g = xs.length) (hfl : ∀ x, (f x).length = l.length) (hff : ∀ a ∈ f y, flat a = true ∧ Ab.one1 a = true) (hn : ∀ a ∈ new, Ab.one1 a = true)
    (hy : f y = splice (f x) off new) (hoff : off + new.length ≤ l.length)
    (hc : ∀ H', Sep H' n ((.s l, .arr id g 0 g, .list true ((xs.set q y).map f)) :: K) ids → (∀ i ∈ ids, H' i = H i) → evalK P f' N k Q Ty ops L (ρ.put o.dst .undef) H' n) :
    bindE P f' N k Q Ty ops (match storeF (some i) (.ptr id g q off) (some new) H with | some H' => some (AVal.undef, H', n) | none => none) o L ρ H n := by
  obtain ⟨id', he, hH, _, _⟩ := h.openF hl hb
  cases he
  have hq' : q < xs.length := by omega
  obtain ⟨hlt, hgx⟩ := at_get hb hx
  obtain ⟨H', h1, h2, h3⟩ := Sep.store (K1 := []) (K2 := K) (i := ⟨i.desc, l.length, i.bytes, i.zero⟩) (new := f y) (news := f y) h rfl (by simpa using hq') (by first | (simp; done) | simpa using hg) (by
    rw [List.all_eq_true]; exact fun a ha => (hff a ha).2) (fill_flat hl (by simp [hfl]) fun a ha => (hff a ha).1)
  have hw : storeF (some i) (.ptr id xs.length q off) (some new) H = some H' := by
    simp only [storeF, live, hH, List.length_map, ↓reduceIte] at h1 ⊢
    rw [if_pos ⟨by simp [hfl], hq', by simp [hfl], by rw [List.all_eq_true]; exact fun a ha => (hff a ha).2⟩] at h1
    rw [if_pos ⟨hi, hq', hoff, by rw [List.all_eq_true]; exact hn⟩, ← h1]
    congr 2
    have hrow : (xs.map f).getD q [] = f x := by simp [hq, hlt, hgx]
    simp only [Ob.write, hrow, Ob.mk.injEq, true_and]
    rw [← hy]
    congr 1
    simp [splice, hfl]
  rw [hw]
  refine (bindE_some (v := AVal.undef) (H' := H') (n' := n)).symm ▸ hc H' ?_ h3
  rw [List.map_set]
  exact h2
/-- One row. -/
theorem rows_one {K1 : List OwnE} {cs ds : List AVal} (hf : Fill l K1 cs ds) : ∀ S, Row H (K1.map (·.1)) (K1.map (·.2.1)) (K1.map (·.2.2)) S → rowsP (Row H l) [cs] [ds] S := fun S h => ⟨S, [], hf.row h, rfl, by simp, by simp⟩
theorem rows_flat {es : List (List AVal)} (h : ∀ e ∈ es, e.length = l.length ∧ ∀ a ∈ e, flat a = true) (hf : ∀ t ∈ l, t = .c) : ∀ S, Row H (([] : List OwnE).map (·.1)) (([] : List OwnE).map (·.2.1)) (([] : List OwnE).map (·.2.2)) S → rowsP (Row H l) es es S := fun S hS => by
  simp only [List.map_nil, Row] at hS
  subst hS
  exact rowsP.flats h hf
end
/-! Slices of own arrays that are read at once, and lists that may be empty appended to own arrays. -/
section
variable {P : Program} {f f' : FuncId} {N : Nat} {k : List Item} {Q : AVal → Heap → Nat → Prop} {Ty : Types} {ops : Array Oper} {L : List Oper} {ρ : Env} {H : Heap} {n : Nat} {K : List OwnE} {ids : List Id} {t : TypeId} {j : TI} {l : List Sh} {v : AVal} {es : List (List AVal)} {o : Oper}
theorem rowsP.same {l : List Sh} (hf : ∀ t ∈ l, t = .c) : ∀ {as bs : List (List AVal)} {S : List Id}, rowsP (Row H l) as bs S → as = bs
  | [], [], _, _ => rfl
  | [], _ :: _, _, hr => hr.elim
  | _ :: _, [], _, hr => hr.elim
  | a :: as, b :: bs, _, ⟨_, _, q1, q2, _, _⟩ => by rw [(q1.fill hf).1, rowsP.same hf q2]
theorem Sep.formF {α : Type} {g : α → List AVal} {xs : List α} (h : Sep H n ((.s l, v, .list true (xs.map g)) :: K) ids) (hf : ∀ t ∈ l, t = .c) :
    (v = .v (.slice none 0 0) ∧ xs = []) ∨ ∃ id, v = .arr id xs.length 0 xs.length ∧ H id = some ⟨l.length, xs.map g⟩ := by
  obtain ⟨h0, S, h1, h2⟩ := h
  simp only [List.map_cons, Row, Tr] at h1
  obtain ⟨S1, S2, h3, _, rfl, _⟩ := h1
  rcases h3 with ⟨rfl, e, _⟩ | ⟨id, els, es', T, rfl, he, q3, q4, q5, rfl⟩
  · injection e with _ e
    exact .inl ⟨rfl, by simpa using e⟩
  · injection he with _ he
    subst he
    have := rowsP.same hf q4
    subst this
    exact .inr ⟨id, by simp, q3⟩
theorem Sep.src {α : Type} {g : α → List AVal} {xs : List α} (h : Sep H n ((.s l, v, .list true (xs.map g)) :: K) ids) (hf : ∀ t ∈ l, t = .c) : srcOf H v = some (xs.map g) := by
  rcases h.formF hf with ⟨rfl, rfl⟩ | ⟨id, rfl, hH⟩
  · rfl
  · simp [srcOf, live, hH]
    rw [← List.map_take]
    simp
theorem Sep.viewS {α : Type} {g : α → List AVal} {xs : List α} {lo hi : Option AVal} {a b : Int} (h : Sep H n ((.s l, v, .list true (xs.map g)) :: K) ids) (hf : ∀ t ∈ l, t = .c) (hk : kd Ty t = .slice j) (hj : j.size = l.length)
    (hlo : boundOf lo 0 = some a) (hhi : boundOf hi xs.length = some b) (hb : 0 ≤ a ∧ a ≤ b ∧ b ≤ xs.length) :
    ∃ w, sliceF Ty H t v lo hi = some w ∧ srcOf H w = some (((xs.take b.toNat).drop a.toNat).map g) := by
  rcases h.formF hf with ⟨rfl, rfl⟩ | ⟨id, rfl, hH⟩
  · simp only [List.length_nil] at hhi hb
    refine ⟨.v (.slice none 0 0), ?_, by simp [srcOf]⟩
    simp only [sliceF, hk, hlo, hhi]
    rw [if_pos (by omega)]
  · refine ⟨.arr id xs.length (0 + a.toNat) (b.toNat - a.toNat), ?_, ?_⟩
    · simp only [sliceF, hk, hlo, hhi, live, hH, List.length_map, ↓reduceIte]
      rw [if_pos ⟨hb.1, hb.2.1, hb.2.2, hj.symm⟩]
    · simp only [srcOf, live, hH, List.length_map, ↓reduceIte, Option.some.injEq, Nat.zero_add]
      rw [List.map_drop, List.map_take, List.drop_take]
theorem Sep.append0 {d : Nat} {x : AVal} {add : List (List AVal)} (h : Sep H n ((.s l, v, .list true es) :: K) ids) (hf : ∀ t ∈ l, t = .c) (hk : kd Ty t = .slice j) (hj : j.size = l.length) (hz : j.zero.length = j.size ∧ j.bytes ≤ 131072)
    (hx : srcOf H x = some add) (ho : ∀ e ∈ add, e.length = l.length ∧ ∀ a ∈ e, flat a = true ∧ Ab.one1 a = true) (hlen : es.length + add.length ≤ 1073741824) :
    ∃ v' H' n', appendF Ty (some d) t v x H n = some (v', H', n') ∧ Sep H' n' ((.s l, v', .list true (es ++ add)) :: K) ids ∧ (∀ i ∈ ids, H' i = H i) ∧ n ≤ n' := by
  have ho' : add.all (fun e => e.all Ab.one1) = true := by
    rw [List.all_eq_true]; intro e he; rw [List.all_eq_true]; exact fun a ha => ((ho e he).2 a ha).2
  by_cases hne : add = []
  · subst hne
    obtain ⟨_, es', he, hv⟩ := h.form
    injection he with _ he
    subst he
    rcases hv with ⟨rfl, rfl⟩ | ⟨id, els, rfl, hl, hH, _⟩
    · refine ⟨.v (.slice none 0 0), H, n, ?_, by simpa using h, fun _ _ => rfl, Nat.le_refl _⟩
      simp only [appendF, hk, hx]
      rw [if_pos ⟨hz.1, hz.2, rfl, rfl⟩]
      rfl
    · have hs : H.set id ⟨l.length, els⟩ = H := by
        funext i
        by_cases hi : i = id
        · subst hi; simp [Heap.get_set, hH]
        · exact Heap.get_set_ne _ _ hi
      refine ⟨.arr id es.length 0 es.length, H, n, ?_, by simpa using h, fun _ _ => rfl, Nat.le_refl _⟩
      simp only [appendF, hk, hx]
      rw [if_pos ⟨hz.1, hz.2, rfl, rfl⟩]
      simp only [live, hH, hl, ↓reduceIte]
      rw [if_pos ⟨trivial, trivial, hj.symm, by simpa using hlen⟩]
      simp [hj, hs]
  · exact Sep.append (K1 := []) (K2 := K) h hk hj hz hx ho' (rows_flat (fun e he => ⟨(ho e he).1, fun a ha => ((ho e he).2 a ha).1⟩) hf) hne hlen
theorem bind_append0 {d : Nat} {x : AVal} (add : List (List AVal)) (h : Sep H n ((.s l, v, .list true es) :: K) ids) (hf : ∀ t ∈ l, t = .c) (hk : kd Ty t = .slice j) (hj : j.size = l.length) (hz : j.zero.length = j.size ∧ j.bytes ≤ 131072)
    (hx : srcOf H x = some add) (ho : ∀ e ∈ add, e.length = l.length ∧ ∀ a ∈ e, flat a = true ∧ Ab.one1 a = true) (hlen : es.length + add.length ≤ 1073741824)
    (hc : ∀ v' H' n', Sep H' n' ((.s l, v', .list true (es ++ add)) :: K) ids → (∀ i ∈ ids, H' i = H i) → n ≤ n' → evalK P f N k Q Ty ops L (ρ.put o.dst v') H' n') : bindE P f N k Q Ty ops (appendF Ty (some d) t v x H n) o L ρ H n := by
  obtain ⟨v', H', n', h1, h2, h3, h4⟩ := Sep.append0 (d := d) h hf hk hj hz hx ho hlen
  rw [h1, bindE_some]
  exact hc v' H' n' h2 h3 h4
theorem bindD_append0 {κ : Op → Nat} {d : Nat} {x : AVal} (add : List (List AVal)) (h : Sep H n ((.s l, v, .list true es) :: K) ids) (hf : ∀ t ∈ l, t = .c) (hk : kd Ty t = .slice j) (hj : j.size = l.length) (hz : j.zero.length = j.size ∧ j.bytes ≤ 131072)
    (hx : srcOf H x = some add) (ho : ∀ e ∈ add, e.length = l.length ∧ ∀ a ∈ e, flat a = true ∧ Ab.one1 a = true) (hlen : es.length + add.length ≤ 1073741824)
    (hc : ∀ v' H' n', Sep H' n' ((.s l, v', .list true (es ++ add)) :: K) ids → (∀ i ∈ ids, H' i = H i) → n ≤ n' → evalD P f N k Q Ty κ ops L (ρ.put o.dst v') H' n') : bindD P f N k Q Ty κ ops (appendF Ty (some d) t v x H n) o L ρ H n := by
  obtain ⟨v', H', n', h1, h2, h3, h4⟩ := Sep.append0 (d := d) h hf hk hj hz hx ho hlen
  rw [h1, bindD_some]
  exact hc v' H' n' h2 h3 h4
theorem bind_view {α : Type} {g : α → List AVal} {xs : List α} {lo hi : Option AVal} (a b : Int) (h : Sep H n ((.s l, v, .list true (xs.map g)) :: K) ids) (hf : ∀ t ∈ l, t = .c) (hk : kd Ty t = .slice j) (hj : j.size = l.length)
    (hlo : boundOf lo 0 = some a) (hhi : boundOf hi xs.length = some b) (hb : 0 ≤ a ∧ a ≤ b ∧ b ≤ xs.length)
    (hc : ∀ w, srcOf H w = some (((xs.take b.toNat).drop a.toNat).map g) → evalK P f' N k Q Ty ops L (ρ.put o.dst w) H n) : bindE P f' N k Q Ty ops ((sliceF Ty H t v lo hi).map fun z => (z, H, n)) o L ρ H n := by
  obtain ⟨w, h1, h2⟩ := Sep.viewS h hf hk hj hlo hhi hb
  rw [h1, Option.map_some, bindE_some]
  exact hc w h2
theorem bindD_view {κ : Op → Nat} {α : Type} {g : α → List AVal} {xs : List α} {lo hi : Option AVal} (a b : Int) (h : Sep H n ((.s l, v, .list true (xs.map g)) :: K) ids) (hf : ∀ t ∈ l, t = .c) (hk : kd Ty t = .slice j) (hj : j.size = l.length)
    (hlo : boundOf lo 0 = some a) (hhi : boundOf hi xs.length = some b) (hb : 0 ≤ a ∧ a ≤ b ∧ b ≤ xs.length)
    (hc : ∀ w, srcOf H w = some (((xs.take b.toNat).drop a.toNat).map g) → evalD P f' N k Q Ty κ ops L (ρ.put o.dst w) H n) : bindD P f' N k Q Ty κ ops ((sliceF Ty H t v lo hi).map fun z => (z, H, n)) o L ρ H n := by
  obtain ⟨w, h1, h2⟩ := Sep.viewS h hf hk hj hlo hhi hb
  rw [h1, Option.map_some, bindD_some]
  exact hc w h2
end
theorem cA_int (k : IntKind) (a : Int) : cellsA (.v (.int k a)) = some [.v (.int k a)] := rfl
theorem cA_bool (a : Bool) : cellsA (.v (.bool a)) = some [.v (.bool a)] := rfl
theorem cA_str (a : ByteArray) : cellsA (.v (.string a)) = some [.v (.string a)] := rfl
theorem cA_nil : cellsA (.v (.slice none 0 0)) = some [.v (.slice none 0 0)] := rfl
theorem cA_agg (l : List AVal) : cellsA (.agg l) = some l := rfl
theorem cA_list (fr : Bool) (l : List (List AVal)) : cellsA (.list fr l) = some [.list fr l] := rfl
theorem cA_arr (id : Id) (g o l : Nat) : cellsA (.arr id g o l) = some [.arr id g o l] := rfl
theorem cA_ptr (id : Id) (g o l : Nat) : cellsA (.ptr id g o l) = some [.ptr id g o l] := rfl
theorem o1_int (k : IntKind) (a : Int) : one1 (.v (.int k a)) = true := rfl
theorem o1_bool (a : Bool) : one1 (.v (.bool a)) = true := rfl
theorem o1_str (a : ByteArray) : one1 (.v (.string a)) = true := rfl
theorem o1_nil : one1 (.v (.slice none 0 0)) = true := rfl
theorem o1_list (fr : Bool) (l : List (List AVal)) : one1 (.list fr l) = true := rfl
theorem o1_arr (id : Id) (g o l : Nat) : one1 (.arr id g o l) = true := rfl
theorem o1_ptr (id : Id) (g o l : Nat) : one1 (.ptr id g o l) = true := rfl
theorem at_some {α : Type} [Inhabited α] {l : List α} {i : Int} {x : α} {q : Nat} (hb : 0 ≤ i ∧ i < l.length) (hx : x = at' l i) (hq : q = i.toNat) : l[q]? = some x := by
  obtain ⟨h, hg⟩ := at_get hb hx
  rw [hq, List.getElem?_eq_getElem h, hg]
theorem cell_own {α : Type} {a b : α} (h : a = b) : a = b := h
theorem len_own {α : Type} {a : Option α} {b : α} (h : a = some b) : a = some b := h
theorem len1 {α : Type} {l : List α} (h : l.length = 1) : ∃ a, l = [a] := by match l, h with | [a], _ => exact ⟨a, rfl⟩
theorem len2 {α : Type} {l : List α} (h : l.length = 2) : ∃ a b, l = [a, b] := by match l, h with | [a, b], _ => exact ⟨a, b, rfl⟩
theorem len3 {α : Type} {l : List α} (h : l.length = 3) : ∃ a b c, l = [a, b, c] := by match l, h with | [a, b, c], _ => exact ⟨a, b, c, rfl⟩
theorem len4 {α : Type} {l : List α} (h : l.length = 4) : ∃ a b c d, l = [a, b, c, d] := by match l, h with | [a, b, c, d], _ => exact ⟨a, b, c, d, rfl⟩
theorem len5 {α : Type} {l : List α} (h : l.length = 5) : ∃ a b c d e, l = [a, b, c, d, e] := by match l, h with | [a, b, c, d, e], _ => exact ⟨a, b, c, d, e, rfl⟩
theorem len6 {α : Type} {l : List α} (h : l.length = 6) : ∃ a b c d e f, l = [a, b, c, d, e, f] := by match l, h with | [a, b, c, d, e, f], _ => exact ⟨a, b, c, d, e, f, rfl⟩

/-- A function that turns what its caller owns and leaves it for lost. -/
def EatS (P : Program) (f : FuncId) (args : AVal → List AVal) (h : Sh) (e : AVal) (R : AVal → Prop) : Prop :=
  ∀ (H : Heap) (n : Nat) (v : AVal) (K : List OwnE) (ids : List Id), Sep H n ((h, v, e) :: K) ids → CallsA P f (args v) H n fun r H1 n1 => R r ∧ Sep H1 n1 K ids ∧ (∀ i ∈ ids, H1 i = H i) ∧ n ≤ n1
theorem EatS.mono {P : Program} {f : FuncId} {args : AVal → List AVal} {h : Sh} {e : AVal} {R R' : AVal → Prop} (hc : EatS P f args h e R) (hr : ∀ r, R r → R' r) : EatS P f args h e R' := fun H n v K ids hs =>
  CallsA.mono (hc H n v K ids hs) fun _ _ _ ⟨h1, h2⟩ => ⟨hr _ h1, h2⟩
theorem MutS.eat {P : Program} {f : FuncId} {args : AVal → List AVal} {h : Sh} {e : AVal} {Y : AVal → AVal → Prop} {R : AVal → Prop} (hc : MutS P f args h e Y) (hr : ∀ e r, Y e r → R r) : EatS P f args h e R := fun H n v K ids hs =>
  CallsA.mono (hc H n v K ids hs) fun _ _ _ ⟨e', h1, h2, h3, h4⟩ => ⟨hr _ _ h1, Sep.right (K1 := [(h, v, e')]) h2, h3, h4⟩
theorem EatS.ofOwn {P : Program} {f : FuncId} {args : AVal → List AVal} {h : Sh} {e : AVal} {R : AVal → Prop} {d : Nat} (hd : h.dep = d) (hc : ∀ H n v S, Own H d v e S → CallsA P f (args v) H n fun r H1 n1 => R r ∧ n1 = n ∧ ∀ i, i ∉ S → H1 i = H i) : EatS P f args h e R := by
  intro H n v K ids hs
  obtain ⟨h0, S, h1, h2⟩ := hs
  simp only [List.map_cons, Row] at h1
  obtain ⟨S1, S2, p1, p2, rfl, p4⟩ := h1
  refine CallsA.mono (hc H n v S1 (hd ▸ p1.own)) ?_
  rintro r H1 n1 ⟨q1, rfl, q3⟩
  refine ⟨q1, ⟨h0, S2, p2.frame fun i hi => q3 i fun hm => p4 i hm hi, fun i hi => h2 i (by simp [hi])⟩, fun i hi => q3 i fun hm => (h2 i (by simp [hm])).2 hi, Nat.le_refl _⟩
section
variable {P : Program} {f : FuncId} {N : Nat} {k : List Item} {Q : AVal → Heap → Nat → Prop} {Ty : Types} {l : List Oper} {ρ : Env} {H : Heap} {n : Nat} {K : List OwnE} {ids : List Id}
theorem RunK.callE (hT : TypesOk P Ty) {d : Option Tmp} {g : Operand} {args : Array Operand} {ats : Array TypeId} {ty : TypeId} {pos : String} {af : Array Edge} {R : AVal → Prop} {f' : FuncId} {ops : List Oper} {sh : Sh} {argf : AVal → List AVal} {v e : AVal}
    (h : EatS P f' argf sh e R) (hent : Ent P f') (hs : Sep H n ((sh, v, e) :: K) ids)
    (hN : ops.all (fun o => dok N o.dst) = true) (hl : (⟨d, .call ⟨.value g, args, ats⟩, ty, pos, af, none⟩ :: l : List Oper).all (fun o => dok N o.dst) = true) (hg : ρ.ev g = .fn (.func f') [] []) (has : args.toList.map ρ.ev = argf v)
    (hk : ∀ r H1 n1, R r → Sep H1 n1 K ids → n ≤ n1 → (∀ i ∈ ids, H1 i = H i) → evalK P f N k Q Ty ops.toArray l (ρ.put d r) H1 n1) :
    RunK P f N k Q ops.toArray (⟨d, .call ⟨.value g, args, ats⟩, ty, pos, af, none⟩ :: l) ρ H n :=
  RunK.op hT hN hl rfl (OpSem.call (post := fun r H1 n1 => R r ∧ Sep H1 n1 K ids ∧ (∀ i ∈ ids, H1 i = H i) ∧ n ≤ n1) hg hent (by rw [has, List.nil_append, List.append_nil]; exact h H n v K ids hs)) fun r H' n' ⟨h1, h2, h3, h4⟩ => hk r H' n' h1 h2 h4 h3
end
theorem EatS.of {P : Program} {f : FuncId} {fn : Func} {body : Code} {args : AVal → List AVal} {h : Sh} {e : AVal} {R : AVal → Prop} {N : Nat} (hfn : P.funcs[f]? = some fn) (hb : fn.body = some body) (hn : fn.ntmps = N) (hN : ∀ v, (args v).length ≤ N)
    (hq : ∀ (H0 : Heap) (n0 : Nat) (v : AVal) (K0 : List OwnE) (ids0 : List Id), Sep H0 n0 ((h, v, e) :: K0) ids0 → ∀ Q : AVal → Heap → Nat → Prop, (∀ r H1 n1, Sep H1 n1 K0 ids0 → (∀ i ∈ ids0, H1 i = H0 i) → n0 ≤ n1 → R r → Q r H1 n1) → Runs P f N [.code body] (argEnv (args v)) H0 n0 Q) :
    EatS P f args h e R := fun H n v K ids hs =>
  CallsA.of hfn hb hn (hN v) fun Q hQ => hq H n v K ids hs Q fun r H1 n1 h2 h3 h4 h1 => hQ r H1 n1 ⟨h1, h2, h3, h4⟩
def intC (n : Int) : List AVal := [int n]
def strC (s : Str) : List AVal := [str s]
end Go.Ab

/- The abstract machine, part R: what a row's reading tells, as abstract values; and back. -/
namespace Go.Ab
open Go.RowKit Go.ChangeAt Go.WideShapes Go.ChangeShapes

def RepC (w : World) (as : List AVal) (cs : List Value) : Prop :=
  as.length = cs.length ∧ ∀ (c : Ctx), c.w = w → (∀ id, c.H id = none) → ∀ (j : Nat) (a : AVal) (x : Value), as[j]? = some a → cs[j]? = some x → Rep c a x

/-- All data of a type, as values of a Lean type. -/
def Reader (P : Program) (t : TypeId) {α : Type} (e : α → List AVal) (ok : α → Prop) : Prop :=
  ∀ (H : Type) (enc : TypeId × Value → H) (w : World) (base : Nat) (spare : Nat → Bool) (held : Bool) (fuel : Nat) (cs : List Value) (x : DataW H × List MemPlace), DataW.trod enc P w base spare held fuel t cs = some x → ∃ a, ok a ∧ RepC w (e a) cs

section
variable {P : Program} {t : TypeId}
theorem RepC.v (w : World) (x : Value) : RepC w [.v x] [x] := ⟨rfl, fun _ _ _ j a y ha hy => by
  match j with
  | 0 => simp at ha hy; subst ha hy; exact .v _
  | j + 1 => simp at ha⟩

theorem Reader.int (hu : P.underlying t = some (.int .i64)) : Reader P t (fun n : Int => [int n]) (fun n => -9223372036854775808 ≤ n ∧ n ≤ 9223372036854775807) := by
  intro H enc w base spare held fuel cs x h
  obtain ⟨n, rfl, _, hw⟩ := DataW.trod_int hu h
  refine ⟨n, ?_, RepC.v w _⟩
  simp [Lit.wf] at hw
  have h1 : IntKind.i64.min = -9223372036854775808 := by decide
  have h2 : IntKind.i64.max = 9223372036854775807 := by decide
  omega

theorem Reader.bool (hu : P.underlying t = some .bool) : Reader P t (fun b : Bool => [Ab.bool b]) (fun _ => True) := by
  intro H enc w base spare held fuel cs x h
  obtain ⟨b, rfl, _⟩ := DataW.trod_bool hu h
  exact ⟨b, trivial, RepC.v w _⟩

theorem Reader.str (hu : P.underlying t = some .string) : Reader P t (fun s : Str => [Ab.str s]) (fun s => s.length ≤ 9223372036854775807) := by
  intro H enc w base spare held fuel cs x h
  obtain ⟨s, rfl, _, hs⟩ := DataW.trod_string hu h
  have hm : maxLen = 9223372036854775807 := by decide
  refine ⟨s.data.toList, ?_, ?_⟩
  · have : s.data.toList.length = s.size := rfl
    omega
  exact RepC.v w (.string s)

theorem Reader.map {α β : Type} {e : α → List AVal} {ok : α → Prop} {e' : β → List AVal} {ok' : β → Prop} (h : Reader P t e ok) (f : α → β) (he : ∀ a, e' (f a) = e a) (hok : ∀ a, ok a → ok' (f a)) : Reader P t e' ok' := by
  intro H enc w base spare held fuel cs x hx
  obtain ⟨a, h1, h2⟩ := h H enc w base spare held fuel cs x hx
  exact ⟨f a, hok a h1, by rw [he]; exact h2⟩

/-- The fields of a struct. -/
def FReader (P : Program) (fs : List Field) (off total : Nat) {α : Type} (e : α → List AVal) (ok : α → Prop) : Prop :=
  ∀ (H : Type) (enc : TypeId × Value → H) (w : World) (base : Nat) (spare : Nat → Bool) (held : Bool) (fuel : Nat) (cs : List Value), cs.length = total → (∀ f ∈ fs, ∃ x, DataW.trod enc P w base spare held fuel f.type ((cs.drop f.offset).take (P.cellsOf f.type)) = some x) → ∃ a, ok a ∧ RepC w (e a) (cs.drop off)

theorem FReader.nil (n : Nat) : FReader P [] n n (fun _ : Unit => []) (fun _ => True) := by
  intro H enc w base spare held fuel cs hl _
  refine ⟨(), trivial, ?_⟩
  rw [List.drop_of_length_le (by omega)]
  exact ⟨rfl, fun _ _ _ j a x ha => by simp at ha⟩

theorem RepC.append {w : World} {as bs : List AVal} {cs ds : List Value} (h : RepC w as cs) (k : RepC w bs ds) : RepC w (as ++ bs) (cs ++ ds) := by
  refine ⟨by simp [h.1, k.1], fun c hw hH j a x ha hx => ?_⟩
  rcases Nat.lt_or_ge j as.length with hj | hj
  · rw [List.getElem?_append_left hj] at ha
    rw [List.getElem?_append_left (by rw [← h.1]; exact hj)] at hx
    exact h.2 c hw hH j a x ha hx
  · rw [List.getElem?_append_right hj] at ha
    rw [List.getElem?_append_right (by rw [← h.1]; exact hj), ← h.1] at hx
    exact k.2 c hw hH _ a x ha hx

theorem FReader.cons {f : Field} {fs : List Field} {off n total : Nat} {α β : Type} {e : α → List AVal} {ok : α → Prop} {e' : β → List AVal} {ok' : β → Prop} (ho : f.offset = off) (hn : P.cellsOf f.type = n) (h : Reader P f.type e ok) (k : FReader P fs (off + n) total e' ok') :
    FReader P (f :: fs) off total (fun p : α × β => e p.1 ++ e' p.2) (fun p => ok p.1 ∧ ok' p.2) := by
  intro H enc w base spare held fuel cs hl hx
  obtain ⟨x, h1⟩ := hx f (by simp)
  obtain ⟨a, ha, hra⟩ := h H enc w base spare held fuel _ x h1
  obtain ⟨b, hb, hrb⟩ := k H enc w base spare held fuel cs hl (fun g hg => hx g (by simp [hg]))
  refine ⟨(a, b), ⟨ha, hb⟩, ?_⟩
  have := RepC.append hra hrb
  rw [ho, hn, ← List.drop_drop, List.take_append_drop] at this
  exact this

theorem Reader.struct {fs : Array Field} {α : Type} {e : α → List AVal} {ok : α → Prop} {n : Nat} (hu : P.underlying t = some (.struct fs)) (hn : P.cellsOf t = n) (h : FReader P fs.toList 0 n e ok) : Reader P t e ok := by
  intro H enc w base spare held fuel cs x hx
  obtain ⟨xs, m, _, _, hl, hxl, hf⟩ := DataW.trod_struct hu hx
  obtain ⟨a, ha, hr⟩ := h H enc w base spare held m cs (hl.trans hn) (fun f hm => by
    obtain ⟨i, hi⟩ := List.getElem?_of_mem hm
    have hlt : i < xs.length := by rw [hxl]; simpa using (List.getElem?_eq_some_iff.1 hi).1
    exact ⟨xs[i], by rw [hf i f (by simpa using hi)]; exact List.getElem?_eq_getElem hlt⟩)
  exact ⟨a, ha, hr⟩

theorem exists_list {α : Type} {Q : Nat → α → Prop} : ∀ n, (∀ i, i < n → ∃ a, Q i a) → ∃ l : List α, l.length = n ∧ ∀ i a, l[i]? = some a → Q i a
  | 0, _ => ⟨[], rfl, by simp⟩
  | n + 1, h => by
    obtain ⟨l, hl, hq⟩ := exists_list n fun i hi => h i (by omega)
    obtain ⟨a, ha⟩ := h n (by omega)
    refine ⟨l ++ [a], by simp [hl], fun i b hb => ?_⟩
    rcases Nat.lt_or_ge i n with hi | hi
    · rw [List.getElem?_append_left (by omega)] at hb; exact hq i b hb
    · rw [List.getElem?_append_right (by omega)] at hb
      have : i - l.length = 0 := by
        rcases Nat.eq_zero_or_pos (i - l.length) with h | h
        · exact h
        · rw [List.getElem?_eq_none (by simp; omega)] at hb; cases hb
      rw [this] at hb
      simp at hb
      subst hb
      rw [show i = n by omega]
      exact ha

theorem cells_get {w : World} {base n : Nat} {a : Addr} {cs : List Value} (h : w.cells? base a n = some cs) : cs.length = n ∧ ∀ (j : Nat) x, cs[j]? = some x → w.cell? (a.add j) = some x := by
  unfold World.cells? at h
  split at h
  · have hl := mapM_some_length h
    simp at hl
    refine ⟨hl, fun j x hx => ?_⟩
    have hj : j < n := by rw [← hl]; exact (List.getElem?_eq_some_iff.1 hx).1
    rw [mapM_some_get h j j (by simp [hj]), hx]
  · cases h

theorem Reader.slice {t' : TypeId} {α : Type} {e : α → List AVal} {ok : α → Prop} (hu : P.underlying t = some (.slice t')) (hpos : 0 < P.cellsOf t') (h : Reader P t' e ok) :
    Reader P t (fun l : List α => [.list false (l.map e)]) (fun l => l.length ≤ 9223372036854775807 ∧ ∀ a ∈ l, ok a) := by
  intro H enc w base spare held fuel cs x hx
  rcases DataW.trod_slice hu hx with ⟨rfl, _⟩ | ⟨a, len, cap, elems, rest, n, _, rfl, _, _, hlc, hcm, hel, hat, _, _⟩
  · refine ⟨[], ⟨by simp, by simp⟩, rfl, fun c hw hH j y z hy hz => ?_⟩
    match j with
    | 0 => simp at hy hz; subst hy hz; exact .lnil false
    | j + 1 => simp at hy
  · have hall : ∀ i, i < len → ∃ b, ok b ∧ ∃ ci, w.cells? base (a.add (i * P.cellsOf t')) (P.cellsOf t') = some ci ∧ RepC w (e b) ci := by
      intro i hi
      have := hat i hi
      rw [List.getElem?_eq_getElem (by omega)] at this
      cases hc : w.cells? base (a.add (i * P.cellsOf t')) (P.cellsOf t') with
      | none => rw [hc] at this; cases this
      | some ci =>
        rw [hc] at this
        obtain ⟨b, hb, hr⟩ := h H enc w base spare held n ci _ this
        exact ⟨b, hb, ci, rfl, hr⟩
    obtain ⟨l, hl, hq⟩ := exists_list len hall
    have hm : maxLen = 9223372036854775807 := by decide
    have hl9 : l.length ≤ 9223372036854775807 := by omega
    refine ⟨l, ⟨hl9, fun b hb => ?_⟩, rfl, fun c hw hH j y z hy hz => ?_⟩
    · obtain ⟨i, hi⟩ := List.getElem?_of_mem hb
      exact (hq i b hi).1
    match j with
    | j + 1 => simp at hy
    | 0 =>
    simp at hy hz
    subst hy hz
    have hcell : ∀ (i : Nat) b, l[i]? = some b → ∃ ci, RepC w (e b) ci ∧ ci.length = P.cellsOf t' ∧ ∀ (q : Nat) x, ci[q]? = some x → w.cell? ((a.add (i * P.cellsOf t')).add q) = some x := by
      intro i b hb
      obtain ⟨_, ci, h1, h2⟩ := hq i b hb
      obtain ⟨h3, h4⟩ := cells_get h1
      exact ⟨ci, h2, h3, h4⟩
    have hfirst : l ≠ [] → a.spot = none ∧ a.block < w.heap.size := by
      intro hne
      obtain ⟨b, hb⟩ : ∃ b, l[0]? = some b := get_of_len (List.length_pos_iff.2 hne)
      obtain ⟨ci, _, h3, h4⟩ := hcell 0 b hb
      obtain ⟨x, hx⟩ : ∃ x, ci[0]? = some x := get_of_len (by omega)
      have := h4 0 x hx
      constructor
      · simpa [Addr.add] using World.cell?_spot this
      · have h5 := this
        unfold World.cell? at h5
        rcases Nat.lt_or_ge a.block w.heap.size with hlt | hge
        · exact hlt
        · have : w.heap[a.block]? = none := Array.getElem?_eq_none hge
          simp [Addr.add, this] at h5
    have key : ∀ (i : Nat) (b : α) (q : Nat) (y : AVal), l[i]? = some b → (e b)[q]? = some y → ∃ x, w.cell? ⟨a.block, a.off + (i * P.cellsOf t' + q), none⟩ = some x ∧ Rep c y x := by
      intro i b q y hb hy
      obtain ⟨ci, hr, h3, h4⟩ := hcell i b hb
      have hql : q < ci.length := by rw [← hr.1]; exact (List.getElem?_eq_some_iff.1 hy).1
      obtain ⟨x, hx⟩ := get_of_len hql
      refine ⟨x, ?_, hr.2 c hw hH q y x hy hx⟩
      have h5 := h4 q x hx
      have hsp := (hfirst (by intro h0; subst h0; simp at hb)).1
      obtain ⟨b0, o0, s0⟩ := a
      simp only at hsp
      subst hsp
      simp only [Addr.add_lit] at h5
      rw [← Nat.add_assoc]
      exact h5
    have := Rep.list (c := c) false (l.map e) a cap (P.cellsOf t') (fun i q => (w.cell? ⟨a.block, a.off + (i * P.cellsOf t' + q), none⟩).getD Go.undef) (fun hne => (hfirst (by intro h0; subst h0; simp at hne)).1) (by simp; omega)
      (fun hne => ⟨no_mu hH _, by rw [hw]; exact (hfirst (by intro h0; subst h0; simp at hne)).2, fun h => by cases h⟩)
      (fun i el he => by
        obtain ⟨b, hb, rfl⟩ := map_get he
        obtain ⟨ci, hr, h3, _⟩ := hcell i b hb
        rw [hr.1, h3])
      (fun i el q y he hy => by
        obtain ⟨b, hb, rfl⟩ := map_get he
        obtain ⟨x, hx, _⟩ := key i b q y hb hy
        rw [hw, hx]
        rfl)
      (fun i el q y he hy => by
        obtain ⟨b, hb, rfl⟩ := map_get he
        obtain ⟨x, hx, hr⟩ := key i b q y hb hy
        rw [hx]
        exact hr)
    rw [List.length_map, hl] at this
    exact this

/-- The same of an argument. -/
def ArgR (P : Program) (t : TypeId) {α : Type} (e : α → AVal) (ok : α → Prop) : Prop :=
  ∀ (H : Type) (enc : TypeId × Value → H) (W : World) (base : Nat) (v : Value) (d : DataW H) (p : List MemPlace), Value.okWide P W .any base t v → DataW.Trod enc P W 0 (fun _ => true) true t v d p →
    ∃ a, ok a ∧ ∀ c : Ctx, c.w = W → (∀ id, c.H id = none) → Rep c (e a) v

theorem ArgR.struct {fs : Array Field} {α : Type} {e : α → List AVal} {ok : α → Prop} (hu : P.underlying t = some (.struct fs)) (h : Reader P t e ok) : ArgR P t (fun a => .agg (e a)) ok := by
  intro H enc W base v d p hv ⟨fuel, hd⟩
  obtain ⟨a, ha, hl, hr⟩ := h H enc W 0 _ true fuel _ _ hd
  refine ⟨a, ha, fun c hw hH => ?_⟩
  simp only [Value.okWide, hu] at hv
  obtain ⟨cs, rfl, _, _⟩ := hv
  have := Rep.agg (c := c) (e a) cs.toList (by simpa [Value.cells] using hl) (fun i b x hb hx => hr c hw hH i b x hb (by simpa [Value.cells] using hx))
  simpa using this

theorem ArgR.cell {α : Type} {x : α → AVal} {ok : α → Prop} (hc : ∀ (W : World) (base : Nat) (v : Value), Value.okWide P W .any base t v → v.cells = #[v]) (h : Reader P t (fun a => [x a]) ok) : ArgR P t x ok := by
  intro H enc W base v d p hv ⟨fuel, hd⟩
  obtain ⟨a, ha, hl, hr⟩ := h H enc W 0 _ true fuel _ _ hd
  refine ⟨a, ha, fun c hw hH => ?_⟩
  exact hr c hw hH 0 _ v rfl (by rw [hc W base v hv]; rfl)

theorem cell_int {k : IntKind} (hu : P.underlying t = some (.int k)) (W : World) (base : Nat) (v : Value) (h : Value.okWide P W .any base t v) : v.cells = #[v] := by
  simp only [Value.okWide, hu, Cell.okWide] at h
  cases v <;> first | rfl | (simp [Cell.ok, hu] at h)
theorem cell_bool (hu : P.underlying t = some .bool) (W : World) (base : Nat) (v : Value) (h : Value.okWide P W .any base t v) : v.cells = #[v] := by
  simp only [Value.okWide, hu, Cell.okWide] at h
  cases v <;> first | rfl | (simp [Cell.ok, hu] at h)
theorem cell_string (hu : P.underlying t = some .string) (W : World) (base : Nat) (v : Value) (h : Value.okWide P W .any base t v) : v.cells = #[v] := by
  simp only [Value.okWide, hu, Cell.okWide] at h
  cases v <;> first | rfl | (simp [Cell.ok, hu] at h)
theorem cell_slice {e : TypeId} (hu : P.underlying t = some (.slice e)) (W : World) (base : Nat) (v : Value) (h : Value.okWide P W .any base t v) : v.cells = #[v] := by
  simp only [Value.okWide, hu, Cell.okWide] at h
  cases v <;> first | rfl | (simp [Cell.ok, hu] at h)

/-- The same of all arguments. -/
def ArgsR (P : Program) (ts : List TypeId) {α : Type} (e : α → List AVal) (ok : α → Prop) : Prop :=
  ∀ (H : Type) (enc : TypeId × Value → H) (W : World) (base : Nat) (vs : List Value) (ds : List (DataW H)) (p : List MemPlace), (∀ (j : Nat) t v, ts[j]? = some t → vs[j]? = some v → Value.okWide P W .any base t v) →
    DataW.TrodAll enc P W 0 (fun _ => true) true ts vs ds p → ∃ a, ok a ∧ ∀ c : Ctx, c.w = W → (∀ id, c.H id = none) → RepL c (e a) vs

theorem ArgsR.nil : ArgsR P [] (fun _ : Unit => []) (fun _ => True) := by
  intro H enc W base vs ds p _ h
  obtain ⟨rfl, _, _⟩ := ChangeShapes.trodAll_nil h
  exact ⟨(), trivial, fun c _ _ => ⟨rfl, fun i a x ha => by simp at ha⟩⟩

theorem ArgsR.cons {ts : List TypeId} {α β : Type} {e : α → AVal} {ok : α → Prop} {e' : β → List AVal} {ok' : β → Prop} (h : ArgR P t e ok) (k : ArgsR P ts e' ok') : ArgsR P (t :: ts) (fun p : α × β => e p.1 :: e' p.2) (fun p => ok p.1 ∧ ok' p.2) := by
  intro H enc W base vs ds p hv hA
  obtain ⟨v, vs', d, ds', q1, q2, rfl, rfl, rfl, h1, h2⟩ := ChangeShapes.trodAll_cons hA
  obtain ⟨a, ha, hr⟩ := h H enc W base v d q1 (hv 0 t v rfl rfl) h1
  obtain ⟨b, hb, hs⟩ := k H enc W base vs' ds' q2 (fun j u x hu hx => hv (j + 1) u x (by simpa using hu) (by simpa using hx)) h2
  refine ⟨(a, b), ⟨ha, hb⟩, fun c hw hH => ?_⟩
  have r1 := hr c hw hH
  obtain ⟨r2, r3⟩ := hs c hw hH
  refine ⟨by simp [r2], fun i y x hy hx => ?_⟩
  match i with
  | 0 => simp at hy hx; subst hy hx; exact r1
  | i + 1 => exact r3 i y x (by simpa using hy) (by simpa using hx)

/-- A contract, as what the model's call does. -/
theorem PureC.calls {f : FuncId} {args : List AVal} {x : Value} (h : PureC P f args (fun r => r = .v x)) (W : World) (xs : List Value) (hr : ∀ c : Ctx, c.w = W → (∀ id, c.H id = none) → RepL c args xs) :
    Calls P f xs.toArray W fun e W' => e = .returned x ∧ Below W.heap.size W W' := by
  refine (h ⟨W.heap.size, fun _ => 0, noHeap, 0, W⟩ xs rfl rfl (good_bare W) (hr _ rfl (fun _ => rfl))).mono ?_
  rintro e w' ⟨y, v, c', he, hw, ⟨r, hres, hR⟩, hv, hg, hk⟩
  subst hw hR
  have hy := (hres c' y rfl rfl hg hv ⟨0, fun _ => 0, noHeap, 0, c'.w⟩ rfl (fun k hk => by obtain ⟨id, o, ho, _⟩ := hk; cases ho) (Nat.zero_le _)).v_inv
  subst hy
  exact ⟨he, hk.os, hk.tape, hk.output, hk.size, fun k hk' => (hk.imm k hk' (by rintro ⟨id, o, ho, _⟩; cases ho)).1⟩

theorem Below.trodAll {H : Type} {enc : TypeId × Value → H} (hl : laidOutB P = true) {W W' : World} (hb : Below W.heap.size W W') : ∀ {ts : List TypeId} {vs : List Value} {ds : List (DataW H)} {ps : List MemPlace},
    ts.all (fun t => P.readableRec t && decide (t < P.types.size)) = true → DataW.TrodAll enc P W 0 (fun _ => true) true ts vs ds ps → (∀ x ∈ ps, x.block < W.heap.size) → DataW.TrodAll enc P W' 0 (fun b => decide (b < W.heap.size)) true ts vs ds ps
  | [], vs, ds, ps, _, h, _ => by
    obtain ⟨rfl, rfl, rfl⟩ := ChangeShapes.trodAll_nil h
    exact rfl
  | t :: ts, vs, ds, ps, hr, h, hp => by
    obtain ⟨v, vs', d, ds', q1, q2, rfl, rfl, rfl, h1, h2⟩ := ChangeShapes.trodAll_cons h
    simp only [List.all_cons, Bool.and_eq_true, decide_eq_true_eq] at hr
    exact ⟨q1, q2, Go.RowKit.Below.trod hl hr.1.1 hr.1.2 h1 hb (fun x hx => hp x (by simp [hx])), Below.trodAll hl hb (by simpa using hr.2) h2 (fun x hx => hp x (by simp [hx])), rfl⟩

/-- WHAT A ROW OWES BEHIND A CALL THAT ANSWERS 'true' AND LEAVES OLD MEMORY ALONE. -/
theorem post_true {H : Type} {enc : TypeId × Value → H} {fn : Func} {s : ChangeSpec} {fresh handsOn : Bool} {W W' : World} {args : Array Value} {ds gs : List (DataW H)} {before : List MemPlace} {tb : TypeId}
    (hl : laidOutB P = true) (hvars : s.vars = []) (hrt : fn.resultTypes = #[tb]) (htb : P.underlying tb = some .bool) (hread : fn.params.toList.all (fun t => P.readableRec t && decide (t < P.types.size)) = true)
    (hres : (s.fn H ds).results = [.lit (.bool true)]) (hargs : (s.fn H ds).args = ds) (hvs : (s.fn H ds).vars = []) (hW : DataW.Whole enc P fn.params.toList s.vars false W args.toList ds gs before) (hb : Below W.heap.size W W') :
    s.post enc P fn false fresh handsOn false W args (.bool true) W' := by
  have hlt : ∀ x ∈ before, x.block < W.heap.size := fun x hx => by simpa using hW.lt x hx
  have hW0 := hW
  obtain ⟨p, q, hA, hV, rfl, _, _⟩ := hW0
  rw [hvars] at hV
  obtain ⟨hgs, hq⟩ := ChangeShapes.trodVars_none hV
  subst hgs hq
  refine ⟨ds, [], p ++ [], [], p, [], hW, ?_, ?_, ?_, hb.frame _, fun h => by cases h⟩
  · rw [List.append_nil, hres, hrt]
    exact ChangeShapes.trodAll_mk1 (shut_bool htb true)
  · rw [List.append_nil, hargs]
    exact Below.trodAll hl hb hread hA (fun x hx => hlt x (by simp [hx]))
  · rw [List.append_nil, hvs, hvars]
    exact rfl

theorem trodAll_len {H : Type} {enc : TypeId × Value → H} {w : World} {base : Nat} {sp : Nat → Bool} {hd : Bool} : ∀ {ts : List TypeId} {vs : List Value} {ds : List (DataW H)} {ps : List MemPlace}, DataW.TrodAll enc P w base sp hd ts vs ds ps → ds.length = ts.length
  | [], vs, ds, ps, h => by obtain ⟨_, rfl, _⟩ := ChangeShapes.trodAll_nil h; rfl
  | t :: ts, vs, ds, ps, h => by
    obtain ⟨v, vs', d, ds', q1, q2, rfl, rfl, rfl, h1, h2⟩ := ChangeShapes.trodAll_cons h
    simp [trodAll_len h2]
end

/-- A LAW WHOSE CONTRACT IS PROVED, AS ITS ROW's MAIN PROOF. -/
theorem lift_law {C : Checked} {os : Os} {f : FuncId} {fn : Func} {s : ChangeSpec} {laid : List (String × DataW Unit)} {α : Type} {e : α → List AVal} {ok : α → Prop} {tb : TypeId} {H : Type} {enc : TypeId × Value → H}
    (own : ownKnob C.prog.godebug = none) (started : os.Started) (hinit : C.prog.inits.idxOf? f = none) (hfn : C.prog.funcs[f]? = some fn) (hl : laidOutB C.prog = true)
    (wit : ∃ (w : World) (tape : Tape) (i : Input), w.os = os ∧ (w.forCall tape i).Shaped C.prog ∧ i.vars = [] ∧ Input.okWide C.prog (w.forCall tape i) .any w.heap.size f i ∧
      ((s.pre enc C.prog fn [] false (w.forCall tape i).memory i.args ∧ laidMetH C.prog laid (w.forCall tape i).memory) ∧ sizedMet enc C.prog fn (OpenSpec.ofChange s) false (w.forCall tape i).memory i.args) ∧ ({} : Assume).holds C.prog (lone (Frame.enter C.prog f i.args .normal) [] (w.forCall tape i)))
    (hR : ArgsR C.prog fn.params.toList e ok) (hlaw : ∀ a, ok a → PureC C.prog f (e a) (fun r => r = .v (.bool true)))
    (hvars : s.vars = []) (hrt : fn.resultTypes = #[tb]) (htb : C.prog.underlying tb = some .bool) (hread : fn.params.toList.all (fun t => C.prog.readableRec t && decide (t < C.prog.types.size)) = true)
    (hs : ∀ ds : List (DataW H), ds.length = fn.params.toList.length → (s.fn H ds).results = [.lit (.bool true)] ∧ (s.fn H ds).args = ds ∧ (s.fn H ds).vars = []) :
    ReturnsInHanded {} C os f .any (fun w args => (s.pre enc C.prog fn [] false w args ∧ laidMetH C.prog laid w) ∧ sizedMet enc C.prog fn (OpenSpec.ofChange s) false w args)
      (s.post enc C.prog fn false true false false) := by
  refine returnsInHanded_of_change_and (C := C) (X := fun w _ => laidMetH C.prog laid w) (fun _ _ _ hh h => h.of_heap hh) own started hinit hfn wit ?_
  intro W base args ds gs before hval hW _ _ _ _
  have hW0 := hW
  obtain ⟨p, q, hA, _, _, _, _⟩ := hW0
  have hlen := trodAll_len hA
  obtain ⟨a, ha, hr⟩ := hR H enc W base args.toList ds p (fun j t v ht hv => hval j t v (by simpa using ht) (by simpa using hv)) hA
  obtain ⟨h1, h2, h3⟩ := hs ds hlen
  have hc := PureC.calls (hlaw a ha) W args.toList hr
  rw [Array.toArray_toList] at hc
  refine hc.mono ?_
  rintro e W' ⟨he, hb⟩
  exact ⟨_, he, post_true hl hvars hrt htb hread h1 h2 h3 hW hb⟩
end Go.Ab

/- The abstract machine, part Sv: regions that draw their order and slice arrays of the call's own. -/
namespace Go.Ab
set_option linter.unusedSectionVars false
set_option linter.unusedSimpArgs false
set_option linter.unusedVariables false

/-- As kindOp, but a slice is told of as if it looked at no memory: what is sliced is watched. -/
def kindV : Op → Nat
  | .slice .. => 0
  | op => kindOp op

def watchOf : AVal → List Id
  | .arr id _ _ _ => [id]
  | _ => []

section
variable (P : Program) (N : Nat) (ops : Array Oper) (W : List Id)

def StepV (o : Oper) (s s' : AS) : Prop :=
  (gok ops o s.1 = some true ∧ ∃ v, s'.1 = s.1.put o.dst v ∧ (kindV o.op = 0 → s'.2 = s.2 ∧ ∀ H n, (∀ i ∈ W, H i = s.2.1 i) → OpSem P N o (loc o.op s.1) H n (isV v H n)) ∧ (kindV o.op = 1 → s'.2 = s.2) ∧
      (∀ i ∈ W, s'.2.1 i = s.2.1 i) ∧ OpSem P N o (loc o.op s.1) s.2.1 s.2.2 (isV v s'.2.1 s'.2.2)) ∨
  (gok ops o s.1 = some false ∧ s' = (s.1.put o.dst skv, s.2))

def AnyV (R : AS → Prop) : Nat → Array Bool → AS → Prop
  | 0, listed, s => Region.ready .any ops listed = [] ∧ R s
  | fuel + 1, listed, s => (Region.ready .any ops listed = [] → R s) ∧ ∀ i ∈ Region.ready .any ops listed, ∃ o s', ops[i]? = some o ∧ StepV P N ops W o s s' ∧ AnyV R fuel (listed.setIfInBounds i true) s'

def RunV (R : AS → Prop) : List Oper → AS → Prop
  | [], s => R s
  | o :: l, s => ∃ s', StepV P N ops W o s s' ∧ RunV R l s'
end

section
variable {P : Program} {N : Nat} {ops : Array Oper} {W : List Id}

theorem StepV.diamond {oi oj : Oper} (hap : oi.apart ops oj = true) (hc : compat (kindV oi.op) (kindV oj.op) = true) {s si sij : AS} (hi : StepV P N ops W oi s si) (hj : StepV P N ops W oj si sij) : ∃ sj, StepV P N ops W oj s sj ∧ StepV P N ops W oi sj sij := by
  obtain ⟨h1, h2, h3⟩ := Oper.apart_spec hap
  have lj : ∀ v, loc oj.op (s.1.put oi.dst v) = loc oj.op s.1 := fun v => loc_put (looks_tmps h1)
  have li : ∀ v, loc oi.op (s.1.put oj.dst v) = loc oi.op s.1 := fun v => loc_put (looks_tmps h3)
  have gj : ∀ v, gok ops oj (s.1.put oi.dst v) = gok ops oj s.1 := fun v => gok_put h1
  have gi : ∀ v, gok ops oi (s.1.put oj.dst v) = gok ops oi s.1 := fun v => gok_put h3
  have hcc : kindV oi.op = 0 ∨ kindV oj.op = 0 ∨ (kindV oi.op = 1 ∧ kindV oj.op = 1) := by
    simp only [compat, Bool.or_eq_true, beq_iff_eq, Bool.and_eq_true] at hc
    rcases hc with (h | h) | h
    · exact .inl h
    · exact .inr (.inl h)
    · exact .inr (.inr h)
  obtain ⟨ρ, H, n⟩ := s
  obtain ⟨ρi, Hi, ni⟩ := si
  obtain ⟨ρj, Hj, nj⟩ := sij
  simp only at lj li gj gi
  rcases hi with ⟨hgi, v, hv, hk0, hk1, hw, hop⟩ | ⟨hgi, hs⟩
  · simp only at hgi hv hk0 hk1 hw hop
    subst hv
    rcases hj with ⟨hgj, u, hu, hl0, hl1, hx, hoq⟩ | ⟨hgj, hs'⟩
    · simp only at hgj hu hl0 hl1 hx hoq
      subst hu
      rw [gj] at hgj
      rw [lj] at hl0 hoq
      rcases hcc with h0 | h0 | ⟨h0, h0'⟩
      · obtain ⟨he, hall⟩ := hk0 h0
        cases he
        refine ⟨(ρ.put oj.dst u, Hj, nj), .inl ⟨hgj, u, rfl, hl0, hl1, hx, hoq⟩, .inl ⟨by simpa only [gi] using hgi, v, by rw [put_comm v u h2], fun _ => ⟨rfl, ?_⟩, fun _ => rfl, fun _ _ => rfl, ?_⟩⟩
        · simp only [li]
          exact fun H' n' hH' => hall H' n' fun i hi => (hH' i hi).trans (hx i hi)
        · simp only [li]
          exact hall Hj nj hx
      · obtain ⟨he, hall⟩ := hl0 h0
        cases he
        refine ⟨(ρ.put oj.dst u, H, n), .inl ⟨hgj, u, rfl, fun _ => ⟨rfl, fun H' n' hH' => hall H' n' fun i hi => (hH' i hi).trans (hw i hi).symm⟩, fun _ => rfl, fun _ _ => rfl, hall H n fun i hi => (hw i hi).symm⟩,
          .inl ⟨by simpa only [gi] using hgi, v, by rw [put_comm v u h2], by simpa only [li] using hk0, hk1, hw, ?_⟩⟩
        simp only [li]
        exact hop
      · have e1 := hk1 h0
        have e2 := hl1 h0'
        cases e1
        cases e2
        refine ⟨(ρ.put oj.dst u, H, n), .inl ⟨hgj, u, rfl, hl0, hl1, hx, hoq⟩, .inl ⟨by simpa only [gi] using hgi, v, by rw [put_comm v u h2], by simpa only [li] using hk0, hk1, hw, ?_⟩⟩
        simp only [li]
        exact hop
    · simp only at hgj hs'
      cases hs'
      rw [gj] at hgj
      refine ⟨(ρ.put oj.dst skv, H, n), .inr ⟨hgj, rfl⟩, .inl ⟨by simpa only [gi] using hgi, v, by rw [put_comm v skv h2], by simpa only [li] using hk0, hk1, hw, ?_⟩⟩
      simp only [li]
      exact hop
  · simp only at hgi hs
    cases hs
    rcases hj with ⟨hgj, u, hu, hl0, hl1, hx, hoq⟩ | ⟨hgj, hs'⟩
    · simp only at hgj hu hl0 hl1 hx hoq
      subst hu
      rw [gj] at hgj
      rw [lj] at hl0 hoq
      exact ⟨(ρ.put oj.dst u, Hj, nj), .inl ⟨hgj, u, rfl, hl0, hl1, hx, hoq⟩, .inr ⟨by simpa only [gi] using hgi, by rw [put_comm skv u h2]⟩⟩
    · simp only at hgj hs'
      cases hs'
      rw [gj] at hgj
      exact ⟨(ρ.put oj.dst skv, H, n), .inr ⟨hgj, rfl⟩, .inr ⟨by simpa only [gi] using hgi, by rw [put_comm skv skv h2]⟩⟩

theorem AnyV.first {R : AS → Prop} {i : Nat} {oi : Oper} (hi : ops[i]? = some oi) (D : List Nat) (hD : ∀ j oj, ops[j]? = some oj → j ∈ D → j ≠ i → ∃ e ∈ oj.after, Region.binds .any e = true ∧ e.on ∈ D) : ∀ (fuel : Nat) (listed : Array Bool) (s s' : AS),
    (∀ j ∈ D, listed.getD j true = false) → (∀ j oj, ops[j]? = some oj → j ≠ i → listed.getD j true = false → j ∉ D → oi.apart ops oj = true ∧ compat (kindV oi.op) (kindV oj.op) = true) →
    i ∈ Region.ready .any ops listed → StepV P N ops W oi s s' → AnyV P N ops W R fuel (listed.setIfInBounds i true) s' → AnyV P N ops W R (fuel + 1) listed s := by
  intro fuel
  induction fuel with
  | zero =>
    intro listed s s' _ _ hr hst H
    refine ⟨fun h => (by rw [h] at hr; cases hr), fun j hj => ?_⟩
    by_cases hji : j = i
    · subst hji; exact ⟨oi, s', hi, hst, H⟩
    · have := ready_mono hj hji
      rw [H.1] at this
      cases this
  | succ fuel ih =>
    intro listed s s' hinv hfree hr hst H
    refine ⟨fun h => (by rw [h] at hr; cases hr), fun j hj => ?_⟩
    by_cases hji : j = i
    · subst hji; exact ⟨oi, s', hi, hst, H⟩
    · obtain ⟨oj, s'', hoj, hstj, hrest⟩ := H.2 j (ready_mono hj hji)
      obtain ⟨hjun, oj', hoj', hall⟩ := mem_ready.1 hj
      rw [hoj] at hoj'
      cases hoj'
      have hnot : j ∉ D := fun hd => by
        obtain ⟨e, he, hb, hed⟩ := hD j oj hoj hd hji
        have h1 := hall e he hb
        have h0 := hinv e.on hed
        rcases Nat.lt_or_ge e.on listed.size with h' | h'
        · simp [h'] at h0 h1; rw [h0] at h1; cases h1
        · simp [Array.getElem?_eq_none h'] at h1
      obtain ⟨hap, hco⟩ := hfree j oj hoj hji hjun hnot
      obtain ⟨sj, h1, h2⟩ := StepV.diamond hap hco hst hstj
      refine ⟨oj, sj, hoj, h1, ih (listed.setIfInBounds j true) sj s'' (fun k hk => ?_) (fun k ok hk hki hun hno => ?_) (ready_mono hr (Ne.symm hji)) h2 ?_⟩
      · have hjk : j ≠ k := fun he => hnot (he ▸ hk)
        rw [getD_set_ne true hjk]
        exact hinv k hk
      · refine hfree k ok hk hki ?_ hno
        by_cases hjk : j = k
        · subst hjk; exact hjun
        · rw [getD_set_ne true hjk] at hun; exact hun
      · rw [Array.setIfInBounds_comm _ _ hji]
        exact hrest

theorem AnyV.lex {R : AS → Prop} : ∀ (l : List Oper) (k : Nat) (listed : Array Bool) (s : AS), (∀ j : Nat, l[j]? = ops[k + j]?) → lexD kindV ops l.length k listed = true → RunV P N ops W R l s → AnyV P N ops W R l.length listed s
  | [], _, _, _, _, hB, h => ⟨by simpa [lexD] using hB, h⟩
  | o :: l, k, listed, s, hl, hB, h => by
    have h0 : ops[k]? = some o := by simpa using (hl 0).symm
    simp only [List.length_cons, lexD, Bool.and_eq_true] at hB
    obtain ⟨⟨hr, hf⟩, hB'⟩ := hB
    obtain ⟨s', hst, hrest⟩ := h
    obtain ⟨f1, f2, f3⟩ := freeD_spec h0 hf
    exact AnyV.first h0 (behind ops k) f1 l.length listed s s' f2 f3 (by simpa using hr) hst
      (AnyV.lex l (k + 1) _ _ (fun j => by have := hl (j + 1); simpa [Nat.add_assoc, Nat.add_comm 1 j] using this) hB' hrest)

theorem AnyV.sound {R : AS → Prop} (hN : ops.toList.all (fun o => dok N o.dst) = true) {Q : Exit → Act → World → Prop} {c0 : Ctx} (hQ : ∀ a c ρ, Keeps c0 c → Good c → RelE N c ρ a → R (ρ, c.H, c.n) → Q .normal a c.w) :
    ∀ (fuel : Nat) (listed : Array Bool) (ρ : Env) (c : Ctx) (a : Act), Keeps c0 c → Good c → RelE N c ρ a → AnyV P N ops W R fuel listed (ρ, c.H, c.n) → wpAny P .any ops Q fuel listed a c.w
  | 0, _, _, _, _, hk, g, r, h => ⟨h.1, hQ _ _ _ hk g r h.2⟩
  | fuel + 1, listed, ρ, c, a, hk, g, r, h => by
    refine ⟨fun h0 => hQ _ _ _ hk g r (h.1 h0), fun i hi => ?_⟩
    obtain ⟨o, s', ho, hst, hrest⟩ := h.2 i hi
    obtain ⟨ρ', H', n'⟩ := s'
    have hd : dok N o.dst = true := List.all_eq_true.1 hN o (by rw [← Array.getElem?_toList] at ho; exact List.mem_of_getElem? ho)
    unfold wpOp
    simp only [ho]
    rcases hst with ⟨hg, v, hv, _, _, _, hop⟩ | ⟨hg, hs⟩
    · rw [if_pos (wanted_of_gok r hN hg)]
      simp only at hv hop
      subst hv
      refine .inl (hop c a rfl rfl g (r.loc o.op) _ _ ?_)
      rintro v1 x c' ⟨rfl, hH, hn⟩ hrep hgood hkeep
      exact AnyV.sound hN hQ fuel _ _ c' _ (hk.trans hkeep) hgood ((r.keeps hkeep).put hd hrep) (by rw [hH, hn]; exact hrest)
    · rw [if_neg (by rw [wanted_of_gok r hN hg]; simp)]
      cases hs
      exact AnyV.sound hN hQ fuel _ _ c _ hk g (r.put hd (.v _)) hrest
end

section
variable {P : Program} {f : FuncId} {N : Nat} {k : List Item} {ρ : Env} {H : Heap} {n : Nat} {Q : AVal → Heap → Nat → Prop}
theorem Runs.drawV (W : List Id) {id : Nat} {ops : List Oper} (hm : P.follows .mixedOrders = true) (hN : ops.all (fun o => dok N o.dst) = true) (hB : drawOk kindV ops.toArray = true)
    (h : RunV P N ops.toArray W (fun s => Runs P f N k s.1 s.2.1 s.2.2 Q) ops (ρ, H, n)) : Runs P f N (.code (.region id ops.toArray true) :: k) ρ H n Q := by
  intro c a hH hn g r b cs hf hk
  subst hH
  subst hn
  obtain ⟨d1, d2⟩ := draw_keeps g
  have hany := AnyV.lex (P := P) (N := N) (W := W) (ops := ops.toArray) ops 0 (Array.replicate ops.toArray.size false) (ρ, c.H, c.n) (by simp) (by simpa [drawOk] using hB) h
  have hw : (Code.region id ops.toArray true).wp P (fun e a' w' => e = .normal ∧ ∃ c' ρ', c'.w = w' ∧ Keeps c c' ∧ Good c' ∧ RelE N c' ρ' a' ∧ Runs P f N k ρ' c'.H c'.n Q) a c.w := by
    refine wp_region_any hm ?_
    have := AnyV.sound (P := P) (N := N) (W := W) (ops := ops.toArray) (c0 := c) (by simpa using hN) (Q := fun e a' w' => e = .normal ∧ ∃ c' ρ', c'.w = w' ∧ Keeps c c' ∧ Good c' ∧ RelE N c' ρ' a' ∧ Runs P f N k ρ' c'.H c'.n Q)
      (R := fun s => Runs P f N k s.1 s.2.1 s.2.2 Q) (fun a' c' ρ' hk' hg' hr' hR => ⟨rfl, c', ρ', rfl, hk', hg', hr', hR⟩) ops.length (Array.replicate ops.toArray.size false) ρ { c with w := { c.w with drawn := c.w.drawn + 1 } } a d1 d2 (r.keeps d1) hany
    simpa using this
  obtain ⟨e, a', w', ⟨rfl, c', ρ', rfl, hk', hg', hr', hR⟩, harr⟩ := hw b k cs
  obtain ⟨x, v, c'', fr, q, hr, hg, hke, hst, rest⟩ := hR c' a' rfl rfl hg' hr' b cs hf hk
  exact ⟨x, v, c'', fr, q, hr, hg, hk'.trans hke, Steps.trans harr hst, rest⟩
end

/-- What an operation must leave as it is. -/
def okV (W : List Id) (o : Oper) (ρ : Env) (H H' : Heap) : Prop :=
  (∀ i ∈ W, H' i = H i) ∧ ∀ t x lo hi mx, o.op = .slice t x lo hi mx → ∀ id g a b, ρ.ev x = .arr id g a b → id ∈ W

section
variable (P : Program) (f : FuncId) (N : Nat) (k : List Item) (Q : AVal → Heap → Nat → Prop) (Ty : Types) (W : List Id) (ops : Array Oper)
def evalV : List Oper → Env → Heap → Nat → Prop
  | [], ρ, H, n => Runs P f N k ρ H n Q
  | o :: l, ρ, H, n => o.guard = none ∧ match stepF Ty o.dst o.op ρ H n with
    | some (v, H', n') => okV W o ρ H H' ∧ evalV l (ρ.put o.dst v) H' n'
    | none => False
def bindV (r : Option (AVal × Heap × Nat)) (o : Oper) (l : List Oper) (ρ : Env) (H : Heap) : Prop :=
  match r with
  | some (v, H', n') => okV W o ρ H H' ∧ evalV P f N k Q Ty W l (ρ.put o.dst v) H' n'
  | none => False
end

section
variable {P : Program} {f : FuncId} {N : Nat} {k : List Item} {Q : AVal → Heap → Nat → Prop} {Ty : Types} {W : List Id} {ops : Array Oper} {o : Oper} {L : List Oper} {ρ : Env} {H : Heap} {n : Nat}
@[simp] theorem evalV_nil : evalV P f N k Q Ty W [] ρ H n = Runs P f N k ρ H n Q := rfl
@[simp] theorem evalV_op {d : Option Tmp} {op : Op} {ty : TypeId} {pos : String} {af : Array Edge} : evalV P f N k Q Ty W (⟨d, op, ty, pos, af, none⟩ :: L) ρ H n = bindV P f N k Q Ty W (stepF Ty d op ρ H n) ⟨d, op, ty, pos, af, none⟩ L ρ H := by
  simp only [evalV, true_and]; rfl
/-- An operation that leaves the heap as it is and slices nothing of the call's own. -/
@[simp] theorem bindV_same {v : AVal} {n' : Nat} : bindV P f N k Q Ty W (some (v, H, n')) o L ρ H = ((∀ t x lo hi mx, o.op = .slice t x lo hi mx → ∀ id g a b, ρ.ev x = .arr id g a b → id ∈ W) ∧ evalV P f N k Q Ty W L (ρ.put o.dst v) H n') := by
  simp [bindV, okV]
theorem bindV_new {v : AVal} {H' : Heap} {n' : Nat} (hw : ∀ i ∈ W, H' i = H i) (ho : ∀ t x lo hi mx, o.op ≠ .slice t x lo hi mx) (h : evalV P f N k Q Ty W L (ρ.put o.dst v) H' n') : bindV P f N k Q Ty W (some (v, H', n')) o L ρ H :=
  ⟨⟨hw, fun t x lo hi mx he => absurd he (ho t x lo hi mx)⟩, h⟩

theorem sliceF_watch {H2 : Heap} {t : TypeId} {x v : AVal} {lo hi : Option AVal} (h : sliceF Ty H t x lo hi = some v) (hw : ∀ id g a b, x = .arr id g a b → H2 id = H id) : sliceF Ty H2 t x lo hi = some v := by
  unfold sliceF at h ⊢
  split at h
  · simp_all
  · simp_all
  · have := hw _ _ _ _ rfl
    simp_all [live]
  · simp_all
  · cases h
theorem kindV_slice {op : Op} (h : kindV op = 0) : (∃ t x lo hi mx, op = .slice t x lo hi mx) ∨ kindOp op = 0 := by
  unfold kindV at h
  split at h
  · exact .inl ⟨_, _, _, _, _, rfl⟩
  · exact .inr h
theorem kindV_one {op : Op} (h : kindV op = 1) : kindOp op = 1 := by
  unfold kindV at h
  split at h
  · cases h
  · exact h
theorem StepV.of_step (hT : TypesOk P Ty) {v : AVal} {H' : Heap} {n' : Nat} (hg : gok ops o ρ = some true) (hs : stepF Ty o.dst o.op ρ H n = some (v, H', n')) (ho : okV W o ρ H H') : StepV P N ops W o (ρ, H, n) (ρ.put o.dst v, H', n') := by
  have hl : stepF Ty o.dst o.op (loc o.op ρ) H n = some (v, H', n') := by rw [stepF_loc]; exact hs
  refine .inl ⟨hg, v, rfl, fun h0 => ?_, fun h1 => ?_, ho.1, stepF_ok hT hl⟩
  · rcases kindV_slice h0 with ⟨t, x, lo, hi, mx, he⟩ | h0
    · have h12 : H' = H ∧ n' = n := stepF_k1 (by rw [he]; rfl) hl
      obtain ⟨e1, e2⟩ := h12
      subst e1
      subst e2
      refine ⟨rfl, fun H2 n2 h2 => stepF_ok hT ?_⟩
      rw [stepF_loc]
      have hx := ho.2 t x lo hi mx he
      simp only at h2
      rw [he] at hs ⊢
      cases mx with
      | some m => cases hs
      | none =>
        simp only [stepF] at hs ⊢
        cases hv : sliceF Ty H' t (ρ.ev x) (lo.map ρ.ev) (hi.map ρ.ev) with
        | none => rw [hv] at hs; cases hs
        | some v' =>
          rw [hv] at hs
          cases hs
          rw [sliceF_watch hv fun id g a b hxe => h2 id (hx id g a b hxe)]
          rfl
    · obtain ⟨e1, e2, hall⟩ := stepF_k0 h0 hl
      subst e1
      subst e2
      exact ⟨rfl, fun H2 n2 _ => stepF_ok hT (hall H2 n2)⟩
  · obtain ⟨e1, e2⟩ := stepF_k1 (kindV_one h1) hl
    subst e1
    subst e2
    rfl
theorem evalV_sound (hT : TypesOk P Ty) : ∀ (l : List Oper) (ρ : Env) (H : Heap) (n : Nat), evalV P f N k Q Ty W l ρ H n → RunV P N ops W (fun s => Runs P f N k s.1 s.2.1 s.2.2 Q) l (ρ, H, n)
  | [], ρ, H, n, h => h
  | o :: l, ρ, H, n, h => by
    obtain ⟨hg, h⟩ := h
    cases hs : stepF Ty o.dst o.op ρ H n with
    | none => rw [hs] at h; exact h.elim
    | some r =>
      obtain ⟨v, H', n'⟩ := r
      rw [hs] at h
      exact ⟨_, StepV.of_step hT (by simp [gok, hg]) hs h.1, evalV_sound hT l _ _ _ h.2⟩
theorem Runs.seqV (hT : TypesOk P Ty) (W : List Id) {id : Nat} {ops : List Oper} {y : Code} (hm : P.follows .mixedOrders = true) (hN : ops.all (fun o => dok N o.dst) = true) (hB : drawOk kindV ops.toArray = true)
    (h : ∀ k' : List Item, (∀ ρ H n, Runs P f N (.code y :: k) ρ H n Q → Runs P f N k' ρ H n Q) → evalV P f N k' Q Ty W ops ρ H n) : Runs P f N (.code (.seq (.region id ops.toArray true) y) :: k) ρ H n Q :=
  Runs.seq (Runs.drawV W hm hN hB (evalV_sound hT ops _ _ _ (h (.code y :: k) fun _ _ _ h => h)))
theorem Runs.evalVE (hT : TypesOk P Ty) (W : List Id) {id : Nat} {ops : List Oper} (hm : P.follows .mixedOrders = true) (hN : ops.all (fun o => dok N o.dst) = true) (hB : drawOk kindV ops.toArray = true)
    (h : ∀ k' : List Item, (∀ ρ H n, Runs P f N k ρ H n Q → Runs P f N k' ρ H n Q) → evalV P f N k' Q Ty W ops ρ H n) : Runs P f N (.code (.region id ops.toArray true) :: k) ρ H n Q :=
  Runs.drawV W hm hN hB (evalV_sound hT ops _ _ _ (h k fun _ _ _ h => h))
end

section
variable {P : Program} {f f' : FuncId} {N : Nat} {k : List Item} {Q : AVal → Heap → Nat → Prop} {Ty : Types} {W : List Id} {L : List Oper} {ρ : Env} {H : Heap} {n : Nat} {K K1 K2 : List OwnE} {ids : List Id} {t : TypeId} {j : TI} {l : List Sh} {v : AVal} {es : List (List AVal)} {o : Oper}
/-- Where an own array of plain cells lies. -/
theorem Sep.at {α : Type} {g : α → List AVal} {xs : List α} (h : Sep H n ((.s l, v, .list true (xs.map g)) :: K) ids) (hf : ∀ t ∈ l, t = .c) : ∀ i ∈ watchOf v, H i = some ⟨l.length, xs.map g⟩ ∧ i.1 < n := fun i hi => by
  obtain ⟨h0, S, h1, h2⟩ := h
  simp only [List.map_cons, Row, Tr] at h1
  obtain ⟨S1, S2, h3, _, rfl, _⟩ := h1
  rcases h3 with ⟨rfl, e, _⟩ | ⟨id, els, es', T, rfl, he, q3, q4, q5, rfl⟩
  · cases hi
  · injection he with _ he
    subst he
    have := rowsP.same hf q4
    subst this
    obtain rfl : i = id := by simpa [watchOf] using hi
    exact ⟨q3, (h2 i (by simp)).1⟩
theorem watch_set {W : List Id} {o o' : Ob} {d : Nat} (A : ∀ i ∈ W, H i = some o ∧ i.1 < n) : (∀ i ∈ W, (H.set (n, d) o') i = some o ∧ i.1 < n + 1) ∧ ∀ i ∈ W, (H.set (n, d) o') i = H i := by
  have h : ∀ i ∈ W, (H.set (n, d) o') i = H i := fun i hi => Heap.get_set_ne _ _ (by rintro rfl; have := (A _ hi).2; simp at this)
  exact ⟨fun i hi => ⟨(h i hi).trans (A i hi).1, by have := (A i hi).2; omega⟩, h⟩
theorem bindV_append {d : Nat} {x : AVal} (K1 K2 : List OwnE) (add adds : List (List AVal)) (hno : ∀ t x lo hi mx, o.op ≠ .slice t x lo hi mx) (h : Sep H n ((.s l, v, .list true es) :: (K1 ++ K2)) ids) (hk : kd Ty t = .slice j) (hj : j.size = l.length) (hz : j.zero.length = j.size ∧ j.bytes ≤ 131072)
    (hx : srcOf H x = some add) (ho : add.all (fun e => e.all Ab.one1) = true) (hadd : ∀ S, Row H (K1.map (·.1)) (K1.map (·.2.1)) (K1.map (·.2.2)) S → rowsP (Row H l) add adds S) (hne : adds ≠ []) (hlen : es.length + adds.length ≤ 1073741824)
    (hc : ∀ v' H' n', Sep H' n' ((.s l, v', .list true (es ++ adds)) :: K2) ids → (∀ i ∈ ids, H' i = H i) → n ≤ n' → (∀ i ∈ W, H' i = H i) ∧ evalV P f N k Q Ty W L (ρ.put o.dst v') H' n') : bindV P f N k Q Ty W (appendF Ty (some d) t v x H n) o L ρ H := by
  obtain ⟨v', H', n', h1, h2, h3, h4⟩ := Sep.append (d := d) h hk hj hz hx ho hadd hne hlen
  rw [h1]
  obtain ⟨h5, h6⟩ := hc v' H' n' h2 h3 h4
  exact bindV_new h5 hno h6
theorem bindV_append0 {d : Nat} {x : AVal} (add : List (List AVal)) (hno : ∀ t x lo hi mx, o.op ≠ .slice t x lo hi mx) (h : Sep H n ((.s l, v, .list true es) :: K) ids) (hf : ∀ t ∈ l, t = .c) (hk : kd Ty t = .slice j) (hj : j.size = l.length) (hz : j.zero.length = j.size ∧ j.bytes ≤ 131072)
    (hx : srcOf H x = some add) (ho : ∀ e ∈ add, e.length = l.length ∧ ∀ a ∈ e, flat a = true ∧ Ab.one1 a = true) (hlen : es.length + add.length ≤ 1073741824)
    (hc : ∀ v' H' n', Sep H' n' ((.s l, v', .list true (es ++ add)) :: K) ids → (∀ i ∈ ids, H' i = H i) → n ≤ n' → (∀ i ∈ W, H' i = H i) ∧ evalV P f N k Q Ty W L (ρ.put o.dst v') H' n') : bindV P f N k Q Ty W (appendF Ty (some d) t v x H n) o L ρ H := by
  obtain ⟨v', H', n', h1, h2, h3, h4⟩ := Sep.append0 (d := d) h hf hk hj hz hx ho hlen
  rw [h1]
  obtain ⟨h5, h6⟩ := hc v' H' n' h2 h3 h4
  exact bindV_new h5 hno h6
theorem bindV_view {α : Type} {g : α → List AVal} {xs : List α} {lo hi : Option Operand} {d : Option Tmp} {x : Operand} {ty : TypeId} {pos : String} {af : Array Edge} (a b : Int) (hW : ∀ i ∈ watchOf v, i ∈ W) (hv : ρ.ev x = v) (h : Sep H n ((.s l, v, .list true (xs.map g)) :: K) ids) (hf : ∀ t ∈ l, t = .c) (hk : kd Ty t = .slice j) (hj : j.size = l.length)
    {lo' hi' : Option AVal} (hlo : boundOf lo' 0 = some a) (hhi : boundOf hi' xs.length = some b) (hb : 0 ≤ a ∧ a ≤ b ∧ b ≤ xs.length)
    (hc : ∀ w, srcOf H w = some (((xs.take b.toNat).drop a.toNat).map g) → evalV P f' N k Q Ty W L (ρ.put d w) H n) : bindV P f' N k Q Ty W ((sliceF Ty H t v lo' hi').map fun z => (z, H, n)) ⟨d, .slice t x lo hi none, ty, pos, af, none⟩ L ρ H := by
  obtain ⟨w, h1, h2⟩ := Sep.viewS h hf hk hj hlo hhi hb
  rw [h1, Option.map_some, bindV_same]
  refine ⟨?_, hc w h2⟩
  rintro t' x' lo1 hi1 mx' he id g' a' b' hx
  cases he
  rw [hv] at hx
  exact hW id (by rw [hx]; simp [watchOf])
end
end Go.Ab

/- The abstract machine, part Sw: whether a slice is nil. -/
namespace Go.Ab
section
variable {P : Program} {Ty : Types} {N : Nat} {ρ : Env} {H : Heap} {n : Nat}
theorem run_equal_slice {t e : TypeId} {w : World} (h : (underlying t).run P w = .ok (.slice e) w) (a : Option Addr) (m c : Nat) : (Op.equal t (.slice a m c) (.slice none 0 0)).run P w = .ok a.isNone w := by
  have h1 : ∀ k, (Op.equalIn (k + 1) t (.slice a m c) (.slice none 0 0)).run P w = .ok a.isNone w := fun k => by cases a <;> simp [Op.equalIn, h]
  exact h1 9999
/-- A list: it may be nil if nothing is in it. -/
theorem OpSem.isNil (hT : TypesOk P Ty) {d : Option Tmp} {t t' ty : TypeId} {x y : Operand} {pos : String} {af : Array Edge} {gu : Option (Nat × Bool)} {j : TI} {fr : Bool} {els : List (List AVal)} (hk : kd Ty t = .slice j) (hx : ρ.ev x = .list fr els) (hy : ρ.ev y = .v (.slice none 0 0)) :
    OpSem P N ⟨d, .binOp .eql t x y t', ty, pos, af, gu⟩ ρ H n fun v1 H1 n1 => (∃ b : Bool, v1 = bool b ∧ (b = true → els = [])) ∧ H1 = H ∧ n1 = n :=
  OpSem.of_value fun c a hH hn g r => by
    obtain ⟨i, e, hi, hd, hj⟩ := kd_slice hk
    have hde := (hT t i hi).run_desc c.w
    rw [hd] at hde
    have rx := r.ev x
    have ry := r.ev y
    rw [hx] at rx
    rw [hy] at ry
    have ey := ry.v_inv
    have hrun : ∀ (b : Option Addr) (m q : Nat), (binOp .eql t (.slice b m q) (.slice none 0 0)).run P c.w = .ok (.bool b.isNone) c.w := fun b m q => by
      show ((Op.equal t (.slice b m q) (.slice none 0 0)) >>= fun r => _).run P c.w = _
      simp only [Sem.run_bind, run_equal_slice hde, Result.andThen_ok, Sem.run_pure]
    generalize hv : a.eval x = vx at rx
    cases rx with
    | lnil => exact ⟨bool true, .bool true, c, by simp [execOp, hv, ey, hrun, eqGuard], ⟨⟨true, rfl, fun _ => rfl⟩, hH, hn⟩, .v _, g, Keeps.refl c⟩
    | list fr els ad cap sz cell hs hcap hm hsz hc h => exact ⟨bool false, .bool false, c, by simp [execOp, hv, ey, hrun, eqGuard], ⟨⟨false, rfl, fun h => by cases h⟩, hH, hn⟩, .v _, g, Keeps.refl c⟩
theorem RunK.isNil (hT : TypesOk P Ty) {f : FuncId} {k : List Item} {Q : AVal → Heap → Nat → Prop} {ops l : List Oper} {d : Option Tmp} {t t' ty : TypeId} {x y : Operand} {pos : String} {af : Array Edge} {j : TI} {fr : Bool} {els : List (List AVal)}
    (hN : ops.all (fun o => dok N o.dst) = true) (hl : (⟨d, .binOp .eql t x y t', ty, pos, af, none⟩ :: l : List Oper).all (fun o => dok N o.dst) = true) (hk : kd Ty t = .slice j) (hx : ρ.ev x = .list fr els) (hy : ρ.ev y = .v (.slice none 0 0))
    (h : ∀ b : Bool, (b = true → els = []) → evalK P f N k Q Ty ops.toArray l (ρ.put d (bool b)) H n) : RunK P f N k Q ops.toArray (⟨d, .binOp .eql t x y t', ty, pos, af, none⟩ :: l) ρ H n :=
  RunK.op hT hN hl rfl (OpSem.isNil hT hk hx hy) (by rintro v H' n' ⟨⟨b, rfl, hb⟩, rfl, rfl⟩; exact h b hb)
end
section
variable {P : Program} {f f' : FuncId} {N : Nat} {k : List Item} {Q : AVal → Heap → Nat → Prop} {Ty : Types} {ops : Array Oper} {L : List Oper} {ρ : Env} {H : Heap} {n : Nat} {K1 K2 : List OwnE} {ids : List Id} {t : TypeId} {j : TI} {l : List Sh} {v : AVal} {es : List (List AVal)} {o : Oper}
theorem bindD_store {κ : Op → Nat} {id : Id} {g q : Nat} {i : TI} {new news : List AVal} (K1 K2 : List OwnE) (h : Sep H n ((.s l, .arr id g 0 g, .list true es) :: (K1 ++ K2)) ids) (hi : i.size = l.length) (hk : q < es.length) (hg : g = es.length) (hone : new.all Ab.one1 = true)
    (hf : Fill l K1 new news) (hc : ∀ H', Sep H' n ((.s l, .arr id g 0 g, .list true (es.set q news)) :: K2) ids → (∀ i ∈ ids, H' i = H i) → evalD P f N k Q Ty κ ops L (ρ.put o.dst .undef) H' n) :
    bindD P f N k Q Ty κ ops (match storeF (some i) (.ptr id g q 0) (some new) H with | some H' => some (AVal.undef, H', n) | none => none) o L ρ H n := by
  obtain ⟨H', h1, h2, h3⟩ := Sep.store h hi hk hg hone hf
  rw [h1]
  exact (bindD_some (v := AVal.undef) (H' := H') (n' := n)).symm ▸ hc H' h2 h3
theorem bindD_field {κ : Op → Nat} {α : Type} [Inhabited α] {id : Id} {g q off : Nat} {ix : Int} {i : TI} {new : List AVal} {xs : List α} {f : α → List AVal} {x y : α} {K : List OwnE} (h : Sep H n ((.s l, .arr id g 0 g, .list true (xs.map f)) :: K) ids) (hl : ∀ t ∈ l, t = .c)
    (hi : new.length = i.size) (hb : 0 ≤ ix ∧ ix < xs.length) (hx : x = at' xs ix) (hq : q = ix.toNat) (hg : g = xs.length) (hfl : ∀ x, (f x).length = l.length) (hff : ∀ a ∈ f y, flat a = true ∧ Ab.one1 a = true) (hn : ∀ a ∈ new, Ab.one1 a = true)
    (hy : f y = splice (f x) off new) (hoff : off + new.length ≤ l.length)
    (hc : ∀ H', Sep H' n ((.s l, .arr id g 0 g, .list true ((xs.set q y).map f)) :: K) ids → (∀ i ∈ ids, H' i = H i) → evalD P f' N k Q Ty κ ops L (ρ.put o.dst .undef) H' n) :
    bindD P f' N k Q Ty κ ops (match storeF (some i) (.ptr id g q off) (some new) H with | some H' => some (AVal.undef, H', n) | none => none) o L ρ H n := by
  obtain ⟨id', he, hH, _, _⟩ := h.openF hl hb
  cases he
  have hq' : q < xs.length := by omega
  obtain ⟨hlt, hgx⟩ := at_get hb hx
  obtain ⟨H', h1, h2, h3⟩ := Sep.store (K1 := []) (K2 := K) (i := ⟨i.desc, l.length, i.bytes, i.zero⟩) (new := f y) (news := f y) h rfl (by simpa using hq') (by first | (simp; done) | simpa using hg) (by
    rw [List.all_eq_true]; exact fun a ha => (hff a ha).2) (fill_flat hl (by simp [hfl]) fun a ha => (hff a ha).1)
  have hw : storeF (some i) (.ptr id xs.length q off) (some new) H = some H' := by
    simp only [storeF, live, hH, List.length_map, ↓reduceIte] at h1 ⊢
    rw [if_pos ⟨by simp [hfl], hq', by simp [hfl], by rw [List.all_eq_true]; exact fun a ha => (hff a ha).2⟩] at h1
    rw [if_pos ⟨hi, hq', hoff, by rw [List.all_eq_true]; exact hn⟩, ← h1]
    congr 2
    have hrow : (xs.map f).getD q [] = f x := by simp [hq, hlt, hgx]
    simp only [Ob.write, hrow, Ob.mk.injEq, true_and]
    rw [← hy]
    congr 1
    simp [splice, hfl]
  rw [hw]
  refine (bindD_some (v := AVal.undef) (H' := H') (n' := n)).symm ▸ hc H' ?_ h3
  rw [List.map_set]
  exact h2
end
end Go.Ab

/- The abstract machine, part Sx: regions that draw their order with one call whose result the caller owns; all else stands ahead of it or waits for it. -/
namespace Go.Ab
set_option linter.unusedSectionVars false
set_option linter.unusedVariables false
section
variable (P : Program) (N : Nat) (ops : Array Oper) (κ : Op → Nat) (cix : Nat)
end
section
variable {P : Program} {N : Nat} {ops : Array Oper} {κ : Op → Nat} {cix : Nat}
end
section
variable {P : Program} {f : FuncId} {N : Nat} {k : List Item} {ρ : Env} {H : Heap} {n : Nat} {Q : AVal → Heap → Nat → Prop} {κ : Op → Nat}
end
section
variable (P : Program) (f : FuncId) (N : Nat) (k : List Item) (Q : AVal → Heap → Nat → Prop) (Ty : Types) (κ : Op → Nat) (ops : Array Oper)
end
section
variable {P : Program} {f : FuncId} {N : Nat} {k : List Item} {Q : AVal → Heap → Nat → Prop} {Ty : Types} {κ : Op → Nat} {ops : Array Oper} {o : Oper} {l : List Oper} {ρ : Env} {H : Heap} {n : Nat} {c : Nat}
theorem loc_args {d : Operand} {args : Array Operand} {ats : Array TypeId} : args.toList.map (loc (.call ⟨.value d, args, ats⟩) ρ).ev = args.toList.map ρ.ev ∧ (loc (.call ⟨.value d, args, ats⟩) ρ).ev d = ρ.ev d :=
  ⟨List.map_congr_left fun x hx => loc_ev (by simp [Op.operands, Call.operands]; exact .inr (by simpa using hx)), loc_ev (by simp [Op.operands, Call.operands])⟩
end
end Go.Ab

/- The abstract machine, part Sy: regions that draw their order, by what is known of the operations that are done. -/
namespace Go.Ab
set_option linter.unusedSectionVars false
set_option linter.unusedVariables false

abbrev Done (L : Array Bool) (j : Nat) : Prop := L.getD j false = true
theorem Done.set {L : Array Bool} {i j : Nat} (h : Done (L.setIfInBounds i true) j) : j = i ∨ Done L j := by
  by_cases hij : i = j
  · exact .inl hij.symm
  · refine .inr ?_
    rw [Done, getD_set_ne false hij] at h
    exact h
theorem Done.of_set {L : Array Bool} {i j : Nat} (h : Done L j) : Done (L.setIfInBounds i true) j := by
  by_cases hij : i = j
  · subst hij
    have : i < L.size := by
      rcases Nat.lt_or_ge i L.size with h' | h'
      · exact h'
      · simp [Done, h'] at h
    simp [Done, this]
  · rw [Done, getD_set_ne false hij]
    exact h
theorem done_self {L : Array Bool} {i : Nat} (h : i < L.size) : Done (L.setIfInBounds i true) i := by simp [Done, h]
theorem not_done {L : Array Bool} {i : Nat} (h : i < L.size) : ¬ Done L i ↔ L.getD i true = false := by
  simp [Done, h]
theorem countP_less {α : Type} {p q : α → Bool} : ∀ {l : List α}, (∀ x ∈ l, p x = true → q x = true) → (∃ x ∈ l, q x = true ∧ p x = false) → l.countP p < l.countP q
  | [], _, ⟨_, h, _⟩ => by cases h
  | y :: l, h, ⟨x, hx, h1, h2⟩ => by
    have hle : l.countP p ≤ l.countP q := List.countP_mono_left fun z hz => h z (by simp [hz])
    rcases List.mem_cons.1 hx with rfl | hx
    · rw [List.countP_cons_of_pos h1, List.countP_cons_of_neg (by simp [h2])]
      omega
    · have := countP_less (l := l) (fun z hz => h z (by simp [hz])) ⟨x, hx, h1, h2⟩
      have hy := h y (by simp)
      simp only [List.countP_cons]
      by_cases hp : p y = true
      · rw [if_pos hp, if_pos (hy hp)]; omega
      · rw [if_neg hp]; split <;> omega

/-- One step of an invariant. -/
def StepI (P : Program) (N : Nat) (ops : Array Oper) (Inv : Array Bool → AS → Prop) (i : Nat) : Prop :=
  ∀ L s, Inv L s → i ∈ Region.ready .any ops L → ∃ o, ops[i]? = some o ∧ o.guard = none ∧ OpSem P N o (loc o.op s.1) s.2.1 s.2.2 fun v H' n' => Inv (L.setIfInBounds i true) (s.1.put o.dst v, H', n')

section
variable {P : Program} {N : Nat} {ops : Array Oper}
theorem wpAny_inv {Inv : Array Bool → AS → Prop} {R : AS → Prop} (hN : ops.toList.all (fun o => dok N o.dst) = true) {Q : Exit → Act → World → Prop} {c0 : Ctx} (hQ : ∀ a c ρ, Keeps c0 c → Good c → RelE N c ρ a → R (ρ, c.H, c.n) → Q .normal a c.w)
    (step : ∀ i, StepI P N ops Inv i) (fin : ∀ L s, Inv L s → Region.ready .any ops L = [] → R s) :
    ∀ (fuel : Nat) (L : Array Bool) (ρ : Env) (c : Ctx) (a : Act), Keeps c0 c → Good c → RelE N c ρ a → Inv L (ρ, c.H, c.n) → (List.range ops.size).countP (fun i => !(L.getD i true)) ≤ fuel → wpAny P .any ops Q fuel L a c.w
  | 0, L, ρ, c, a, hk, g, r, h, hf => by
    have hr : Region.ready .any ops L = [] := by
      cases hl : Region.ready .any ops L with
      | nil => rfl
      | cons i l =>
        have hi : i ∈ Region.ready .any ops L := by rw [hl]; simp
        obtain ⟨h1, o, ho, _⟩ := mem_ready.1 hi
        have hlt : i < ops.size := (Array.getElem?_eq_some_iff.1 ho).1
        have : 0 < (List.range ops.size).countP (fun i => !(L.getD i true)) := List.countP_pos_iff.2 ⟨i, List.mem_range.2 hlt, by simp only [h1, Bool.not_false]⟩
        omega
    exact ⟨hr, hQ _ _ _ hk g r (fin _ _ h hr)⟩
  | fuel + 1, L, ρ, c, a, hk, g, r, h, hf => by
    refine ⟨fun h0 => hQ _ _ _ hk g r (fin _ _ h h0), fun i hi => ?_⟩
    obtain ⟨o, ho, hg, hop⟩ := step i L _ h hi
    obtain ⟨hu, o', ho', _⟩ := mem_ready.1 hi
    have hlt : i < ops.size := (Array.getElem?_eq_some_iff.1 ho).1
    have hd : dok N o.dst = true := List.all_eq_true.1 hN o (by rw [← Array.getElem?_toList] at ho; exact List.mem_of_getElem? ho)
    unfold wpOp
    simp only [ho]
    rw [if_pos (wanted_of_gok r hN (by simp [gok, hg]))]
    refine .inl (hop c a rfl rfl g (r.loc o.op) _ _ ?_)
    rintro v1 x c' hpost hrep hgood hkeep
    refine wpAny_inv hN hQ step fin fuel _ _ c' _ (hk.trans hkeep) hgood ((r.keeps hkeep).put hd hrep) hpost ?_
    have : (List.range ops.size).countP (fun j => !((L.setIfInBounds i true).getD j true)) < (List.range ops.size).countP (fun j => !(L.getD j true)) := by
      refine countP_less (fun x _ hx => ?_) ⟨i, List.mem_range.2 hlt, by simp only [hu, Bool.not_false], ?_⟩
      · by_cases hix : i = x
        · subst hix; simp only [hu, Bool.not_false]
        · rw [getD_set_ne true hix] at hx; exact hx
      · have : (L.setIfInBounds i true).getD i true = true := by
          by_cases hs : i < L.size <;> simp [hs]
        simp only [this, Bool.not_true]
    omega
end
section
variable {P : Program} {f : FuncId} {N : Nat} {k : List Item} {ρ : Env} {H : Heap} {n : Nat} {Q : AVal → Heap → Nat → Prop}
theorem Runs.drawI (Inv : Array Bool → AS → Prop) {id : Nat} {ops : List Oper} (hm : P.follows .mixedOrders = true) (hN : ops.all (fun o => dok N o.dst) = true) (h0 : Inv (Array.replicate ops.length false) (ρ, H, n)) (step : ∀ i, StepI P N ops.toArray Inv i)
    (fin : ∀ L s, Inv L s → Region.ready .any ops.toArray L = [] → Runs P f N k s.1 s.2.1 s.2.2 Q) : Runs P f N (.code (.region id ops.toArray true) :: k) ρ H n Q := by
  intro c a hH hn g r b cs hf hk
  subst hH
  subst hn
  obtain ⟨d1, d2⟩ := draw_keeps g
  have hw : (Code.region id ops.toArray true).wp P (fun e a' w' => e = .normal ∧ ∃ c' ρ', c'.w = w' ∧ Keeps c c' ∧ Good c' ∧ RelE N c' ρ' a' ∧ Runs P f N k ρ' c'.H c'.n Q) a c.w := by
    refine wp_region_any hm ?_
    have := wpAny_inv (P := P) (N := N) (ops := ops.toArray) (c0 := c) (Inv := Inv) (by simpa using hN) (Q := fun e a' w' => e = .normal ∧ ∃ c' ρ', c'.w = w' ∧ Keeps c c' ∧ Good c' ∧ RelE N c' ρ' a' ∧ Runs P f N k ρ' c'.H c'.n Q)
      (R := fun s => Runs P f N k s.1 s.2.1 s.2.2 Q) (fun a' c' ρ' hk' hg' hr' hR => ⟨rfl, c', ρ', rfl, hk', hg', hr', hR⟩) step fin ops.length (Array.replicate ops.toArray.size false) ρ { c with w := { c.w with drawn := c.w.drawn + 1 } } a d1 d2 (r.keeps d1) (by simpa using h0)
      (Nat.le_trans List.countP_le_length (by simp))
    simpa using this
  obtain ⟨e, a', w', ⟨rfl, c', ρ', rfl, hk', hg', hr', hR⟩, harr⟩ := hw b k cs
  obtain ⟨x, v, c'', fr, q, hr, hg, hke, hst, rest⟩ := hR c' a' rfl rfl hg' hr' b cs hf hk
  exact ⟨x, v, c'', fr, q, hr, hg, hk'.trans hke, Steps.trans harr hst, rest⟩
end

/-- What is known of slots: of those that stay, and of those that operations fill. -/
def Old (ρ : Env) (B : List (Nat × AVal)) : Prop := ∀ q ∈ B, ρ q.1 = q.2
def Told (L : Array Bool) (ρ : Env) (F : List (Nat × Nat × AVal)) : Prop := ∀ q ∈ F, Done L q.1 → ρ q.2.1 = q.2.2
def AllF (ρ : Env) (F : List (Nat × Nat × AVal)) : Prop := ∀ q ∈ F, ρ q.2.1 = q.2.2
theorem Old.head {ρ : Env} {t : Nat} {v : AVal} {B : List (Nat × AVal)} (h : Old ρ ((t, v) :: B)) : ρ t = v := h (t, v) (by simp)
theorem Old.tail {ρ : Env} {x : Nat × AVal} {B : List (Nat × AVal)} (h : Old ρ (x :: B)) : Old ρ B := fun q hq => h q (by simp [hq])
theorem Told.head {L : Array Bool} {ρ : Env} {i t : Nat} {v : AVal} {F : List (Nat × Nat × AVal)} (h : Told L ρ ((i, t, v) :: F)) (hd : Done L i) : ρ t = v := h (i, t, v) (by simp) hd
theorem Told.tail {L : Array Bool} {ρ : Env} {x : Nat × Nat × AVal} {F : List (Nat × Nat × AVal)} (h : Told L ρ (x :: F)) : Told L ρ F := fun q hq => h q (by simp [hq])
theorem AllF.head {ρ : Env} {i t : Nat} {v : AVal} {F : List (Nat × Nat × AVal)} (h : AllF ρ ((i, t, v) :: F)) : ρ t = v := h (i, t, v) (by simp)
theorem AllF.tail {ρ : Env} {x : Nat × Nat × AVal} {F : List (Nat × Nat × AVal)} (h : AllF ρ (x :: F)) : AllF ρ F := fun q hq => h q (by simp [hq])
theorem Old.put {ρ : Env} {B : List (Nat × AVal)} {d : Option Nat} {v : AVal} (h : Old ρ B) (hd : ∀ q ∈ B, d ≠ some q.1) : Old (ρ.put d v) B := fun q hq => by
  cases d with
  | none => exact h q hq
  | some d =>
    have : q.1 ≠ d := fun e => hd q hq (by rw [e])
    simp [Env.put, this, h q hq]
theorem Told.put {L : Array Bool} {ρ : Env} {F F' : List (Nat × Nat × AVal)} {i : Nat} {d : Option Nat} {v : AVal} (h : Told L ρ F) (hF : ∀ q ∈ F', q.1 ≠ i → Done L q.1 → q ∈ F) (hd : ∀ q ∈ F', d = some q.2.1 → q.1 = i) (hv : ∀ q ∈ F', q.1 = i → d = some q.2.1 ∧ q.2.2 = v) :
    Told (L.setIfInBounds i true) (ρ.put d v) F' := fun q hq hdn => by
  by_cases e : q.1 = i
  · obtain ⟨h1, h2⟩ := hv q hq e
    subst h1
    simp [Env.put, h2]
  · have hdone := hdn.set.resolve_left e
    have := h q (hF q hq e hdone) hdone
    cases d with
    | none => exact this
    | some d =>
      have hne : q.2.1 ≠ d := fun he => e (hd q hq (by rw [he]))
      simp [Env.put, hne, this]

/-- Memory: what the call gives, if it is done; the new variable, if it is made. -/
def Mem (H0 : Heap) (n0 : Nat) (K : List OwnE) (ids : List Id) (ent : List OwnE) (w : Id) (ob0 ob1 : Ob) (dc da ds : Bool) (H : Heap) (n : Nat) : Prop :=
  Sep H n ((if dc then ent else []) ++ K) ((if da then [w] else []) ++ ids) ∧ (∀ i ∈ ids, H i = H0 i) ∧ n0 ≤ n ∧ (da = true → n0 ≤ w.1 ∧ H w = some (if ds then ob1 else ob0))
structure Reg where
  m : Nat
  c : Nat
  a : Nat
  st : Nat
  d : Nat
  B : List (Nat × AVal)
  F : List AVal → Nat → List (Nat × Nat × AVal)
  ent : List AVal → List OwnE
  ob0 : Ob
  ob1 : List AVal → Ob
  RG : List AVal → Prop
  onC : List Nat
  onA : List Nat
  H0 : Heap
  n0 : Nat
  K : List OwnE
  ids : List Id
def Reg.Inv (g : Reg) (L : Array Bool) (s : AS) : Prop :=
  L.size = g.m ∧ (∀ j ∈ g.onC, Done L j → Done L g.c) ∧ (∀ j ∈ g.onA, Done L j → Done L g.a) ∧ ∃ (G : List AVal) (A : Nat), Old s.1 g.B ∧ Told L s.1 (g.F G A) ∧ (Done L g.c → g.RG G) ∧
    Mem g.H0 g.n0 g.K g.ids (g.ent G) (A, g.d) g.ob0 (g.ob1 G) (L.getD g.c false) (L.getD g.a false) (L.getD g.st false) s.2.1 s.2.2
section
variable {P : Program} {N : Nat} {ops : Array Oper} {g : Reg}
theorem Mem.sep {H0 H : Heap} {n0 n : Nat} {K ent : List OwnE} {ids : List Id} {w : Id} {ob0 ob1 : Ob} {dc da ds : Bool} (h : Mem H0 n0 K ids ent w ob0 ob1 dc da ds H n) : Sep H n K ids := by
  have := h.1
  have h1 : Sep H n K ((if da then [w] else []) ++ ids) := by
    cases dc
    · simpa using this
    · exact Sep.right (K1 := ent) this
  exact Sep.sub h1 fun i hi => by simp [hi]
/-- An operation that leaves memory as it is. -/
theorem Reg.det {i : Nat} {o : Oper} (hi : ops.toList[i]? = some o) (hm : i < g.m) (hg : o.guard = none) (hne : i ≠ g.c ∧ i ≠ g.a ∧ i ≠ g.st) (hB : ∀ q ∈ g.B, o.dst ≠ some q.1) (hF : ∀ G A, ∀ q ∈ g.F G A, o.dst = some q.2.1 → q.1 = i)
    (hc : i ∈ g.onC → ∃ e ∈ o.after, Region.binds .any e = true ∧ (e.on = g.c ∨ e.on ∈ g.onC)) (ha : i ∈ g.onA → ∃ e ∈ o.after, Region.binds .any e = true ∧ (e.on = g.a ∨ e.on ∈ g.onA))
    (hs : ∀ L ρ H n G A, Old ρ g.B → Told L ρ (g.F G A) → (∀ e ∈ o.after, Region.binds .any e = true → Done L e.on) → (Done L g.c → g.RG G) → (∀ j ∈ g.onC, Done L j → Done L g.c) → (∀ j ∈ g.ids, H j = g.H0 j) → Sep H n g.K g.ids →
      ∃ v, OpSem P N o (loc o.op ρ) H n (isV v H n) ∧ ∀ q ∈ g.F G A, q.1 = i → o.dst = some q.2.1 ∧ q.2.2 = v) : StepI P N ops g.Inv i := by
  rw [Array.getElem?_toList] at hi
  intro L s hI hr
  obtain ⟨hsz, hoc, hoa, G, A, hO, hT, hG, hM⟩ := hI
  obtain ⟨hu, o', ho', hdep⟩ := mem_ready.1 hr
  rw [hi] at ho'
  cases ho'
  refine ⟨o, hi, hg, ?_⟩
  obtain ⟨v, hop, hv⟩ := hs L s.1 s.2.1 s.2.2 G A hO hT (fun e he hb => hdep e he hb) hG hoc hM.2.1 hM.sep
  refine hop.mono ?_
  rintro _ _ _ ⟨rfl, rfl, rfl⟩
  refine ⟨by simpa using hsz, fun j hj hd => ?_, fun j hj hd => ?_, G, A, hO.put hB, hT.put (fun q hq _ _ => hq) (hF G A) hv, fun hd => hG (hd.set.resolve_left (Ne.symm hne.1)), ?_⟩
  · rcases hd.set with rfl | hd
    · obtain ⟨e, he, hb, h1 | h1⟩ := hc hj
      · exact Done.of_set (h1 ▸ hdep e he hb)
      · exact Done.of_set (hoc _ h1 (hdep e he hb))
    · exact Done.of_set (hoc j hj hd)
  · rcases hd.set with rfl | hd
    · obtain ⟨e, he, hb, h1 | h1⟩ := ha hj
      · exact Done.of_set (h1 ▸ hdep e he hb)
      · exact Done.of_set (hoa _ h1 (hdep e he hb))
    · exact Done.of_set (hoa j hj hd)
  · rw [getD_set_ne false hne.1, getD_set_ne false hne.2.1, getD_set_ne false hne.2.2]
    exact hM
/-- The call whose result the caller owns. -/
theorem Reg.call {d : Option Tmp} {fo : Operand} {args : Array Operand} {ats : Array TypeId} {ty : TypeId} {pos : String} {af : Array Edge} (hi : ops.toList[g.c]? = some ⟨d, .call ⟨.value fo, args, ats⟩, ty, pos, af, none⟩) (hm : g.c < g.m) (hne : g.c ≠ g.a ∧ g.c ≠ g.st)
    (hB : ∀ q ∈ g.B, d ≠ some q.1) (hF : ∀ G A, ∀ q ∈ g.F G A, d = some q.2.1 → q.1 = g.c) (hFG : ∀ G G' A, ∀ q ∈ g.F G' A, q.1 ≠ g.c → q.1 ∉ g.onC → q ∈ g.F G A) (hcc : g.c ∉ g.onC) (hca : g.c ∉ g.onA) (hst : g.st ∈ g.onC)
    {R : AVal → Prop} {f' : FuncId} {sh : Sh} (hown : ∃ args', OwnS P f' args' sh R ∧ ∀ L ρ H n G A, Old ρ g.B → Told L ρ (g.F G A) → (∀ e ∈ af, Region.binds .any e = true → Done L e.on) → (∀ j ∈ g.ids, H j = g.H0 j) → Sep H n g.K g.ids → ρ.ev fo = .fn (.func f') [] [] ∧ ArgsOk H n (args.toList.map ρ.ev) args') (hent : Ent P f')
    (hun : ∀ H n v r ids, Sep H n ((sh, v, r) :: g.K) ids → R r → ∃ G, g.RG G ∧ Sep H n (g.ent G ++ g.K) ids ∧ ∀ A, ∀ q ∈ g.F G A, q.1 = g.c → d = some q.2.1 ∧ q.2.2 = v) : StepI P N ops g.Inv g.c := by
  rw [Array.getElem?_toList] at hi
  intro L s hI hr
  obtain ⟨hsz, hoc, hoa, G, A, hO, hT, hG, hM⟩ := hI
  obtain ⟨hu, o', ho', hdep⟩ := mem_ready.1 hr
  rw [hi] at ho'
  cases ho'
  have hnd : ¬ Done L g.c := (not_done (by omega)).2 hu
  have hncd : ∀ j ∈ g.onC, ¬ Done L j := fun j hj hd => hnd (hoc j hj hd)
  refine ⟨_, hi, rfl, ?_⟩
  obtain ⟨args', hO', har⟩ := hown
  obtain ⟨hfo, hargs⟩ := har L s.1 s.2.1 s.2.2 G A hO hT (fun e he hb => hdep e he hb) hM.2.1 hM.sep
  have hcf : L.getD g.c false = false := by simpa [Done] using hnd
  have hsf : L.getD g.st false = false := by simpa [Done] using hncd g.st hst
  obtain ⟨m1, m2, m3, m4⟩ := hM
  rw [hcf, if_neg (by simp), List.nil_append] at m1
  refine (OpSem.callW (by rw [loc_args.2]; exact hfo) hent (by rw [loc_args.1]; exact hargs) hO' m1).mono ?_
  rintro v1 H1 n1 ⟨r, h1, h2, h3, h4⟩
  obtain ⟨G', hRG, hS, hq⟩ := hun _ _ _ _ _ h1 h2
  refine ⟨by simpa using hsz, fun j hj hd => done_self (by omega), fun j hj hd => ?_, G', A, hO.put hB, hT.put (fun q hq h5 h6 => hFG G G' A q hq h5 fun h7 => hncd _ h7 h6) (hF G' A) (hq A), fun _ => hRG, ?_⟩
  · rcases hd.set with rfl | hd
    · exact absurd hj hca
    · exact Done.of_set (hoa j hj hd)
  · rw [show (L.setIfInBounds g.c true).getD g.c false = true from done_self (by omega), getD_set_ne false hne.1, getD_set_ne false hne.2, hsf]
    rw [hsf] at m4
    refine ⟨by simpa using hS, fun i hi' => (h4 i (by simp [hi'])).trans (m2 i hi'), Nat.le_trans m3 h3, fun hda => ⟨(m4 hda).1, ?_⟩⟩
    simp only [hda, if_true] at h4
    exact (h4 (A, g.d) (by simp)).trans (m4 hda).2
/-- The variable is made. -/
theorem Reg.alloc {Ty : Types} (hT' : TypesOk P Ty) {t : TypeId} {ti : TI} {ty : TypeId} {pos : String} {af : Array Edge} (hi : ops.toList[g.a]? = some ⟨some g.d, .alloc t, ty, pos, af, none⟩) (hti : Ty t = some ti) (hob : g.ob0 = ⟨ti.zero.length, [ti.zero.map .v]⟩) (hm : g.a < g.m) (hne : g.a ≠ g.c ∧ g.a ≠ g.st)
    (hB : ∀ q ∈ g.B, g.d ≠ q.1) (hF : ∀ G A, ∀ q ∈ g.F G A, g.d = q.2.1 → q.1 = g.a) (hFA : ∀ G A A', ∀ q ∈ g.F G A', q.1 ≠ g.a → q.1 ∉ g.onA → q ∈ g.F G A) (haa : g.a ∉ g.onA) (hac : g.a ∉ g.onC) (hst : g.st ∈ g.onA)
    (hv : ∀ G A, ∀ q ∈ g.F G A, q.1 = g.a → g.d = q.2.1 ∧ q.2.2 = .ptr (A, g.d) 1 0 0) : StepI P N ops g.Inv g.a := by
  rw [Array.getElem?_toList] at hi
  intro L s hI hr
  obtain ⟨hsz, hoc, hoa, G, A, hO, hT, hG, hM⟩ := hI
  obtain ⟨hu, o', ho', hdep⟩ := mem_ready.1 hr
  rw [hi] at ho'
  cases ho'
  have hnd : ¬ Done L g.a := (not_done (by omega)).2 hu
  have hncd : ∀ j ∈ g.onA, ¬ Done L j := fun j hj hd => hnd (hoa j hj hd)
  refine ⟨_, hi, rfl, ?_⟩
  have haf : L.getD g.a false = false := by simpa [Done] using hnd
  have hsf : L.getD g.st false = false := by simpa [Done] using hncd g.st hst
  obtain ⟨m1, m2, m3, m4⟩ := hM
  rw [haf] at m1
  simp only [Bool.false_eq_true, if_false, List.nil_append] at m1
  refine (step_alloc hT' hti).mono ?_
  rintro _ _ _ ⟨rfl, rfl, rfl⟩
  refine ⟨by simpa using hsz, fun j hj hd => ?_, fun j hj hd => done_self (by omega), G, s.2.2, hO.put (fun q hq e => hB q hq (Option.some.inj e)), hT.put (fun q hq h5 h6 => hFA G A s.2.2 q hq h5 fun h7 => hncd _ h7 h6) (fun q hq e => hF G _ q hq (Option.some.inj e)) (fun q hq e => ⟨congrArg some (hv G _ q hq e).1, (hv G _ q hq e).2⟩), fun hd => hG (hd.set.resolve_left (Ne.symm hne.1)), ?_⟩
  · rcases hd.set with rfl | hd
    · exact absurd hj hac
    · exact Done.of_set (hoc j hj hd)
  · rw [show (L.setIfInBounds g.a true).getD g.a false = true from done_self (by omega), getD_set_ne false hne.1, getD_set_ne false hne.2, hsf]
    refine ⟨?_, fun i hi' => ?_, Nat.le_succ_of_le m3, fun _ => ⟨m3, by simp [Heap.get_set, hob]⟩⟩
    · simpa using Sep.var (d := g.d) (o := ⟨ti.zero.length, [ti.zero.map .v]⟩) m1
    · exact (Heap.get_set_ne _ _ (by rintro rfl; have := m1.1 _ hi'; simp at this)).trans (m2 i hi')
/-- The variable is filled. -/
theorem Reg.store {Ty : Types} (hT' : TypesOk P Ty) {t : TypeId} {x y : Operand} {ty : TypeId} {pos : String} {af : Array Edge} (hi : ops.toList[g.st]? = some ⟨none, .store t x y, ty, pos, af, none⟩) (hm : g.st < g.m) (hne : g.st ≠ g.c ∧ g.st ≠ g.a) (hF : ∀ G A, ∀ q ∈ g.F G A, q.1 ≠ g.st) (hids : ∀ i ∈ g.ids, i.1 < g.n0)
    (hc : ∃ e ∈ af, Region.binds .any e = true ∧ (e.on = g.c ∨ e.on ∈ g.onC)) (ha : ∃ e ∈ af, Region.binds .any e = true ∧ (e.on = g.a ∨ e.on ∈ g.onA))
    (hs : ∀ L ρ H G A, Old ρ g.B → Told L ρ (g.F G A) → (∀ e ∈ af, Region.binds .any e = true → Done L e.on) → g.RG G → H (A, g.d) = some g.ob0 → storeF (Ty t) (ρ.ev x) (cellsA (ρ.ev y)) H = some (H.set (A, g.d) (g.ob1 G))) : StepI P N ops g.Inv g.st := by
  rw [Array.getElem?_toList] at hi
  intro L s hI hr
  obtain ⟨hsz, hoc, hoa, G, A, hO, hT, hG, hM⟩ := hI
  obtain ⟨hu, o', ho', hdep⟩ := mem_ready.1 hr
  rw [hi] at ho'
  cases ho'
  have hnd : ¬ Done L g.st := (not_done (by omega)).2 hu
  have hsf : L.getD g.st false = false := by simpa [Done] using hnd
  have hdc : Done L g.c := by
    obtain ⟨e, he, hb, h1 | h1⟩ := hc
    · exact h1 ▸ hdep e he hb
    · exact hoc _ h1 (hdep e he hb)
  have hda : Done L g.a := by
    obtain ⟨e, he, hb, h1 | h1⟩ := ha
    · exact h1 ▸ hdep e he hb
    · exact hoa _ h1 (hdep e he hb)
  refine ⟨_, hi, rfl, ?_⟩
  obtain ⟨m1, m2, m3, m4⟩ := hM
  rw [hdc, hda] at m1
  simp only [if_true] at m1
  have hw := (m4 hda).2
  rw [hsf] at hw
  simp only [Bool.false_eq_true, if_false] at hw
  have hst := hs L s.1 s.2.1 G A hO hT (fun e he hb => hdep e he hb) (hG hdc) hw
  have hnw : (A, g.d) ∉ g.ids := fun hm' => by have h1 := (m4 hda).1; have h2 := hids _ hm'; simp only at h1 h2; omega
  refine (stepF_ok (P := P) (N := N) (o := ⟨none, .store t x y, ty, pos, af, none⟩) (v := .undef) (H' := s.2.1.set (A, g.d) (g.ob1 G)) (n' := s.2.2) hT' (by rw [stepF_loc]; simp only [stepF, hst])).mono ?_
  rintro _ _ _ ⟨rfl, rfl, rfl⟩
  refine ⟨by simpa using hsz, fun j hj hd => Done.of_set hdc, fun j hj hd => Done.of_set hda, G, A, Old.put (d := none) (v := .undef) hO (fun q hq e => by cases e), Told.put (d := none) (v := .undef) hT (fun q hq _ _ => hq) (fun q hq e => by cases e) (fun q hq e => absurd e (hF G A q hq)), fun hd => hG hdc, ?_⟩
  rw [getD_set_ne false hne.1, getD_set_ne false hne.2, hdc, hda, show (L.setIfInBounds g.st true).getD g.st false = true from done_self (by omega)]
  refine ⟨Sep.setVar (by simpa using m1) (by simp), fun i hi' => ?_, m3, fun _ => ⟨(m4 hda).1, by simp [Heap.get_set]⟩⟩
  exact (Heap.get_set_ne _ _ (by rintro rfl; exact hnw hi')).trans (m2 i hi')
/-- The call, if it gives one value and makes nothing that is told of. -/
theorem Reg.callP {d : Option Tmp} {fo : Operand} {args : Array Operand} {ats : Array TypeId} {ty : TypeId} {pos : String} {af : Array Edge} (hi : ops.toList[g.c]? = some ⟨d, .call ⟨.value fo, args, ats⟩, ty, pos, af, none⟩) (hm : g.c < g.m) (hne : g.c ≠ g.a ∧ g.c ≠ g.st)
    (hB : ∀ q ∈ g.B, d ≠ some q.1) (hF : ∀ G A, ∀ q ∈ g.F G A, d = some q.2.1 → q.1 = g.c) (hca : g.c ∉ g.onA) (he0 : ∀ G, g.ent G = []) (hR : ∀ G, g.RG G)
    (hs : ∀ L ρ H n G A, Old ρ g.B → Told L ρ (g.F G A) → (∀ e ∈ af, Region.binds .any e = true → Done L e.on) → (∀ j ∈ g.ids, H j = g.H0 j) → Sep H n g.K g.ids →
      ∃ v, OpSem P N ⟨d, .call ⟨.value fo, args, ats⟩, ty, pos, af, none⟩ (loc (.call ⟨.value fo, args, ats⟩) ρ) H n (isV v H n) ∧ ∀ q ∈ g.F G A, q.1 = g.c → d = some q.2.1 ∧ q.2.2 = v) : StepI P N ops g.Inv g.c := by
  rw [Array.getElem?_toList] at hi
  intro L s hI hr
  obtain ⟨hsz, hoc, hoa, G, A, hO, hT, hG, hM⟩ := hI
  obtain ⟨hu, o', ho', hdep⟩ := mem_ready.1 hr
  rw [hi] at ho'
  cases ho'
  refine ⟨_, hi, rfl, ?_⟩
  obtain ⟨v, hop, hv⟩ := hs L s.1 s.2.1 s.2.2 G A hO hT (fun e he hb => hdep e he hb) hM.2.1 hM.sep
  refine hop.mono ?_
  rintro _ _ _ ⟨rfl, rfl, rfl⟩
  refine ⟨by simpa using hsz, fun j hj hd => done_self (by omega), fun j hj hd => ?_, G, A, Old.put hO hB, Told.put hT (fun q hq _ _ => hq) (hF G A) hv, fun _ => hR G, ?_⟩
  · rcases hd.set with rfl | hd
    · exact absurd hj hca
    · exact Done.of_set (hoa j hj hd)
  · rw [getD_set_ne false hne.1, getD_set_ne false hne.2]
    obtain ⟨m1, m2, m3, m4⟩ := hM
    refine ⟨?_, m2, m3, m4⟩
    rw [he0] at m1 ⊢
    simpa using m1
theorem StepI.none {Inv : Array Bool → AS → Prop} {i : Nat} (h : ops[i]? = none) : StepI P N ops Inv i := fun L s hI hr => by
  obtain ⟨_, o, ho, _⟩ := mem_ready.1 hr
  rw [h] at ho
  cases ho
theorem done_rep {m j : Nat} : ¬ Done (Array.replicate m false) j := by
  simp only [Done, Array.getD_eq_getD_getElem?, Array.getElem?_replicate]
  split <;> simp
theorem Reg.init {ρ : Env} (hB : Old ρ g.B) (hs : Sep g.H0 g.n0 g.K g.ids) : g.Inv (Array.replicate g.m false) (ρ, g.H0, g.n0) := by
  have hf : ∀ j, (Array.replicate g.m false).getD j false = false := fun j => by simpa [Done] using done_rep (m := g.m) (j := j)
  refine ⟨by simp, fun j _ hd => absurd hd done_rep, fun j _ hd => absurd hd done_rep, [], 0, hB, fun q _ hd => absurd hd done_rep, fun hd => absurd hd done_rep, ?_⟩
  rw [hf, hf, hf]
  exact ⟨by simpa using hs, fun _ _ => rfl, Nat.le_refl _, fun h => by cases h⟩
def acycR (ops : Array Oper) : Bool := (List.range ops.size).all fun i => match ops[i]? with
  | some o => o.after.all fun e => !(Region.binds .any e) || decide (e.on < i)
  | none => true
theorem Reg.fin (ha : acycR ops = true) (hm : ops.size = g.m) (hc : g.c < g.m ∧ g.a < g.m ∧ g.st < g.m) (hF : ∀ G A, ∀ q ∈ g.F G A, q.1 < g.m) {L : Array Bool} {s : AS} (hI : g.Inv L s) (hr : Region.ready .any ops L = []) :
    ∃ (G : List AVal) (A : Nat), Old s.1 g.B ∧ AllF s.1 (g.F G A) ∧ g.RG G ∧ Sep s.2.1 s.2.2 (g.ent G ++ g.K) ((A, g.d) :: g.ids) ∧ (∀ i ∈ g.ids, s.2.1 i = g.H0 i) ∧ g.n0 ≤ s.2.2 ∧ g.n0 ≤ A ∧ s.2.1 (A, g.d) = some (g.ob1 G) := by
  obtain ⟨hsz, hoc, hoa, G, A, hO, hT, hG, hM⟩ := hI
  have all : ∀ (q : Nat) (j : Nat), j ≤ q → j < g.m → Done L j := by
    intro q
    induction q with
    | zero =>
      intro j hj hlt
      refine Classical.byContradiction fun hn => ?_
      have hu := (not_done (by omega)).1 hn
      obtain ⟨o, ho⟩ : ∃ o, ops[j]? = some o := ⟨ops[j]'(by omega), by simp [hm, hlt]⟩
      have hin : j ∈ Region.ready .any ops L := mem_ready.2 ⟨hu, o, ho, fun e he hb => by
        have h1 := List.all_eq_true.1 ha j (List.mem_range.2 (by omega))
        rw [ho] at h1
        have h2 := Array.all_eq_true'.1 h1 e he
        simp only [hb, Bool.not_true, Bool.false_or, decide_eq_true_eq] at h2
        omega⟩
      rw [hr] at hin
      cases hin
    | succ q ih =>
      intro j hj hlt
      refine Classical.byContradiction fun hn => ?_
      have hu := (not_done (by omega)).1 hn
      obtain ⟨o, ho⟩ : ∃ o, ops[j]? = some o := ⟨ops[j]'(by omega), by simp [hm, hlt]⟩
      have hin : j ∈ Region.ready .any ops L := mem_ready.2 ⟨hu, o, ho, fun e he hb => by
        have h1 := List.all_eq_true.1 ha j (List.mem_range.2 (by omega))
        rw [ho] at h1
        have h2 := Array.all_eq_true'.1 h1 e he
        simp only [hb, Bool.not_true, Bool.false_or, decide_eq_true_eq] at h2
        exact ih e.on (by omega) (by omega)⟩
      rw [hr] at hin
      cases hin
  have dc := all _ g.c (Nat.le_refl _) hc.1
  have da := all _ g.a (Nat.le_refl _) hc.2.1
  have ds := all _ g.st (Nat.le_refl _) hc.2.2
  obtain ⟨m1, m2, m3, m4⟩ := hM
  rw [dc, da] at m1
  have h4 := m4 da
  rw [ds] at h4
  refine ⟨G, A, hO, fun q hq => hT q hq (all _ _ (Nat.le_refl _) (hF G A q hq)), hG dc, by simpa using m1, m2, m3, h4.1, by simpa using h4.2⟩
end
/-- The values that the call gives to its caller. -/
def gv (G : List AVal) (i : Nat) : AVal := G.getD i .undef
@[simp] theorem gv_zero (a : AVal) (l : List AVal) : gv (a :: l) 0 = a := rfl
@[simp] theorem gv_succ (a : AVal) (l : List AVal) (i : Nat) : gv (a :: l) (i + 1) = gv l i := by simp [gv]
theorem Old.nil {ρ : Env} : Old ρ [] := fun q hq => by cases hq
theorem Old.cons {ρ : Env} {t : Nat} {v : AVal} {B : List (Nat × AVal)} (h : ρ t = v) (hb : Old ρ B) : Old ρ ((t, v) :: B) := fun q hq => by
  rcases List.mem_cons.1 hq with rfl | hq
  · exact h
  · exact hb q hq
theorem ArgsOk.of_eq {H : Heap} {n : Nat} {l xs args' : List AVal} (h : l = xs) (ha : ArgsOk H n xs args') : ArgsOk H n l args' := h ▸ ha
theorem OpSem.callD2 {P : Program} {N : Nat} {ρ : Env} {H : Heap} {n : Nat} {d : Option Tmp} {g : Operand} {args : Array Operand} {ats : Array TypeId} {ty : TypeId} {pos : String} {af : Array Edge} {gu : Option (Nat × Bool)} {v : AVal} {f : FuncId} {xs args' : List AVal}
    (h : PureC P f args' (fun r => r = v)) (hent : Ent P f) (ha : ArgsOk H n xs args') (hg : ρ.ev g = .fn (.func f) [] []) (has : args.toList.map ρ.ev = xs) :
    OpSem P N ⟨d, .call ⟨.value g, args, ats⟩, ty, pos, af, gu⟩ (loc (.call ⟨.value g, args, ats⟩) ρ) H n (isV v H n) := OpSem.callD hg hent (has ▸ ha) h
end Go.Ab

/- Loops that count: how their conditions are met. -/
namespace Go.Ab.Vg
set_option linter.unusedSimpArgs false
set_option linter.unusedVariables false
theorem loopW.up {σ τ : Type} {body : σ → (σ → Prop) → Prop} {s : σ} (N : Nat) (idx : σ → Int) (mk : Nat → τ → σ) (hidx : ∀ k t, idx (mk k t) = (k : Int)) (I : Nat → τ → Prop) (t0 : τ) (hs : s = mk 0 t0) (h0 : I 0 t0)
    (step : ∀ k t (K : σ → Prop), k ≤ N → I k t → (k < N → ∀ t', I (k + 1) t' → K (mk (k + 1) t')) → body (mk k t) K) : loopW body s := by
  refine ⟨fun s => ∃ k t, s = mk k t ∧ k ≤ N ∧ I k t, fun s => N - (idx s).toNat, ⟨0, t0, hs, Nat.zero_le _, h0⟩, ?_⟩
  rintro s ⟨k, t, rfl, hk, hI⟩
  refine step k t _ hk hI fun hlt t' hI' => ⟨⟨k + 1, t', rfl, hlt, hI'⟩, ?_⟩
  show N - (idx _).toNat < N - (idx _).toNat
  rw [hidx, hidx]
  omega

/-- A counter ahead of what else is carried. -/
theorem loopW.upL {τ : Type} {body : Int × τ → (Int × τ → Prop) → Prop} (N : Nat) (I : Nat → τ → Prop) (t0 : τ) (h0 : I 0 t0)
    (step : ∀ k t (K : Int × τ → Prop), k ≤ N → I k t → (k < N → ∀ t', I (k + 1) t' → K (((k : Int) + 1), t')) → body ((k : Int), t) K) : loopW body (0, t0) :=
  loopW.up N (·.1) (fun k t => ((k : Int), t)) (fun _ _ => rfl) I t0 rfl h0 fun k t K hk hI h => step k t K hk hI fun hlt t' hI' => by have := h hlt t' hI'; simpa using this
theorem loopW.upR {τ : Type} {body : τ × Int → (τ × Int → Prop) → Prop} (N : Nat) (I : Nat → τ → Prop) (t0 : τ) (h0 : I 0 t0)
    (step : ∀ k t (K : τ × Int → Prop), k ≤ N → I k t → (k < N → ∀ t', I (k + 1) t' → K (t', ((k : Int) + 1))) → body (t, (k : Int)) K) : loopW body (t0, 0) :=
  loopW.up N (·.2) (fun k t => (t, (k : Int))) (fun _ _ => rfl) I t0 rfl h0 fun k t K hk hI h => step k t K hk hI fun hlt t' hI' => by have := h hlt t' hI'; simpa using this
/-- A counter alone. -/
theorem loopW.up1 {body : Int → (Int → Prop) → Prop} (N : Nat) (I : Nat → Prop) (h0 : I 0)
    (step : ∀ k (K : Int → Prop), k ≤ N → I k → (k < N → I (k + 1) → K ((k : Int) + 1)) → body (k : Int) K) : loopW body 0 :=
  loopW.up (τ := Unit) N id (fun k _ => (k : Int)) (fun _ _ => rfl) (fun k _ => I k) () rfl h0 fun k _ K hk hI h => step k K hk hI fun hlt hI' => by have := h hlt () hI'; simpa using this
/-- A loop by its measure. -/
theorem loopW.byM {σ : Type} {body : σ → (σ → Prop) → Prop} {s : σ} (I : σ → Prop) (m : σ → Nat) (h0 : I s) (step : ∀ s, I s → body s (fun s' => I s' ∧ m s' < m s)) : loopW body s := ⟨I, m, h0, step⟩

theorem at_nat {α : Type} [Inhabited α] (l : List α) (k : Nat) : at' l (k : Int) = l.getD k default := by simp [at']
theorem at_lt {α : Type} [Inhabited α] {l : List α} {k : Nat} (h : k < l.length) : at' l (k : Int) = l[k] := by simp [at', h]

/-- The indices below k of elements with a property. -/
def idxs {α : Type} [Inhabited α] (l : List α) (p : α → Bool) (k : Nat) : List Int := ((List.range k).filter fun i : Nat => p (at' l (i : Int))).map fun i : Nat => (i : Int)
section
variable {α : Type} [Inhabited α] (l : List α) (p : α → Bool)
theorem idxs_zero : idxs l p 0 = [] := rfl
theorem idxs_yes {k : Nat} (h : p (at' l (k : Int)) = true) : idxs l p (k + 1) = idxs l p k ++ [(k : Int)] := by simp [idxs, List.range_succ, h]
theorem idxs_no {k : Nat} (h : p (at' l (k : Int)) = false) : idxs l p (k + 1) = idxs l p k := by simp [idxs, List.range_succ, h]
theorem idxs_len (k : Nat) : (idxs l p k).length ≤ k := by
  have := List.length_filter_le (fun i : Nat => p (at' l (i : Int))) (List.range k)
  simpa [idxs] using this
theorem mem_idxs {k : Nat} {x : Int} : x ∈ idxs l p k ↔ 0 ≤ x ∧ x < k ∧ p (at' l x) = true := by
  simp only [idxs, List.mem_map, List.mem_filter, List.mem_range]
  constructor
  · rintro ⟨i, ⟨h1, h2⟩, rfl⟩
    exact ⟨by omega, by omega, h2⟩
  · rintro ⟨h1, h2, h3⟩
    exact ⟨x.toNat, ⟨by omega, by rwa [Int.toNat_of_nonneg h1]⟩, by omega⟩
end
end Go.Ab.Vg
