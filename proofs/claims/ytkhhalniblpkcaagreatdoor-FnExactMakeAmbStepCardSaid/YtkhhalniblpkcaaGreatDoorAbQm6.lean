/- Merged texts (6 of 11) of the proof that ends in My: O Ub Ms Mt Cow Cpw Cqw Lmt Lmw. -/
import Derived.Test.YtkhhalniblpkcaaGreatDoorAbQm5
/- The abstract machine, part O: regions that draw their order and make variables. -/
namespace Go.Ab

def kindN : Op → Nat
  | .move _ | .assign _ | .pick .. | .binOp .. | .unOp .. | .convert .. | .makeFunc .. | .extract .. | .field .. | .index .. | .build .. => 0
  | .load .. | .fieldAddr .. | .indexAddr .. | .nilCheck _ | .call ⟨.builtin .len, _, _⟩ => 1
  | .alloc _ => 3
  | .store .. => 4
  | _ => 2

def compatN (a b : Nat) : Bool := a == 0 || b == 0 || (a == 1 && (b == 1 || b == 3 || b == 4)) || (a == 3 && (b == 1 || b == 3 || b == 4)) || (a == 4 && (b == 1 || b == 3))

/-- It points to no object of the region's own. -/
def idOk (n0 : Nat) : AVal → Prop
  | .ptr id _ _ _ | .arr id _ _ _ => id.1 < n0
  | _ => True

/-- What an operation may look at or turn, by its kind. -/
def condN (n0 : Nat) (op : Op) (ρ : Env) : Prop :=
  match op with
  | .load _ a | .fieldAddr _ a _ | .nilCheck a => idOk n0 (ρ.ev a)
  | .indexAddr _ x _ => idOk n0 (ρ.ev x)
  | .call ⟨.builtin .len, args, _⟩ => ∀ x ∈ args.toList, idOk n0 (ρ.ev x)
  | .store _ a _ => ∃ id g idx off, ρ.ev a = .ptr id g idx off ∧ n0 ≤ id.1
  | _ => kindN op = 0

theorem view_agree {n0 : Nat} {H H2 : Heap} (hag : ∀ id : Id, id.1 < n0 → H2 id = H id) {p : AVal} (hp : idOk n0 p) : viewOf H2 p = viewOf H p := by
  cases p with
  | ptr id g idx off => simp only [viewOf]; rw [hag id hp]
  | _ => rfl

theorem live_agree {n0 : Nat} {H H2 : Heap} (hag : ∀ id : Id, id.1 < n0 → H2 id = H id) {id : Id} {g : Nat} (hp : id.1 < n0) : live H2 id g = live H id g := by
  unfold live
  rw [hag id hp]

section
variable {Ty : Types} {ρ : Env} {H H2 H' : Heap} {n n2 n' n0 : Nat} {d : Option Tmp} {v : AVal} {op : Op}

theorem stepF_n0 (hk : kindN op = 0) (h : stepF Ty d op ρ H n = some (v, H', n')) : H' = H ∧ n' = n ∧ ∀ H2 n2, stepF Ty d op ρ H2 n2 = some (v, H2, n2) := by
  refine stepF_k0 ?_ h
  cases op with
  | call c =>
    obtain ⟨cal, args, ats⟩ := c
    cases cal with
    | builtin b => cases b <;> simp [kindN] at hk
    | _ => simp [kindN] at hk
  | _ => first | rfl | (simp [kindN] at hk)

theorem stepF_n1 (hk : kindN op = 1) (hc : condN n0 op ρ) (hag : ∀ id : Id, id.1 < n0 → H2 id = H id) (h : stepF Ty d op ρ H n = some (v, H', n')) : H' = H ∧ n' = n ∧ stepF Ty d op ρ H2 n2 = some (v, H2, n2) := by
  cases op with
  | load t a =>
    simp only [stepF] at h ⊢
    rw [view_agree hag hc]
    split at h
    · split at h
      · cases h; exact ⟨rfl, rfl, rfl⟩
      · cases h
    · cases h
  | fieldAddr t a f =>
    simp only [stepF] at h ⊢
    rw [view_agree hag hc]
    split at h
    · split at h
      · split at h
        · cases h
        · rename_i hz
          cases h
          exact ⟨rfl, rfl, by rw [if_neg hz]⟩
      · cases h
    · cases h
  | nilCheck a =>
    simp only [stepF] at h ⊢
    rw [view_agree hag hc]
    split at h
    · cases h; exact ⟨rfl, rfl, rfl⟩
    · cases h
  | indexAddr t x ix =>
    obtain ⟨h1, h2, h3⟩ := map_some_eq h
    refine ⟨h2, h3, ?_⟩
    have : indexAddrF Ty H2 t (ρ.ev x) (ρ.ev ix) = indexAddrF Ty H t (ρ.ev x) (ρ.ev ix) := by
      simp only [condN] at hc
      unfold indexAddrF
      split
      · generalize ρ.ev x = p at hc
        cases hkd : kd Ty t with
        | slice j => cases p with
          | arr id g off len => simp only [live_agree hag (show id.1 < n0 from hc)]
          | _ => rfl
        | arr len j => simp only [view_agree hag hc]
        | _ => rfl
      · rfl
    simp only [stepF, this, h1, Option.map_some]
  | call c =>
    obtain ⟨cal, args, ats⟩ := c
    cases cal with
    | builtin b =>
      cases b <;> simp [kindN] at hk
      simp only [stepF] at h ⊢
      split at h
      · rename_i x t hx ht
        obtain ⟨h1, h2, h3⟩ := map_some_eq h
        refine ⟨h2, h3, ?_⟩
        have hcx : idOk n0 (ρ.ev x) := hc x (by rw [hx]; simp)
        have : lenF Ty H2 t (ρ.ev x) = lenF Ty H t (ρ.ev x) := by
          unfold lenF
          generalize ρ.ev x = p at hcx
          cases hkd : kd Ty t with
          | slice j => cases p with
            | arr id g off len => simp only [live_agree hag (show id.1 < n0 from hcx)]
            | v x => cases x <;> rfl
            | _ => rfl
          | string => cases p with
            | v x => cases x <;> rfl
            | _ => rfl
          | _ => rfl
        simp only [this, h1, Option.map_some]
      · cases h
    | _ => simp [kindN] at hk
  | _ => simp [kindN] at hk

/-- Where a store goes. -/
def tgt : Op → Env → Option Id
  | .store _ a _, ρ => match ρ.ev a with
    | .ptr id _ _ _ => some id
    | _ => none
  | _, _ => none

theorem stepF_n4 (hk : kindN op = 4) (hc : condN n0 op ρ) (h : stepF Ty d op ρ H n = some (v, H', n')) :
    ∃ id ob ob', tgt op ρ = some id ∧ n0 ≤ id.1 ∧ H id = some ob ∧ H' = H.set id ob' ∧ n' = n ∧ ∀ H2 n2, H2 id = some ob → stepF Ty d op ρ H2 n2 = some (v, H2.set id ob', n2) := by
  cases op with
  | store t a x =>
    obtain ⟨id, g, idx, off, ha, hid⟩ := hc
    simp only [stepF] at h ⊢
    rw [ha] at h ⊢
    split at h
    · rename_i H1 hs
      cases h
      unfold storeF at hs
      split at hs
      · rename_i i id1 g1 idx1 off1 new e1 e2 e3
        cases e2
        split at hs
        · rename_i o hl
          split at hs
          · rename_i hcond
            cases hs
            obtain ⟨l1, l2⟩ := live_some hl
            refine ⟨id, o, o.write idx off new, by simp only [tgt, ha], hid, l1, rfl, rfl, fun H2 n2 h2 => ?_⟩
            have hl2 : live H2 id g = some o := by
              unfold live
              rw [h2]
              simp [l2]
            simp only [storeF, e1, e3, hl2, if_pos hcond]
          · cases hs
        · cases hs
      · cases hs
    · cases h
  | call c =>
    obtain ⟨cal, args, ats⟩ := c
    cases cal with
    | builtin b => cases b <;> simp [kindN] at hk
    | _ => simp [kindN] at hk
  | _ => simp [kindN] at hk
end

theorem condN_loc {n0 : Nat} {op : Op} {ρ : Env} : condN n0 op (loc op ρ) ↔ condN n0 op ρ := by
  have h : ∀ x, x ∈ op.operands → (loc op ρ).ev x = ρ.ev x := fun x hx => loc_ev hx
  generalize loc op ρ = ρ' at h
  cases op with
  | call c =>
    obtain ⟨cal, args, ats⟩ := c
    cases cal with
    | builtin b =>
      cases b <;> try rfl
      have ha : ∀ x, x ∈ args.toList → ρ'.ev x = ρ.ev x := fun x hx => h x (by simp [Op.operands, Call.operands]; simpa using hx)
      simp only [condN]
      exact ⟨fun hc x hx => by rw [← ha x hx]; exact hc x hx, fun hc x hx => by rw [ha x hx]; exact hc x hx⟩
    | _ => rfl
  | load t a => simp only [condN]; rw [h a (by simp [Op.operands])]
  | fieldAddr t a f => simp only [condN]; rw [h a (by simp [Op.operands])]
  | nilCheck a => simp only [condN]; rw [h a (by simp [Op.operands])]
  | indexAddr t x i => simp only [condN]; rw [h x (by simp [Op.operands])]
  | store t a x => simp only [condN]; rw [h a (by simp [Op.operands])]
  | _ => rfl

section
variable (Ty : Types) (ops : Array Oper) (n0 : Nat)
def DoN (o : Oper) (s : AS) (R : AS → Prop) : Prop :=
  (gok ops o s.1 = some false ∧ R (s.1.put o.dst skv, s.2)) ∨
  (gok ops o s.1 = some true ∧ kindN o.op ≠ 3 ∧ condN n0 o.op s.1 ∧ ∃ v H', stepF Ty o.dst o.op s.1 s.2.1 s.2.2 = some (v, H', s.2.2) ∧ R (s.1.put o.dst v, H', s.2.2)) ∨
  (gok ops o s.1 = some true ∧ ∃ t k i, o.op = .alloc t ∧ o.dst = some k ∧ Ty t = some i ∧ ∀ a, n0 ≤ a → (∀ j, s.2.1 (a, j) = none) → R (s.1.put (some k) (.ptr (a, k) 1 0 0), s.2.1.set (a, k) ⟨i.zero.length, [i.zero.map .v]⟩, max s.2.2 (a + 1)))

def Bd (s : AS) : Prop := n0 ≤ s.2.2 ∧ ∀ id o, s.2.1 id = some o → id.1 < s.2.2
end

theorem set_comm {H : Heap} {i j : Id} (o p : Ob) (h : i ≠ j) : (H.set i o).set j p = (H.set j p).set i o := by
  funext x
  simp only [Heap.set]
  by_cases h1 : x = i <;> by_cases h2 : x = j <;> simp_all

section
variable {Ty : Types} {ops : Array Oper} {n0 : Nat}
theorem DoN.mono {o : Oper} {s : AS} {R R' : AS → Prop} (h : DoN Ty ops n0 o s R) (hR : ∀ s, R s → R' s) : DoN Ty ops n0 o s R' := by
  rcases h with ⟨h1, h2⟩ | ⟨h1, h2, h3, v, H', h4, h5⟩ | ⟨h1, t, k, i, h2, h3, h4, h5⟩
  · exact .inl ⟨h1, hR _ h2⟩
  · exact .inr (.inl ⟨h1, h2, h3, v, H', h4, hR _ h5⟩)
  · exact .inr (.inr ⟨h1, t, k, i, h2, h3, h4, fun a ha hf => hR _ (h5 a ha hf)⟩)

theorem kind_cond {op : Op} {ρ : Env} (h3 : kindN op ≠ 3) (h : condN n0 op ρ) : kindN op = 0 ∨ kindN op = 1 ∨ kindN op = 4 := by
  cases op with
  | call c =>
    obtain ⟨cal, args, ats⟩ := c
    cases cal with
    | builtin b => cases b <;> first | (simp [kindN]; done) | (simp [condN, kindN] at h)
    | _ => simp [condN, kindN] at h
  | buildSlice t len ps => simp only [condN] at h; exact .inl h
  | _ => first | (simp [kindN]; done) | (simp [condN, kindN] at h; done) | (simp [kindN] at h3)

theorem fresh_ex {s : AS} (hb : Bd n0 s) (j : Nat) : s.2.1 (s.2.2, j) = none := by
  cases h : s.2.1 (s.2.2, j) with
  | none => rfl
  | some o => have := hb.2 _ o h; simp at this

theorem DoN.bd {o : Oper} {s : AS} {R : AS → Prop} (hb : Bd n0 s) (h : DoN Ty ops n0 o s R) : DoN Ty ops n0 o s fun s' => Bd n0 s' ∧ R s' := by
  rcases h with ⟨h1, h2⟩ | ⟨h1, h2, h3, v, H', h4, h5⟩ | ⟨h1, t, k, i, h2, h3, h4, h5⟩
  · exact .inl ⟨h1, hb, h2⟩
  · refine .inr (.inl ⟨h1, h2, h3, v, H', h4, ⟨hb.1, ?_⟩, h5⟩)
    rcases kind_cond h2 h3 with hk | hk | hk
    · obtain ⟨rfl, _⟩ := stepF_n0 hk h4; exact hb.2
    · obtain ⟨rfl, _⟩ := stepF_n1 (H2 := s.2.1) (n2 := s.2.2) hk h3 (fun _ _ => rfl) h4; exact hb.2
    · obtain ⟨id, ob, ob', _, _, e2, rfl, _⟩ := stepF_n4 hk h3 h4
      intro id' o' ho'
      simp only at ho' ⊢
      by_cases he : id' = id
      · rw [he]; exact hb.2 _ _ e2
      · rw [Heap.get_set_ne _ _ he] at ho'; exact hb.2 _ _ ho'
  · refine .inr (.inr ⟨h1, t, k, i, h2, h3, h4, fun a ha hf => ⟨⟨?_, ?_⟩, h5 a ha hf⟩⟩)
    · have := hb.1; simp only; omega
    · intro id' o' ho'
      simp only at ho' ⊢
      by_cases he : id' = (a, k)
      · rw [he]; simp only; omega
      · rw [Heap.get_set_ne _ _ he] at ho'
        have := hb.2 _ _ ho'
        omega

theorem DoN.swap {oi oj : Oper} (hap : oi.apart ops oj = true) (hc : compatN (kindN oi.op) (kindN oj.op) = true) {s : AS} (hb : Bd n0 s) {R : AS → Prop} (h : DoN Ty ops n0 oi s fun si => DoN Ty ops n0 oj si R) :
    DoN Ty ops n0 oj s fun sj => DoN Ty ops n0 oi sj R := by
  obtain ⟨h1, h2, h3⟩ := Oper.apart_spec hap
  have sj : ∀ v H n, stepF Ty oj.dst oj.op (s.1.put oi.dst v) H n = stepF Ty oj.dst oj.op s.1 H n := fun v H n => by rw [← stepF_loc, loc_put (looks_tmps h1), stepF_loc]
  have si : ∀ v H n, stepF Ty oi.dst oi.op (s.1.put oj.dst v) H n = stepF Ty oi.dst oi.op s.1 H n := fun v H n => by rw [← stepF_loc, loc_put (looks_tmps h3), stepF_loc]
  have cj : ∀ v, condN n0 oj.op (s.1.put oi.dst v) ↔ condN n0 oj.op s.1 := fun v => by rw [← condN_loc, loc_put (looks_tmps h1), condN_loc]
  have ci : ∀ v, condN n0 oi.op (s.1.put oj.dst v) ↔ condN n0 oi.op s.1 := fun v => by rw [← condN_loc, loc_put (looks_tmps h3), condN_loc]
  have gj : ∀ v, gok ops oj (s.1.put oi.dst v) = gok ops oj s.1 := fun v => gok_put h1
  have gi : ∀ v, gok ops oi (s.1.put oj.dst v) = gok ops oi s.1 := fun v => gok_put h3
  have pc : ∀ v u, (s.1.put oi.dst v).put oj.dst u = (s.1.put oj.dst u).put oi.dst v := fun v u => put_comm v u h2
  obtain ⟨ρ, H, n⟩ := s
  simp only at sj si cj ci gj gi pc
  rcases h with ⟨hgi, h⟩ | ⟨hgi, hki, hci, v, Hi, hsi, h⟩ | ⟨hgi, t, k, i, hop, hd, hT, h⟩
  · -- oi is skipped
    rcases h with ⟨hgj, h⟩ | ⟨hgj, hkj, hcj, u, Hj, hsj, h⟩ | ⟨hgj, t', k', i', hop', hd', hT', h⟩
    · simp only [gj] at hgj
      exact .inl ⟨hgj, .inl ⟨by simpa only [gi] using hgi, by simpa only [pc] using h⟩⟩
    · simp only [gj, cj, sj] at hgj hcj hsj
      exact .inr (.inl ⟨hgj, hkj, hcj, u, Hj, hsj, .inl ⟨by simpa only [gi] using hgi, by simpa only [pc] using h⟩⟩)
    · simp only [gj] at hgj
      rw [hd'] at pc gi
      exact .inr (.inr ⟨hgj, t', k', i', hop', hd', hT', fun a ha hf => .inl ⟨by simpa only [gi] using hgi, by simpa only [pc] using h a ha hf⟩⟩)
  · -- oi runs
    rcases h with ⟨hgj, h⟩ | ⟨hgj, hkj, hcj, u, Hj, hsj, h⟩ | ⟨hgj, t', k', i', hop', hd', hT', h⟩
    · simp only [gj] at hgj
      exact .inl ⟨hgj, .inr (.inl ⟨by simpa only [gi] using hgi, hki, by simpa only [ci] using hci, v, Hi, by simpa only [si] using hsi, by simpa only [pc] using h⟩)⟩
    · simp only [gj, cj, sj] at hgj hcj hsj
      simp only at hsi hci hgi h
      -- both run
      have key : ∃ Hj', stepF Ty oj.dst oj.op ρ H n = some (u, Hj', n) ∧ stepF Ty oi.dst oi.op ρ Hj' n = some (v, Hj, n) := by
        rcases kind_cond hki hci with ki | ki | ki
        · obtain ⟨rfl, _, hall⟩ := stepF_n0 ki hsi
          exact ⟨Hj, hsj, hall Hj n⟩
        · obtain ⟨rfl, _, _⟩ := stepF_n1 (H2 := H) (n2 := n) ki hci (fun _ _ => rfl) hsi
          rcases kind_cond hkj hcj with kj | kj | kj
          · obtain ⟨rfl, _, hall⟩ := stepF_n0 kj hsj
            exact ⟨_, hsj, hsi⟩
          · obtain ⟨rfl, _, _⟩ := stepF_n1 (H2 := Hi) (n2 := n) kj hcj (fun _ _ => rfl) hsj
            exact ⟨_, hsj, hsi⟩
          · obtain ⟨id, ob, ob', _, e1, e2, rfl, _, _⟩ := stepF_n4 kj hcj hsj
            refine ⟨_, hsj, ?_⟩
            exact (stepF_n1 ki hci (fun id' hid => Heap.get_set_ne _ _ (by rintro rfl; omega)) hsi).2.2
        · obtain ⟨id, ob, ob', _, e1, e2, rfl, _, hall⟩ := stepF_n4 ki hci hsi
          rcases kind_cond hkj hcj with kj | kj | kj
          · obtain ⟨rfl, _, hall'⟩ := stepF_n0 kj hsj
            exact ⟨H, hall' H n, hsi⟩
          · obtain ⟨rfl, _, hst⟩ := stepF_n1 (H2 := H) (n2 := n) kj hcj (fun id' hid => (Heap.get_set_ne _ _ (by rintro rfl; omega)).symm) hsj
            exact ⟨H, hst, hsi⟩
          · rw [ki, kj] at hc; simp [compatN] at hc
      obtain ⟨Hj', k1, k2⟩ := key
      exact .inr (.inl ⟨hgj, hkj, hcj, u, Hj', k1, .inr (.inl ⟨by simpa only [gi] using hgi, hki, by simpa only [ci] using hci, v, Hj, by simpa only [si] using k2, by simpa only [pc] using h⟩)⟩)
    · -- oj makes a variable
      simp only [gj] at hgj
      rw [hd'] at pc gi si ci
      refine .inr (.inr ⟨hgj, t', k', i', hop', hd', hT', fun a ha hf => ?_⟩)
      simp only at hsi hci hgi h hf
      rcases kind_cond hki hci with ki | ki | ki
      · obtain ⟨rfl, _, hall⟩ := stepF_n0 ki hsi
        exact .inr (.inl ⟨by simpa only [gi] using hgi, hki, by simpa only [ci] using hci, v, _, by simpa only [si] using hall _ _, by simpa only [pc] using h a ha hf⟩)
      · obtain ⟨rfl, _, _⟩ := stepF_n1 (H2 := H) (n2 := n) ki hci (fun _ _ => rfl) hsi
        have hst := (stepF_n1 (n2 := max n (a + 1)) ki hci (fun id' hid => Heap.get_set_ne Hi ⟨i'.zero.length, [i'.zero.map .v]⟩ (i := (a, k')) (by rintro rfl; simp only at hid; omega)) hsi).2.2
        exact .inr (.inl ⟨by simpa only [gi] using hgi, hki, by simpa only [ci] using hci, v, _, by simpa only [si] using hst, by simpa only [pc] using h a ha hf⟩)
      · obtain ⟨id, ob, ob', _, e1, e2, rfl, _, hall⟩ := stepF_n4 ki hci hsi
        have hne : id ≠ (a, k') := by rintro rfl; rw [hf k'] at e2; cases e2
        have hf' : ∀ j, (H.set id ob') (a, j) = none := fun j => by
          rw [Heap.get_set_ne _ _ (by rintro rfl; rw [hf j] at e2; cases e2)]
          exact hf j
        have hst := hall (H.set (a, k') ⟨i'.zero.length, [i'.zero.map .v]⟩) (max n (a + 1)) (by rw [Heap.get_set_ne _ _ hne]; exact e2)
        have hfin := h a ha hf'
        rw [set_comm _ _ hne] at hfin
        exact .inr (.inl ⟨by simpa only [gi] using hgi, hki, by simpa only [ci] using hci, v, _, by simpa only [si] using hst, by simpa only [pc] using hfin⟩)
  · -- oi makes a variable
    simp only at hgi h
    rw [hd] at pc gj sj cj
    have hf0 : ∀ j, H (n, j) = none := fun j => fresh_ex hb j
    have hn0 : n0 ≤ n := hb.1
    have hi3 : kindN oi.op = 3 := by rw [hop]; rfl
    rcases h n hn0 hf0 with ⟨hgj, _⟩ | ⟨hgj, hkj, hcj, u, Hj, hsj, _⟩ | ⟨hgj, t', k', i', hop', hd', hT', _⟩
    · simp only [gj] at hgj
      refine .inl ⟨hgj, .inr (.inr ⟨by simpa only [gi] using hgi, t, k, i, hop, hd, hT, fun a ha hf => ?_⟩)⟩
      rcases h a ha hf with ⟨_, h⟩ | ⟨hg, _⟩ | ⟨hg, _⟩
      · simpa only [pc] using h
      · simp only [gj, hgj] at hg; cases hg
      · simp only [gj, hgj] at hg; cases hg
    · simp only [gj, cj, sj] at hgj hcj hsj
      have back : ∀ a, n0 ≤ a → (∀ j, H (a, j) = none) → ∃ ua Ha, stepF Ty oj.dst oj.op ρ (H.set (a, k) ⟨i.zero.length, [i.zero.map .v]⟩) (max n (a + 1)) = some (ua, Ha, max n (a + 1)) ∧ R ((ρ.put (some k) (.ptr (a, k) 1 0 0)).put oj.dst ua, Ha, max n (a + 1)) := by
        intro a ha hf
        rcases h a ha hf with ⟨hg, _⟩ | ⟨_, _, _, ua, Ha, hs, hR⟩ | ⟨_, t', _, _, hop', _⟩
        · simp only [gj, hgj] at hg; cases hg
        · simp only [sj] at hs
          exact ⟨ua, Ha, hs, hR⟩
        · exact absurd (by rw [hop']; rfl) hkj
      have hout : ∀ (a : Nat) (id' : Id), n0 ≤ a → id'.1 < n0 → (H.set (a, k) ⟨i.zero.length, [i.zero.map .v]⟩) id' = H id' := fun a id' ha hid => Heap.get_set_ne _ _ (by rintro rfl; simp only at hid; omega)
      rcases kind_cond hkj hcj with kj | kj | kj
      · obtain ⟨rfl, _, hall⟩ := stepF_n0 kj hsj
        refine .inr (.inl ⟨hgj, hkj, hcj, u, H, hall H n, .inr (.inr ⟨by simpa only [gi] using hgi, t, k, i, hop, hd, hT, fun a ha hf => ?_⟩)⟩)
        obtain ⟨ua, Ha, hs, hR⟩ := back a ha hf
        rw [hall] at hs
        cases hs
        simpa only [pc] using hR
      · have hst := (stepF_n1 (H2 := H) (n2 := n) kj hcj (fun id' hid => (hout n id' hn0 hid).symm) hsj).2.2
        refine .inr (.inl ⟨hgj, hkj, hcj, u, H, hst, .inr (.inr ⟨by simpa only [gi] using hgi, t, k, i, hop, hd, hT, fun a ha hf => ?_⟩)⟩)
        obtain ⟨ua, Ha, hs, hR⟩ := back a ha hf
        have hst2 := (stepF_n1 (H2 := H.set (a, k) ⟨i.zero.length, [i.zero.map .v]⟩) (n2 := max n (a + 1)) kj hcj (fun id' hid => hout a id' ha hid) hst).2.2
        rw [hst2] at hs
        cases hs
        simpa only [pc] using hR
      · obtain ⟨id, o1, o1', t1, _, e2, rfl, _, hall⟩ := stepF_n4 kj hcj hsj
        obtain ⟨u2, H2, hs2, _⟩ := back (n + 1) (by omega) (fun j => by
          cases hx : H (n + 1, j) with
          | none => rfl
          | some o => have := hb.2 (n + 1, j) o hx; simp only at this; omega)
        obtain ⟨id2, o2, o2', t2, _, e2', _⟩ := stepF_n4 kj hcj hs2
        rw [t1] at t2
        cases t2
        have hne : id ≠ (n, k) := by
          rintro rfl
          rw [Heap.get_set_ne _ _ (by intro he; have := congrArg Prod.fst he; simp only at this; omega), hf0 k] at e2'
          cases e2'
        rw [Heap.get_set_ne _ _ hne] at e2
        refine .inr (.inl ⟨hgj, hkj, hcj, u, H.set id o1', hall H n e2, .inr (.inr ⟨by simpa only [gi] using hgi, t, k, i, hop, hd, hT, fun a ha hf => ?_⟩)⟩)
        simp only at hf ⊢
        have hf' : ∀ j, H (a, j) = none := fun j => by
          have := hf j
          by_cases he : (a, j) = id
          · rw [he, Heap.get_set_self] at this; cases this
          · rwa [Heap.get_set_ne _ _ he] at this
        have hne' : id ≠ (a, k) := by
          rintro rfl
          rw [hf' k] at e2
          cases e2
        obtain ⟨ua, Ha, hs, hR⟩ := back a ha hf'
        rw [hall _ _ (by rw [Heap.get_set_ne _ _ hne']; exact e2)] at hs
        cases hs
        rw [set_comm _ _ hne', ← pc]
        exact hR
    · simp only [gj] at hgj
      rw [hd'] at pc gi
      refine .inr (.inr ⟨hgj, t', k', i', hop', hd', hT', fun b hb' hfb => .inr (.inr ⟨by simpa only [gi] using hgi, t, k, i, hop, hd, hT, fun a ha hfa => ?_⟩)⟩)
      simp only at hfa ⊢
      have hab : a ≠ b := by
        rintro rfl
        have := hfa k'
        rw [Heap.get_set_self] at this
        cases this
      have hfa' : ∀ j, H (a, j) = none := fun j => by
        have := hfa j
        rwa [Heap.get_set_ne _ _ (by intro he; exact hab (congrArg Prod.fst he))] at this
      rcases h a ha hfa' with ⟨hg, _⟩ | ⟨_, hk3, _⟩ | ⟨_, t2, k2, i2, hop2, hd2, hT2, h2'⟩
      · simp only [gj, hgj] at hg; cases hg
      · exact absurd (by rw [hop']; rfl) hk3
      · rw [hop'] at hop2
        cases hop2
        rw [hd'] at hd2
        cases hd2
        rw [hT'] at hT2
        cases hT2
        have hfin := h2' b hb' (fun j => by simp only; rw [Heap.get_set_ne _ _ (by intro he; exact hab (congrArg Prod.fst he).symm)]; exact hfb j)
        simp only at hfin
        rw [set_comm _ _ (by intro he; exact hab (congrArg Prod.fst he)), pc] at hfin
        have hm : max (max n (b + 1)) (a + 1) = max (max n (a + 1)) (b + 1) := by omega
        rw [hm]
        exact hfin

theorem DoN.some_ {o : Oper} {s : AS} {q : Prop} (hb : Bd n0 s) (h : DoN Ty ops n0 o s fun _ => q) : q := by
  rcases h with ⟨_, h⟩ | ⟨_, _, _, _, _, _, h⟩ | ⟨_, _, _, _, _, _, _, h⟩
  · exact h
  · exact h
  · exact h s.2.2 hb.1 (fun j => fresh_ex hb j)

variable (Ty ops n0) in
def AnyN (R : AS → Prop) : Nat → Array Bool → AS → Prop
  | 0, listed, s => Region.ready .any ops listed = [] ∧ R s
  | fuel + 1, listed, s => (Region.ready .any ops listed = [] → R s) ∧ ∀ i ∈ Region.ready .any ops listed, ∃ o, ops[i]? = some o ∧ DoN Ty ops n0 o s (AnyN R fuel (listed.setIfInBounds i true))

variable (Ty ops n0) in
def RunN (R : AS → Prop) : List Oper → AS → Prop
  | [], s => R s
  | o :: l, s => DoN Ty ops n0 o s (RunN R l)

theorem AnyN.first {R : AS → Prop} {i : Nat} {oi : Oper} (hi : ops[i]? = some oi) (D : List Nat) (hD : ∀ j oj, ops[j]? = some oj → j ∈ D → j ≠ i → ∃ e ∈ oj.after, Region.binds .any e = true ∧ e.on ∈ D) : ∀ (fuel : Nat) (listed : Array Bool) (s : AS), Bd n0 s →
    (∀ j ∈ D, listed.getD j true = false) → (∀ j oj, ops[j]? = some oj → j ≠ i → listed.getD j true = false → j ∉ D → oi.apart ops oj = true ∧ compatN (kindN oi.op) (kindN oj.op) = true) →
    i ∈ Region.ready .any ops listed → DoN Ty ops n0 oi s (AnyN Ty ops n0 R fuel (listed.setIfInBounds i true)) → AnyN Ty ops n0 R (fuel + 1) listed s := by
  intro fuel
  induction fuel with
  | zero =>
    intro listed s hb _ _ hr H
    refine ⟨fun h => (by rw [h] at hr; cases hr), fun j hj => ?_⟩
    by_cases hji : j = i
    · subst hji; exact ⟨oi, hi, H⟩
    · have := ready_mono hj hji
      have h0 : Region.ready .any ops (listed.setIfInBounds i true) = [] := DoN.some_ hb (H.mono fun s' h => h.1)
      rw [h0] at this
      cases this
  | succ fuel ih =>
    intro listed s hb hinv hfree hr H
    refine ⟨fun h => (by rw [h] at hr; cases hr), fun j hj => ?_⟩
    by_cases hji : j = i
    · subst hji; exact ⟨oi, hi, H⟩
    · obtain ⟨hjun, oj, hoj, hall⟩ := mem_ready.1 hj
      have hnot : j ∉ D := fun hd => by
        obtain ⟨e, he, hb', hed⟩ := hD j oj hoj hd hji
        have h1 := hall e he hb'
        have h0 := hinv e.on hed
        rcases Nat.lt_or_ge e.on listed.size with h' | h'
        · simp [h'] at h0 h1; rw [h0] at h1; cases h1
        · simp [Array.getElem?_eq_none h'] at h1
      obtain ⟨hap, hco⟩ := hfree j oj hoj hji hjun hnot
      have H2 : DoN Ty ops n0 oi s fun s' => DoN Ty ops n0 oj s' (AnyN Ty ops n0 R fuel ((listed.setIfInBounds i true).setIfInBounds j true)) := H.mono fun s' h => by
        obtain ⟨oj', hoj', h'⟩ := h.2 j (ready_mono hj hji)
        rw [hoj] at hoj'
        cases hoj'
        exact h'
      refine ⟨oj, hoj, (DoN.bd hb (DoN.swap hap hco hb H2)).mono fun sj ⟨hbj, hsj⟩ => ih (listed.setIfInBounds j true) sj hbj (fun k hk => ?_) (fun k ok hk hki hun hno => ?_) (ready_mono hr (Ne.symm hji)) ?_⟩
      · have hjk : j ≠ k := fun he => hnot (he ▸ hk)
        rw [getD_set_ne true hjk]
        exact hinv k hk
      · refine hfree k ok hk hki ?_ hno
        by_cases hjk : j = k
        · subst hjk; exact hjun
        · rw [getD_set_ne true hjk] at hun; exact hun
      · rw [Array.setIfInBounds_comm _ _ hji]
        exact hsj

variable (ops) in
def freeN (listed : Array Bool) (i : Nat) : Bool :=
  match ops[i]? with
  | none => false
  | some oi => ((behind ops i).all fun j => !(listed.getD j true) && match ops[j]? with
      | none => true
      | some oj => j == i || oj.after.any (fun e => Region.binds .any e && (behind ops i).contains e.on)) &&
    (List.range ops.size).all fun j => match ops[j]? with
    | none => true
    | some oj => j == i || listed.getD j true || (behind ops i).contains j || (oi.apart ops oj && compatN (kindN oi.op) (kindN oj.op))

variable (ops) in
def lexN : Nat → Nat → Array Bool → Bool
  | 0, _, listed => (Region.ready .any ops listed).isEmpty
  | fuel + 1, k, listed => (Region.ready .any ops listed).contains k && freeN ops listed k && lexN fuel (k + 1) (listed.setIfInBounds k true)

variable (ops) in
def drawN : Bool := lexN ops ops.size 0 (Array.replicate ops.size false)

theorem freeN_spec {listed : Array Bool} {i : Nat} {oi : Oper} (hi : ops[i]? = some oi) (h : freeN ops listed i = true) :
    (∀ j oj, ops[j]? = some oj → j ∈ behind ops i → j ≠ i → ∃ e ∈ oj.after, Region.binds .any e = true ∧ e.on ∈ behind ops i) ∧ (∀ j ∈ behind ops i, listed.getD j true = false) ∧
    ∀ j oj, ops[j]? = some oj → j ≠ i → listed.getD j true = false → j ∉ behind ops i → oi.apart ops oj = true ∧ compatN (kindN oi.op) (kindN oj.op) = true := by
  unfold freeN at h
  simp only [hi, Bool.and_eq_true] at h
  obtain ⟨h1, h2⟩ := h
  refine ⟨fun j oj hj hd hji => ?_, fun j hd => ?_, fun j oj hj hji hun hno => ?_⟩
  · have := List.all_eq_true.1 h1 j hd
    simp only [hj, Bool.and_eq_true, Bool.or_eq_true, beq_iff_eq] at this
    rcases this.2 with h3 | h3
    · exact absurd h3 hji
    · obtain ⟨e, he, hb⟩ := Array.any_eq_true'.1 h3
      simp only [Bool.and_eq_true, List.contains_iff_mem] at hb
      exact ⟨e, he, hb.1, hb.2⟩
  · have := List.all_eq_true.1 h1 j hd
    simp only [Bool.and_eq_true, Bool.not_eq_true'] at this
    exact this.1
  · have hlt : j < ops.size := (Array.getElem?_eq_some_iff.1 hj).1
    have := List.all_eq_true.1 h2 j (List.mem_range.2 hlt)
    simp only [hj, hun, Bool.or_false, Bool.or_eq_true, beq_iff_eq, Bool.and_eq_true, List.contains_iff_mem] at this
    rcases this with (h1 | h1) | h1
    · exact absurd h1 hji
    · exact absurd h1 hno
    · exact h1

theorem AnyN.lex {R : AS → Prop} : ∀ (l : List Oper) (k : Nat) (listed : Array Bool) (s : AS), Bd n0 s → (∀ j : Nat, l[j]? = ops[k + j]?) → lexN ops l.length k listed = true → RunN Ty ops n0 R l s → AnyN Ty ops n0 R l.length listed s
  | [], _, _, _, _, _, hB, h => ⟨by simpa [lexN] using hB, h⟩
  | o :: l, k, listed, s, hb, hl, hB, h => by
    have h0 : ops[k]? = some o := by simpa using (hl 0).symm
    simp only [List.length_cons, lexN, Bool.and_eq_true] at hB
    obtain ⟨⟨hr, hf⟩, hB'⟩ := hB
    obtain ⟨f1, f2, f3⟩ := freeN_spec h0 hf
    exact AnyN.first h0 (behind ops k) f1 l.length listed s hb f2 f3 (by simpa using hr)
      ((DoN.bd hb h).mono fun s' ⟨hb', h'⟩ => AnyN.lex l (k + 1) _ s' hb' (fun j => by have := hl (j + 1); simpa [Nat.add_assoc, Nat.add_comm 1 j] using this) hB' h')
end

section
variable {P : Program} {N : Nat} {Ty : Types} {ops : Array Oper} {n0 : Nat}
theorem AnyN.sound (hT : TypesOk P Ty) {R : AS → Prop} (hN : ops.toList.all (fun o => dok N o.dst) = true) {Q : Exit → Act → World → Prop} {c0 : Ctx} (hQ : ∀ a c ρ, Keeps c0 c → Good c → RelE N c ρ a → R (ρ, c.H, c.n) → Q .normal a c.w) :
    ∀ (fuel : Nat) (listed : Array Bool) (ρ : Env) (c : Ctx) (a : Act), n0 ≤ c.n → Keeps c0 c → Good c → RelE N c ρ a → AnyN Ty ops n0 R fuel listed (ρ, c.H, c.n) → wpAny P .any ops Q fuel listed a c.w
  | 0, _, _, _, _, _, hk, g, r, h => ⟨h.1, hQ _ _ _ hk g r h.2⟩
  | fuel + 1, listed, ρ, c, a, hn0, hk, g, r, h => by
    refine ⟨fun h0 => hQ _ _ _ hk g r (h.1 h0), fun i hi => ?_⟩
    obtain ⟨o, ho, hst⟩ := h.2 i hi
    have hd : dok N o.dst = true := List.all_eq_true.1 hN o (by rw [← Array.getElem?_toList] at ho; exact List.mem_of_getElem? ho)
    unfold wpOp
    simp only [ho]
    rcases hst with ⟨hg, hrest⟩ | ⟨hg, hk3, hc, v, H', hs, hrest⟩ | ⟨hg, t, k, i', hop, hdst, hTy, hrest⟩
    · rw [if_neg (by rw [wanted_of_gok r hN hg]; simp)]
      exact AnyN.sound hT hN hQ fuel _ _ c _ hn0 hk g (r.put hd (.v _)) hrest
    · rw [if_pos (wanted_of_gok r hN hg)]
      simp only at hs hrest
      refine .inl (stepF_ok hT hs c a rfl rfl g r _ _ ?_)
      rintro v1 x c' ⟨rfl, hH, hn⟩ hrep hgood hkeep
      exact AnyN.sound hT hN hQ fuel _ _ c' _ (by rw [hn]; exact hn0) (hk.trans hkeep) hgood ((r.keeps hkeep).put hd hrep) (by rw [hH, hn]; exact hrest)
    · rw [if_pos (wanted_of_gok r hN hg)]
      have hs : stepF Ty o.dst o.op ρ c.H c.n = some (.ptr (c.n, k) 1 0 0, c.H.set (c.n, k) ⟨i'.zero.length, [i'.zero.map .v]⟩, c.n + 1) := by rw [hop, hdst]; simp only [stepF, hTy]
      refine .inl (stepF_ok hT hs c a rfl rfl g r _ _ ?_)
      rintro v1 x c' ⟨rfl, hH, hn⟩ hrep hgood hkeep
      have hr := hrest c.n hn0 (fun j => by
        show c.H (c.n, j) = none
        cases hx : c.H (c.n, j) with
        | none => rfl
        | some ob => have := g.stamp _ _ hx; simp only at this; omega)
      have hm : max c.n (c.n + 1) = c.n + 1 := by omega
      simp only [hm] at hr
      rw [← hdst] at hr
      exact AnyN.sound hT hN hQ fuel _ _ c' _ (by rw [hn]; omega) (hk.trans hkeep) hgood ((r.keeps hkeep).put hd hrep) (by rw [hH, hn]; exact hr)
end

section
variable {P : Program} {f : FuncId} {N : Nat} {k : List Item} {ρ : Env} {H : Heap} {n : Nat} {Q : AVal → Heap → Nat → Prop} {Ty : Types}

/-- A region that draws its order and makes variables. -/
theorem Runs.drawN (hT : TypesOk P Ty) {id : Nat} {ops : List Oper} (hm : P.follows .mixedOrders = true) (hN : ops.all (fun o => dok N o.dst) = true) (hB : drawN ops.toArray = true)
    (h : RunN Ty ops.toArray n (fun s => Runs P f N k s.1 s.2.1 s.2.2 Q) ops (ρ, H, n)) : Runs P f N (.code (.region id ops.toArray true) :: k) ρ H n Q := by
  intro c a hH hn g r b cs hf hk
  subst hH
  subst hn
  obtain ⟨d1, d2⟩ := draw_keeps g
  have hany := AnyN.lex (Ty := Ty) (ops := ops.toArray) (n0 := c.n) ops 0 (Array.replicate ops.toArray.size false) (ρ, c.H, c.n) ⟨Nat.le_refl _, fun id o ho => g.stamp id o ho⟩ (by simp) (by simpa [Ab.drawN] using hB) h
  have hw : (Code.region id ops.toArray true).wp P (fun e a' w' => e = .normal ∧ ∃ c' ρ', c'.w = w' ∧ Keeps c c' ∧ Good c' ∧ RelE N c' ρ' a' ∧ Runs P f N k ρ' c'.H c'.n Q) a c.w := by
    refine wp_region_any hm ?_
    have := AnyN.sound (P := P) (N := N) (Ty := Ty) (ops := ops.toArray) (n0 := c.n) (c0 := c) hT (by simpa using hN) (Q := fun e a' w' => e = .normal ∧ ∃ c' ρ', c'.w = w' ∧ Keeps c c' ∧ Good c' ∧ RelE N c' ρ' a' ∧ Runs P f N k ρ' c'.H c'.n Q)
      (R := fun s => Runs P f N k s.1 s.2.1 s.2.2 Q) (fun a' c' ρ' hk' hg' hr' hR => ⟨rfl, c', ρ', rfl, hk', hg', hr', hR⟩) ops.length (Array.replicate ops.toArray.size false) ρ { c with w := { c.w with drawn := c.w.drawn + 1 } } a (Nat.le_refl _) d1 d2 (r.keeps d1) hany
    simpa using this
  obtain ⟨e, a', w', ⟨rfl, c', ρ', rfl, hk', hg', hr', hR⟩, harr⟩ := hw b k cs
  obtain ⟨x, v, c'', fr, q, hr, hg, hke, hst, rest⟩ := hR c' a' rfl rfl hg' hr' b cs hf hk
  exact ⟨x, v, c'', fr, q, hr, hg, hk'.trans hke, Steps.trans harr hst, rest⟩
end

/-- What alloc makes. -/
def newF (Ty : Types) (d : Option Nat) : Op → Option (Nat × Ob)
  | .alloc t => match d, Ty t with
    | some k, some i => some (k, ⟨i.zero.length, [i.zero.map .v]⟩)
    | _, _ => none
  | _ => none

section
variable (P : Program) (f : FuncId) (N : Nat) (k : List Item) (Q : AVal → Heap → Nat → Prop) (Ty : Types) (ops : Array Oper) (n0 : Nat)
/-- Such a region evaluated: no calls in it. -/
def evalN : List Oper → Env → Heap → Nat → Prop
  | [], ρ, H, n => Runs P f N k ρ H n Q
  | o :: l, ρ, H, n =>
    match gok ops o ρ with
    | some false => evalN l (ρ.put o.dst skv) H n
    | some true => match newF Ty o.dst o.op with
      | some (j, ob) => ∀ a, n0 ≤ a → (∀ q, H (a, q) = none) → evalN l (ρ.put (some j) (.ptr (a, j) 1 0 0)) (H.set (a, j) ob) (max n (a + 1))
      | none => match stepF Ty o.dst o.op ρ H n with
        | some (v, H', _) => condN n0 o.op ρ ∧ evalN l (ρ.put o.dst v) H' n
        | none => False
    | none => False
end

section
variable {P : Program} {f : FuncId} {N : Nat} {k : List Item} {ρ : Env} {H : Heap} {n : Nat} {Q : AVal → Heap → Nat → Prop} {Ty : Types} {ops : Array Oper} {n0 : Nat}
theorem newF_none {d : Option Nat} {op : Op} {v : AVal} {H' : Heap} {n' : Nat} (h : newF Ty d op = none) (hs : stepF Ty d op ρ H n = some (v, H', n')) : kindN op ≠ 3 := by
  cases op with
  | alloc t =>
    simp only [stepF] at hs
    split at hs
    · rename_i k' i hi
      simp only [newF, hi] at h
      cases h
    · cases hs
  | call c =>
    obtain ⟨cal, args, ats⟩ := c
    cases cal with
    | builtin b => cases b <;> simp [kindN]
    | _ => simp [kindN]
  | buildSlice t len ps =>
    unfold kindN
    simp only
    by_cases h0 : len = 0 <;> simp [h0]
  | _ => simp [kindN]

theorem evalN_sound : ∀ (l : List Oper) (ρ : Env) (H : Heap) (n : Nat), evalN P f N k Q Ty ops n0 l ρ H n → RunN Ty ops n0 (fun s => Runs P f N k s.1 s.2.1 s.2.2 Q) l (ρ, H, n)
  | [], _, _, _, h => h
  | o :: l, ρ, H, n, h => by
    rw [evalN] at h
    split at h
    · rename_i hg
      exact .inl ⟨hg, evalN_sound l _ _ _ h⟩
    · rename_i hg
      split at h
      · rename_i j ob hnew
        unfold newF at hnew
        split at hnew
        · rename_i t hop
          split at hnew
          · rename_i k' i hdst hTy
            cases hnew
            exact .inr (.inr ⟨hg, t, _, _, hop, hdst, hTy, fun a ha hf => evalN_sound l _ _ _ (h a ha hf)⟩)
          · cases hnew
        · cases hnew
      · rename_i hnew
        split at h
        · rename_i v H' n' hs
          have hk3 := newF_none hnew hs
          obtain ⟨hc, h⟩ := h
          have hn : n' = n := by
            rcases kind_cond hk3 hc with hk | hk | hk
            · exact (stepF_n0 hk hs).2.1
            · exact (stepF_n1 (H2 := H) (n2 := n) hk hc (fun _ _ => rfl) hs).2.1
            · obtain ⟨_, _, _, _, _, _, _, e, _⟩ := stepF_n4 hk hc hs; exact e
          subst hn
          exact .inr (.inl ⟨hg, hk3, hc, v, H', hs, evalN_sound l _ _ _ h⟩)
        · exact h.elim
    · exact h.elim

@[simp] theorem evalN_nil : evalN P f N k Q Ty ops n0 [] ρ H n = Runs P f N k ρ H n Q := by rw [evalN]
@[simp] theorem evalN_cons {o : Oper} {l : List Oper} : evalN P f N k Q Ty ops n0 (o :: l) ρ H n = (match gok ops o ρ with
    | some false => evalN P f N k Q Ty ops n0 l (ρ.put o.dst skv) H n
    | some true => match newF Ty o.dst o.op with
      | some (j, ob) => ∀ a, n0 ≤ a → (∀ q, H (a, q) = none) → evalN P f N k Q Ty ops n0 l (ρ.put (some j) (.ptr (a, j) 1 0 0)) (H.set (a, j) ob) (max n (a + 1))
      | none => match stepF Ty o.dst o.op ρ H n with
        | some (v, H', _) => condN n0 o.op ρ ∧ evalN P f N k Q Ty ops n0 l (ρ.put o.dst v) H' n
        | none => False
    | none => False) := by rw [evalN]

theorem Runs.seqN (hT : TypesOk P Ty) {id : Nat} {ops : List Oper} {y : Code} (hm : P.follows .mixedOrders = true) (hN : ops.all (fun o => dok N o.dst) = true) (hB : Ab.drawN ops.toArray = true)
    (h : ∀ k' : List Item, (∀ ρ H n, Runs P f N (.code y :: k) ρ H n Q → Runs P f N k' ρ H n Q) → evalN P f N k' Q Ty ops.toArray n ops ρ H n) : Runs P f N (.code (.seq (.region id ops.toArray true) y) :: k) ρ H n Q :=
  Runs.seq (Runs.drawN hT hm hN hB (evalN_sound ops _ _ _ (h (.code y :: k) fun _ _ _ h => h)))

theorem Runs.evalNE (hT : TypesOk P Ty) {id : Nat} {ops : List Oper} (hm : P.follows .mixedOrders = true) (hN : ops.all (fun o => dok N o.dst) = true) (hB : Ab.drawN ops.toArray = true)
    (h : ∀ k' : List Item, (∀ ρ H n, Runs P f N k ρ H n Q → Runs P f N k' ρ H n Q) → evalN P f N k' Q Ty ops.toArray n ops ρ H n) : Runs P f N (.code (.region id ops.toArray true) :: k) ρ H n Q :=
  Runs.drawN hT hm hN hB (evalN_sound ops _ _ _ (h k fun _ _ _ h => h))
end

attribute [simp] gok condN idOk newF kindN
end Go.Ab

/- Contracts of (impl.Proc).isPossible and spec.l12Can, at valid processes. -/
namespace Go.Ab
open Go.Proofs
set_option linter.unusedSimpArgs false

structure AmbStep where
  kind : Int
  cap : Int
  place : Int
  deriving Inhabited, DecidableEq
def AmbStep.cells (s : AmbStep) : List AVal := [int s.kind, int s.cap, int s.place]
theorem ArgOk.step {H : Heap} {n : Nat} (x : AmbStep) : ArgOk H n (.agg x.cells) (.agg x.cells) := ArgOk.aggF (by simp [AmbStep.cells])

/-- Whether a step is possible, of a kind from 1 to 3 and nodes of the process. -/
def can (p : Proc) (kind cap place : Nat) : Bool :=
  let own := p.getD cap default
  let pl := p.getD place default
  (own.kind == kind) && !idle p cap && (pl.kind == 0) && (own.name == pl.name) &&
    (if kind = 1 then decide (0 ≤ own.parent) && (own.parent != place) && (pl.parent == (p.getD own.parent.toNat default).parent)
    else if kind = 2 then decide (0 ≤ own.parent) && ((p.getD own.parent.toNat default).parent == place)
    else pl.parent == own.parent)

theorem isPossible_ok {p : Proc} (hp : Valid p) (kind cap place : Nat) (hk : 1 ≤ kind ∧ kind ≤ 3) (hc : cap < p.length) (hpl : place < p.length) : PureC Tryz.prog 32 [encP false p, .agg (AmbStep.cells ⟨kind, cap, place⟩)] (fun r => r = bool (can p kind cap place)) := by
  have hp8 := hp.len
  have hxc : p.getD cap default = p[cap] := by simp [hc]
  have hxp : p.getD place default = p[place] := by simp [hpl]
  have hwc : within (cap : Int) 0 ((p.length : Int) - 1) = true := by simp [within]; omega
  have hwp : within (place : Int) 0 ((p.length : Int) - 1) = true := by simp [within]; omega
  have hwk : within (kind : Int) 1 3 = true := by simp [within]; omega
  refine PureC.of Tryz.func32 rfl Tryz.ntmps32 (by simp) fun Q hQ => ?_
  refine Runs.seqE Ty_ok (by decide) fun k' hk' => ?_
  simp [encP, AmbStep.cells]   -- R0
  refine hk' _ _ _ ?_
  refine Runs.seq ?_
  refine Runs.seqE Ty_ok (by decide) fun k' hk' => ?_
  simp   -- R1
  refine RunK.callA Ty_ok (within_ok kind 1 3) e43 (.cons (.v _ _ _) (.cons (.v _ _ _) (.cons (.v _ _ _) .nil))) (by decide) (by decide) rfl (by simp) ?_
  rintro _ rfl
  simp [hwk]
  refine RunK.callA Ty_ok (isNode_ok p cap (by omega)) e51 (.cons (ArgOk.encP false p) (.cons (.v _ _ _) .nil)) (by decide) (by decide) rfl (by simp [encP]) ?_
  rintro _ rfl
  simp [hwc]
  refine RunK.callA Ty_ok (isNode_ok p place (by omega)) e51 (.cons (ArgOk.encP false p) (.cons (.v _ _ _) .nil)) (by decide) (by decide) rfl (by simp [encP]) ?_
  rintro _ rfl
  simp [hwp]
  refine hk' _ _ _ ?_
  refine Runs.ite rfl (fun h => by simp at h) (fun _ => ?_)   -- t25
  refine Runs.skip ?_
  refine Runs.seqN Ty_ok draws (by decide) (by kernel_rfl) fun k' hk' => ?_
  simp [hc, hpl, AmbNode.cells, guardOf]   -- R3
  intro a ha hfa b hb hfb
  clear hfa hfb
  refine ⟨ha, hb, hk' _ _ _ ?_⟩
  have hcan : can p kind cap place = ((p[cap].kind == kind) && !idle p cap && (p[place].kind == 0) && (p[cap].name == p[place].name) &&
    (if kind = 1 then decide (0 ≤ p[cap].parent) && (p[cap].parent != place) && (p[place].parent == (p.getD p[cap].parent.toNat default).parent)
    else if kind = 2 then decide (0 ≤ p[cap].parent) && ((p.getD p[cap].parent.toNat default).parent == place)
    else p[place].parent == p[cap].parent)) := by
    rw [can, hxc, hxp]
  refine Runs.seq ?_
  refine Runs.seqE Ty_ok (by decide) fun k' hk' => ?_
  simp   -- R4
  by_cases hk1 : p[cap].kind = kind
  · simp [hk1]
    refine RunK.callA Ty_ok (isIdleNode_ok hp cap hc) e52 (.cons (ArgOk.encP false p) (.cons (.v _ _ _) .nil)) (by decide) (by decide) rfl (by simp [encP, AmbNode.cells]) ?_
    rintro _ rfl
    cases hid : idle p cap
    · simp [hid]
      by_cases hk2 : p[place].kind = 0
      · simp [hk2]
        by_cases hk3 : p[cap].name = p[place].name
        · simp [hk3]
          refine hk' _ _ _ ?_
          refine Runs.ite rfl (fun h => by simp at h) (fun _ => ?_)
          refine Runs.skip ?_
          refine Runs.seqE Ty_ok (by decide) fun k' hk' => ?_
          simp   -- R6
          refine hk' _ _ _ ?_
          refine Runs.seq ?_
          refine Runs.seqE Ty_ok (by decide) fun k' hk' => ?_
          simp   -- R7
          refine hk' _ _ _ ?_
          refine Runs.block ?_
          refine Runs.seqE Ty_ok (by decide) fun k' hk' => ?_
          simp   -- R8
          refine hk' _ _ _ ?_
          have hup := hp.up cap hc
          rw [hxc] at hup
          have hacc : can p kind cap place = (if kind = 1 then decide (0 ≤ p[cap].parent) && (p[cap].parent != place) && (p[place].parent == (p.getD p[cap].parent.toNat default).parent)
              else if kind = 2 then decide (0 ≤ p[cap].parent) && ((p.getD p[cap].parent.toNat default).parent == place)
              else p[place].parent == p[cap].parent) := by
            rw [hcan]; simp [hk1, hid, hk2, hk3]
          refine Runs.ite rfl (fun hc3 => ?_) (fun hc3 => ?_)   -- t65
          · have hk1' : kind = 1 := by simp at hc3; omega
            rw [if_pos hk1'] at hacc
            refine Runs.seqD Ty_ok kindOp_ok draws (by decide) (by kernel_rfl) fun k' hk' => ?_
            by_cases hpar : 0 ≤ p[cap].parent
            · obtain ⟨j, hj⟩ : ∃ j : Nat, p[cap].parent = j := ⟨p[cap].parent.toNat, by omega⟩
              have hjl : j < p.length := by omega
              have hgj : p.getD j default = p[j] := by simp [hjl]
              rw [hj, Int.toNat_natCast, hgj] at hacc
              by_cases hne : j = place
              · subst hne
                simp [hj]
                refine hk' _ _ _ ?_
                exact Runs.ret Tryz.func32 (RetOk.one Tryz.results32) (hQ _ _ _ _ (.v _ _ _) (by rw [hacc]; simp))
              · have hne' : ((j : Int) != (place : Int)) = true := by simp; omega
                simp [hj, hne', hjl, AmbNode.cells]
                refine hk' _ _ _ ?_
                exact Runs.ret Tryz.func32 (RetOk.one Tryz.results32) (hQ _ _ _ _ (.v _ _ _) (by rw [hacc]; simp [hne']))
            · simp [hpar]
              refine hk' _ _ _ ?_
              exact Runs.ret Tryz.func32 (RetOk.one Tryz.results32) (hQ _ _ _ _ (.v _ _ _) (by rw [hacc]; simp [hpar]))
          · have hk1' : ¬ kind = 1 := by simp at hc3; omega
            rw [if_neg hk1'] at hacc
            refine Runs.seqE Ty_ok (by decide) fun k' hk' => ?_
            simp   -- R10
            refine hk' _ _ _ ?_
            refine Runs.ite rfl (fun hc4 => ?_) (fun hc4 => ?_)   -- t86
            · have hk2' : kind = 2 := by simp at hc4; omega
              rw [if_pos hk2'] at hacc
              refine Runs.seqD Ty_ok kindOp_ok draws (by decide) (by kernel_rfl) fun k' hk' => ?_
              by_cases hpar : 0 ≤ p[cap].parent
              · obtain ⟨j, hj⟩ : ∃ j : Nat, p[cap].parent = j := ⟨p[cap].parent.toNat, by omega⟩
                have hjl : j < p.length := by omega
                have hgj : p.getD j default = p[j] := by simp [hjl]
                rw [hj, Int.toNat_natCast, hgj] at hacc
                simp [hj, hjl, AmbNode.cells]
                refine hk' _ _ _ ?_
                exact Runs.ret Tryz.func32 (RetOk.one Tryz.results32) (hQ _ _ _ _ (.v _ _ _) (by rw [hacc]; simp))
              · simp [hpar]
                refine hk' _ _ _ ?_
                exact Runs.ret Tryz.func32 (RetOk.one Tryz.results32) (hQ _ _ _ _ (.v _ _ _) (by rw [hacc]; simp [hpar]))
            · have hk2' : ¬ kind = 2 := by simp at hc4; omega
              rw [if_neg hk2'] at hacc
              refine Runs.skip ?_
              refine Runs.inBlock ?_
              refine Runs.seqE Ty_ok (by decide) fun k' hk' => ?_
              simp   -- R12
              refine hk' _ _ _ ?_
              exact Runs.ret Tryz.func32 (RetOk.one Tryz.results32) (hQ _ _ _ _ (.v _ _ _) (by rw [hacc]))
        · have hk3' : ¬ p[place].name = p[cap].name := fun h => hk3 h.symm
          refine hk' _ _ _ ?_
          refine Runs.ite rfl (fun _ => ?_) (fun h => by simp [hk3'] at h)
          refine Runs.seqE Ty_ok (by decide) fun k' hk' => ?_
          simp   -- R5
          refine hk' _ _ _ ?_
          refine Runs.ret Tryz.func32 (RetOk.one Tryz.results32) (hQ _ _ _ _ (.v _ _ _) ?_)
          rw [hcan]; simp [hk1, hid, hk2, hk3]
      · have hb2 : (p[place].kind != 0) = true := by simp [hk2]
        simp [hb2]
        refine hk' _ _ _ ?_
        refine Runs.ite rfl (fun _ => ?_) (fun h => by simp at h)
        refine Runs.seqE Ty_ok (by decide) fun k' hk' => ?_
        simp   -- R5
        refine hk' _ _ _ ?_
        refine Runs.ret Tryz.func32 (RetOk.one Tryz.results32) (hQ _ _ _ _ (.v _ _ _) ?_)
        rw [hcan]; simp [hk1, hid, hk2]
    · simp [hid]
      refine hk' _ _ _ ?_
      refine Runs.ite rfl (fun _ => ?_) (fun h => by simp at h)
      refine Runs.seqE Ty_ok (by decide) fun k' hk' => ?_
      simp   -- R5
      refine hk' _ _ _ ?_
      refine Runs.ret Tryz.func32 (RetOk.one Tryz.results32) (hQ _ _ _ _ (.v _ _ _) ?_)
      rw [hcan]; simp [hk1, hid]
  · have hb1 : (p[cap].kind != (kind : Int)) = true := by simp [hk1]
    simp [hb1]
    refine hk' _ _ _ ?_
    refine Runs.ite rfl (fun _ => ?_) (fun h => by simp at h)
    refine Runs.seqE Ty_ok (by decide) fun k' hk' => ?_
    simp   -- R5
    refine hk' _ _ _ ?_
    refine Runs.ret Tryz.func32 (RetOk.one Tryz.results32) (hQ _ _ _ _ (.v _ _ _) ?_)
    rw [hcan]; simp [hk1]
end Go.Ab

/- MakeAmbStep (statement 18): pure conditions of the program's and the reference's functions. -/
namespace Go.Ab.Vg
set_option linter.unusedSimpArgs false
set_option linter.unusedVariables false
abbrev inP (p : Proc) (k : Int) : Bool := within k 0 ((p.length : Int) - 1)
abbrev idleI (p : Proc) (k : Int) : Bool := idle p k.toNat
abbrev idleI_pre (p : Proc) (k : Int) : Prop := Valid p ∧ 0 ≤ k ∧ k < p.length
abbrev nP (p : Proc) (s : AmbStep) : Int := (at' p s.cap).parent
def restP (p : Proc) (s : AmbStep) : Bool :=
  if s.kind = 1 then decide (0 ≤ nP p s) && decide (nP p s ≠ s.place) && decide ((at' p s.place).parent = (at' p (nP p s)).parent)
  else if s.kind = 2 then decide (0 ≤ nP p s) && decide ((at' p (nP p s)).parent = s.place)
  else decide ((at' p s.place).parent = nP p s)
def midP (p : Proc) (s : AmbStep) : Bool := decide ((at' p s.cap).kind = s.kind) && !idleI p s.cap && decide ((at' p s.place).kind = 0) && decide ((at' p s.place).name = (at' p s.cap).name)
def possibleP (p : Proc) (s : AmbStep) : Bool := (within s.kind 1 3 && inP p s.cap && inP p s.place) && midP p s && restP p s
theorem validAt {p : Proc} (hp : Valid p) {k : Int} (h0 : 0 ≤ k) (h1 : k < p.length) : (0 ≤ (at' p k).kind ∧ (at' p k).kind ≤ 3) ∧ (at' p k).name.length ≤ 4 ∧ -1 ≤ (at' p k).parent ∧ (at' p k).parent < k := by
  obtain ⟨c, rfl⟩ : ∃ c : Nat, k = c := ⟨k.toNat, by omega⟩
  have hc : c < p.length := by omega
  rw [at_nat]
  exact ⟨hp.kind c hc, hp.name c hc, (hp.up c hc).1, (hp.up c hc).2⟩
abbrev possible_pre (p : Proc) (_ : AmbStep) : Prop := Valid p
abbrev possible (p : Proc) (s : AmbStep) : Bool := possibleP p s
def possible_wp (p : Proc) (s : AmbStep) (Z : Bool → Prop) : Prop :=
  joinW (fun (J5 : Bool → Prop) => ∀ r68 : Bool, r68 = within s.kind 1 3 → ((r68 = true → (p.length ≤ 1048576) ∧ ∀ r70 : Bool, r70 = inP p s.cap → ((r70 = true → (p.length ≤ 1048576) ∧ ∀ r72 : Bool, r72 = inP p s.place → J5 ((!r72))) ∧ (r70 = false → J5 (true)))) ∧ (r68 = false → J5 (true)))) (fun b8 => ((b8 = true → Z false) ∧ (b8 = false → (0 ≤ s.cap ∧ s.cap < p.length) ∧ ∀ x12 : AmbNode, x12 = at' p s.cap → (0 ≤ s.place ∧ s.place < p.length) ∧ ∀ x15 : AmbNode, x15 = at' p s.place → joinW (fun (J20 : Bool → Prop) => ∀ c60 : Bool, c60 = decide (x12.kind ≠ s.kind) → ((c60 = true → J20 (true)) ∧ (c60 = false → (idleI_pre p s.cap) ∧ ∀ r63 : Bool, r63 = idleI p s.cap → ((r63 = true → J20 (true)) ∧ (r63 = false → ∀ c64 : Bool, c64 = decide (x15.kind ≠ 0) → ((c64 = true → J20 (true)) ∧ (c64 = false → ∀ c66 : Bool, c66 = decide (x15.name ≠ x12.name) → J20 (c66)))))))) (fun b23 => ((b23 = true → Z false) ∧ (b23 = false → ∀ c26 : Bool, c26 = decide (s.kind = 1) → ((c26 = true → joinW (fun (J28 : Bool → Prop) => ∀ c34 : Bool, c34 = decide (0 ≤ x12.parent) → ((c34 = true → ∀ c36 : Bool, c36 = decide (x12.parent ≠ s.place) → ((c36 = true → (0 ≤ x12.parent ∧ x12.parent < p.length) ∧ ∀ x39 : AmbNode, x39 = at' p x12.parent → ∀ c41 : Bool, c41 = decide (x15.parent = x39.parent) → J28 (c41)) ∧ (c36 = false → J28 (false)))) ∧ (c34 = false → J28 (false)))) (fun b31 => Z b31)) ∧ (c26 = false → ∀ c43 : Bool, c43 = decide (s.kind = 2) → ((c43 = true → joinW (fun (J45 : Bool → Prop) => ∀ c51 : Bool, c51 = decide (0 ≤ x12.parent) → ((c51 = true → (0 ≤ x12.parent ∧ x12.parent < p.length) ∧ ∀ x54 : AmbNode, x54 = at' p x12.parent → ∀ c56 : Bool, c56 = decide (x54.parent = s.place) → J45 (c56)) ∧ (c51 = false → J45 (false)))) (fun b48 => Z b48)) ∧ (c43 = false → ∀ c58 : Bool, c58 = decide (x15.parent = x12.parent) → Z c58))))))))))
theorem rest_vc {p : Proc} (hp : Valid p) {s : AmbStep} (c1 : 0 ≤ s.cap) (c2 : s.cap < p.length) : nP p s < p.length := by
  have := (validAt hp c1 c2).2.2.2
  show (at' p s.cap).parent < _
  omega
theorem possible_vc (p : Proc) (s : AmbStep) (h : possible_pre p s) : possible_wp p s (fun y => y = possible p s) := by
  have hp : Valid p := h
  have hp8 := hp.len
  unfold possible_wp
  refine ⟨fun b => b = !(within s.kind 1 3 && inP p s.cap && inP p s.place), ?_, ?_⟩
  · rintro _ rfl
    refine ⟨fun h1 => ⟨by omega, ?_⟩, fun h1 => by rw [h1]; rfl⟩
    rintro _ rfl
    refine ⟨fun h2 => ⟨by omega, ?_⟩, fun h2 => by rw [h1, h2]; rfl⟩
    rintro _ rfl
    rw [h1, h2]; rfl
  · rintro _ rfl
    refine ⟨fun h => ?_, fun h => ?_⟩
    · rw [Bool.not_eq_true'] at h
      rw [possible, possibleP, h]; rfl
    · rw [Bool.not_eq_false'] at h
      have h' := h
      simp only [Bool.and_eq_true, within, decide_eq_true_eq] at h'
      obtain ⟨⟨⟨k1, k2⟩, ⟨c1, c2⟩⟩, ⟨q1, q2⟩⟩ := h'
      have hn := rest_vc hp c1 (by omega : s.cap < p.length)
      refine ⟨by omega, ?_⟩
      rintro _ rfl
      refine ⟨by omega, ?_⟩
      rintro _ rfl
      refine ⟨fun b => b = !midP p s, ?_, ?_⟩
      · simp only [forall_eq, decide_eq_true_eq, decide_eq_false_iff_not, midP]
        refine ⟨fun a => by simp [a], fun a => ⟨⟨hp, by omega, by omega⟩, fun b => by simp [b], fun b => ⟨fun c => by simp [c], fun c => ?_⟩⟩⟩
        have a' : (at' p s.cap).kind = s.kind := by simpa using a
        have c' : (at' p s.place).kind = 0 := by simpa using c
        simp [a', b, c']
      · rintro _ rfl
        refine ⟨fun a => ?_, fun a => ?_⟩
        · rw [Bool.not_eq_true'] at a
          rw [possible, possibleP, h, a]; rfl
        · rw [Bool.not_eq_false'] at a
          have hpo : possible p s = restP p s := by rw [possible, possibleP, h, a]; rfl
          rw [hpo]
          simp only [forall_eq, decide_eq_true_eq, decide_eq_false_iff_not]
          refine ⟨fun e1 => ⟨fun b => b = restP p s, ?_, fun _ h => h⟩, fun e1 => ⟨fun e2 => ⟨fun b => b = restP p s, ?_, fun _ h => h⟩, fun e2 => ?_⟩⟩
          · refine ⟨fun b1 => ⟨fun b2 => ⟨⟨b1, hn⟩, ?_⟩, fun b2 => ?_⟩, fun b1 => ?_⟩
            · rw [restP, if_pos e1]; simp [b1, b2]
            · rw [restP, if_pos e1]; simp at b2; simp [b2]
            · rw [restP, if_pos e1]; simp [b1]
          · refine ⟨fun b1 => ⟨⟨b1, hn⟩, ?_⟩, fun b1 => ?_⟩
            · rw [restP, if_neg e1, if_pos e2]; simp [b1]
            · rw [restP, if_neg e1, if_pos e2]; simp [b1]
          · rw [restP, if_neg e1, if_neg e2]
abbrev sPossible_pre (p : Proc) (_ : AmbStep) : Prop := Valid p
abbrev sPossible (p : Proc) (s : AmbStep) : Bool := possibleP p s
def sPossible_wp (p : Proc) (s : AmbStep) (Z : Bool → Prop) : Prop :=
  joinW (fun (J5 : Bool → Prop) => (p.length ≤ 1048576) ∧ ∀ r69 : Bool, r69 = inP p s.cap → ((r69 = true → (p.length ≤ 1048576) ∧ ∀ r71 : Bool, r71 = inP p s.place → ((r71 = true → (idleI_pre p s.cap) ∧ ∀ r73 : Bool, r73 = idleI p s.cap → J5 (r73)) ∧ (r71 = false → J5 (true)))) ∧ (r69 = false → J5 (true)))) (fun b8 => ((b8 = true → Z false) ∧ (b8 = false → (0 ≤ s.cap ∧ s.cap < p.length) ∧ ∀ x12 : AmbNode, x12 = at' p s.cap → (0 ≤ s.place ∧ s.place < p.length) ∧ ∀ x15 : AmbNode, x15 = at' p s.place → joinW (fun (J20 : Bool → Prop) => ∀ c60 : Bool, c60 = decide (x12.kind = 0) → ((c60 = true → J20 (true)) ∧ (c60 = false → ∀ c62 : Bool, c62 = decide (x12.kind ≠ s.kind) → ((c62 = true → J20 (true)) ∧ (c62 = false → ∀ c64 : Bool, c64 = decide (x15.kind ≠ 0) → ((c64 = true → J20 (true)) ∧ (c64 = false → ∀ c66 : Bool, c66 = decide (x12.name ≠ x15.name) → J20 (c66)))))))) (fun b23 => ((b23 = true → Z false) ∧ (b23 = false → ∀ c26 : Bool, c26 = decide (s.kind = 1) → ((c26 = true → joinW (fun (J28 : Bool → Prop) => ∀ c34 : Bool, c34 = decide (0 ≤ x12.parent) → ((c34 = true → ∀ c36 : Bool, c36 = decide (x12.parent ≠ s.place) → ((c36 = true → (0 ≤ x12.parent ∧ x12.parent < p.length) ∧ ∀ x39 : AmbNode, x39 = at' p x12.parent → ∀ c41 : Bool, c41 = decide (x39.parent = x15.parent) → J28 (c41)) ∧ (c36 = false → J28 (false)))) ∧ (c34 = false → J28 (false)))) (fun b31 => Z b31)) ∧ (c26 = false → ∀ c43 : Bool, c43 = decide (s.kind = 2) → ((c43 = true → joinW (fun (J45 : Bool → Prop) => ∀ c51 : Bool, c51 = decide (0 ≤ x12.parent) → ((c51 = true → (0 ≤ x12.parent ∧ x12.parent < p.length) ∧ ∀ x54 : AmbNode, x54 = at' p x12.parent → ∀ c56 : Bool, c56 = decide (x54.parent = s.place) → J45 (c56)) ∧ (c51 = false → J45 (false)))) (fun b48 => Z b48)) ∧ (c43 = false → ∀ c58 : Bool, c58 = decide (x12.parent = x15.parent) → Z c58))))))))))
theorem sPossible_vc (p : Proc) (s : AmbStep) (h : sPossible_pre p s) : sPossible_wp p s (fun y => y = sPossible p s) := by
  have hp : Valid p := h
  have hp8 := hp.len
  unfold sPossible_wp
  refine ⟨fun b => b = !(inP p s.cap && inP p s.place && !idleI p s.cap), ?_, ?_⟩
  · refine ⟨by omega, ?_⟩
    rintro _ rfl
    refine ⟨fun h1 => ⟨by omega, ?_⟩, fun h1 => by rw [h1]; rfl⟩
    rintro _ rfl
    have h1' := h1
    simp only [within, Bool.and_eq_true, decide_eq_true_eq] at h1'
    refine ⟨fun h2 => ⟨⟨hp, h1'.1, by omega⟩, ?_⟩, fun h2 => by rw [h1, h2]; rfl⟩
    rintro _ rfl
    rw [h1, h2]; simp
  · rintro _ rfl
    refine ⟨fun h => ?_, fun h => ?_⟩
    · rw [Bool.not_eq_true'] at h
      have : possibleP p s = false := by
        rw [Bool.eq_false_iff]
        intro hq
        simp only [possibleP, midP, Bool.and_eq_true, Bool.not_eq_true', decide_eq_true_eq] at hq
        obtain ⟨⟨⟨⟨_, a1⟩, a2⟩, ⟨⟨_, a3⟩, _⟩, _⟩, _⟩ := hq
        rw [a1, a2, a3] at h
        simp at h
      exact this.symm
    · rw [Bool.not_eq_false'] at h
      have h' := h
      simp only [Bool.and_eq_true, within, decide_eq_true_eq, Bool.not_eq_true'] at h'
      obtain ⟨⟨⟨c1, c2⟩, ⟨q1, q2⟩⟩, hid⟩ := h'
      have hv := validAt hp c1 (by omega : s.cap < p.length)
      have hn := rest_vc hp c1 (by omega : s.cap < p.length)
      refine ⟨by omega, ?_⟩
      rintro _ rfl
      refine ⟨by omega, ?_⟩
      rintro _ rfl
      refine ⟨fun b => b = !(within s.kind 1 3 && midP p s), ?_, ?_⟩
      · simp only [forall_eq, decide_eq_true_eq, decide_eq_false_iff_not, midP, hid]
        refine ⟨fun a => ?_, fun a => ⟨fun b => by simp [b], fun b => ⟨fun c => by simp [c], fun c => ?_⟩⟩⟩
        · by_cases e : (at' p s.cap).kind = s.kind
          · have : within s.kind 1 3 = false := by
              have : ¬ (1 ≤ s.kind) := by omega
              simp [within, this]
            simp [this]
          · simp [e]
        · have b' : (at' p s.cap).kind = s.kind := by simpa using b
          have c' : (at' p s.place).kind = 0 := by simpa using c
          have : within s.kind 1 3 = true := by
            have h1 : 1 ≤ s.kind := by omega
            have h2 : s.kind ≤ 3 := by omega
            simp [within, h1, h2]
          simp [this, b', c', eq_comm]
      · rintro _ rfl
        refine ⟨fun a => ?_, fun a => ?_⟩
        · rw [Bool.not_eq_true'] at a
          have : possibleP p s = false := by
            rw [Bool.eq_false_iff]
            intro hq
            simp only [possibleP, Bool.and_eq_true] at hq
            rw [hq.1.1.1.1, hq.1.2] at a
            simp at a
          exact this.symm
        · rw [Bool.not_eq_false'] at a
          simp only [Bool.and_eq_true] at a h
          have hpo : sPossible p s = restP p s := by rw [sPossible, possibleP, a.1, h.1.1, h.1.2, a.2]; rfl
          rw [hpo]
          simp only [forall_eq, decide_eq_true_eq, decide_eq_false_iff_not]
          refine ⟨fun e1 => ⟨fun b => b = restP p s, ?_, fun _ h => h⟩, fun e1 => ⟨fun e2 => ⟨fun b => b = restP p s, ?_, fun _ h => h⟩, fun e2 => ?_⟩⟩
          · refine ⟨fun b1 => ⟨fun b2 => ⟨⟨b1, hn⟩, ?_⟩, fun b2 => ?_⟩, fun b1 => ?_⟩
            · rw [restP, if_pos e1]; simp [b1, b2, eq_comm]
            · rw [restP, if_pos e1]; simp at b2; simp [b2]
            · rw [restP, if_pos e1]; simp [b1]
          · refine ⟨fun b1 => ⟨⟨b1, hn⟩, ?_⟩, fun b1 => ?_⟩
            · rw [restP, if_neg e1, if_pos e2]; simp [b1]
            · rw [restP, if_neg e1, if_pos e2]; simp [b1]
          · rw [restP, if_neg e1, if_neg e2]; simp [eq_comm]
abbrev cloneN (l : List AmbNode) : List AmbNode := l
abbrev cloneN_pre (l : List AmbNode) : Prop := l.length ≤ 1048576
def cloneN_wp (s : List AmbNode) (Z : (List AmbNode) → Prop) : Prop :=
  ∀ c2 : Bool, (c2 = true → s = []) → ((c2 = true → Z []) ∧ (c2 = false → (([] : List AmbNode).length + s.length ≤ 1073741824) ∧ ∀ l7 : List AmbNode, l7 = ([] : List AmbNode) ++ s → Z l7))
theorem cloneN_vc (l : List AmbNode) (h : cloneN_pre l) : cloneN_wp l (fun y => y = cloneN l) := by
  unfold cloneN_wp
  simp only [cloneN_pre] at h
  intro c hc
  refine ⟨fun h1 => (hc h1).symm, fun _ => ⟨by simp; omega, ?_⟩⟩
  rintro _ rfl
  simp [cloneN]
abbrev canonG_pre (p : Proc) : Prop := Gp p
noncomputable abbrev canonG (p : Proc) : Proc := (parse (sortedG p (-1))).1
theorem sortedG_short {p : Proc} (h : Gp p) (a : Int) : (sortedG p a).length ≤ 4294967296 := by
  have hp8 := h.len
  have h3 := sortedG_len h.len h.name (rk p a + 1) a
  have hr := rk_le h a
  have hpd : 8 ^ (rk p a + 1) ≤ 8 ^ 9 := Nat.pow_le_pow_right (by omega) (by omega)
  simp only [sortedG]
  omega
def canonG_wp (p : Proc) (Z : Proc → Prop) : Prop :=
  (sortedG_pre p (-1)) ∧ ∀ r6 : Str, r6 = sortedG p (-1) → (r6.length ≤ 4294967296) ∧ ∀ r8 : Proc × Bool, r8 = parse r6 → Z r8.1
theorem canonG_vc (p : Proc) (h : canonG_pre p) : canonG_wp p (fun y => y = canonG p) := by
  unfold canonG_wp
  refine ⟨h, ?_⟩
  rintro _ rfl
  refine ⟨sortedG_short h _, ?_⟩
  rintro _ rfl
  rfl
/-- The nodes with other parents. -/
def upd (p : Proc) (q : Int → Int) : Proc := p.mapIdx fun i x => ⟨x.kind, x.name, q i⟩
theorem upd_len (p : Proc) (q : Int → Int) : (upd p q).length = p.length := by simp [upd]
theorem upd_at (p : Proc) (q : Int → Int) {x : Int} (h0 : 0 ≤ x) (h1 : x < p.length) : at' (upd p q) x = ⟨(at' p x).kind, (at' p x).name, q x⟩ := by
  obtain ⟨c, rfl⟩ : ∃ c : Nat, x = c := ⟨x.toNat, by omega⟩
  have hc : c < p.length := by omega
  rw [at_lt (by rw [upd_len]; exact hc), at_lt hc]
  simp [upd]
theorem upd_congr {p : Proc} {q q' : Int → Int} (h : ∀ i : Int, 0 ≤ i → i < p.length → q i = q' i) : upd p q = upd p q' := by
  apply List.ext_getElem
  · simp [upd]
  · intro j h1 h2
    have hj : j < p.length := by simpa [upd] using h1
    simp only [upd, List.getElem_mapIdx, AmbNode.mk.injEq, true_and]
    exact h j (by omega) (by omega)
theorem upd_same (p : Proc) : p = upd p fun i => (at' p i).parent := by
  apply List.ext_getElem
  · simp [upd]
  · intro j h1 h2
    simp only [upd, List.getElem_mapIdx, at_lt h1]
theorem upd_set {p : Proc} {q : Int → Int} {x : Int} (v : Int) (h0 : 0 ≤ x) (h1 : x < p.length) : (upd p q).set x.toNat (AmbNode.mk (at' (upd p q) x).kind (at' (upd p q) x).name v) = upd p fun i => if i = x then v else q i := by
  rw [upd_at p q h0 h1]
  obtain ⟨c, rfl⟩ : ∃ c : Nat, x = c := ⟨x.toNat, by omega⟩
  have hc : c < p.length := by omega
  rw [at_lt hc, Int.toNat_natCast]
  apply List.ext_getElem
  · simp [upd]
  · intro j h2 h3
    have hj : j < p.length := by simpa [upd] using h3
    simp only [List.getElem_set, upd, List.getElem_mapIdx]
    by_cases h : c = j
    · subst h; simp
    · rw [if_neg h, if_neg (by omega)]
/-- The numbers that a function tells. -/
def lst (n : Nat) (q : Int → Int) : List Int := (List.range n).map fun i : Nat => q i
theorem lst_len (n : Nat) (q : Int → Int) : (lst n q).length = n := by simp [lst]
theorem lst_at {n : Nat} (q : Int → Int) {x : Int} (h0 : 0 ≤ x) (h1 : x < n) : at' (lst n q) x = q x := by
  obtain ⟨c, rfl⟩ : ∃ c : Nat, x = c := ⟨x.toNat, by omega⟩
  rw [at_lt (by rw [lst_len]; omega)]
  simp [lst]
theorem lst_succ (n : Nat) (q : Int → Int) : lst (n + 1) q = lst n q ++ [q n] := by simp [lst, List.range_succ]
theorem lst_set {n : Nat} {q : Int → Int} {x : Int} (v : Int) (h0 : 0 ≤ x) : (lst n q).set x.toNat v = lst n fun i => if i = x then v else q i := by
  obtain ⟨c, rfl⟩ : ∃ c : Nat, x = c := ⟨x.toNat, by omega⟩
  rw [Int.toNat_natCast]
  apply List.ext_getElem
  · simp [lst]
  · intro j h2 h3
    simp only [List.getElem_set, lst, List.getElem_map, List.getElem_range]
    by_cases h : c = j
    · subst h; simp
    · rw [if_neg h, if_neg (by omega)]
theorem lst_congr {n : Nat} {q q' : Int → Int} (h : ∀ i : Int, 0 ≤ i → i < n → q i = q' i) : lst n q = lst n q' := by
  refine List.map_congr_left fun i hi => h i (by omega) ?_
  have := List.mem_range.1 hi
  omega
def baseQ (p : Proc) (s : AmbStep) (i : Int) : Int := if (at' p i).parent = s.cap ∨ (s.kind = 3 ∧ (at' p i).parent = s.place) then nP p s else (at' p i).parent
def stepQ (p : Proc) (s : AmbStep) (i : Int) : Int :=
  if i = s.cap then s.cap
  else if s.kind = 1 then (if i = nP p s then s.place else baseQ p s i)
  else if s.kind = 2 then (if i = nP p s then (at' p s.place).parent else baseQ p s i)
  else (if i = s.place then s.place else baseQ p s i)
def reP (p : Proc) (ps : List Int) : Proc := upd p fun i => if at' ps i = i then -2 else at' ps i
def stepP (p : Proc) (s : AmbStep) : Proc := reP p (lst p.length (stepQ p s))
/-- What a possible step tells. -/
structure Poss (p : Proc) (s : AmbStep) : Prop where
  valid : Valid p
  kind : 1 ≤ s.kind ∧ s.kind ≤ 3
  cap : 0 ≤ s.cap ∧ s.cap < p.length
  place : 0 ≤ s.place ∧ s.place < p.length
  ne : s.cap ≠ s.place
  n : -1 ≤ nP p s ∧ nP p s < s.cap
  inn : s.kind = 1 → 0 ≤ nP p s ∧ nP p s ≠ s.place ∧ (at' p s.place).parent = (at' p (nP p s)).parent
  out : s.kind = 2 → 0 ≤ nP p s ∧ (at' p (nP p s)).parent = s.place
  opn : s.kind = 3 → (at' p s.place).parent = nP p s
theorem poss {p : Proc} {s : AmbStep} (hp : Valid p) (h : possibleP p s = true) : Poss p s := by
  simp only [possibleP, midP, Bool.and_eq_true, within, decide_eq_true_eq] at h
  obtain ⟨⟨⟨⟨⟨k1, k2⟩, ⟨c1, c2⟩⟩, ⟨q1, q2⟩⟩, ⟨⟨m1, _⟩, m3⟩, _⟩, hr⟩ := h
  have hv := validAt hp c1 (by omega)
  refine ⟨hp, ⟨k1, k2⟩, ⟨c1, by omega⟩, ⟨q1, by omega⟩, ?_, hv.2.2, fun e => ?_, fun e => ?_, fun e => ?_⟩
  · intro he
    rw [he, m3] at m1
    omega
  · rw [restP, if_pos e] at hr
    simpa [and_assoc] using hr
  · rw [restP, if_neg (by omega), if_pos e] at hr
    simpa using hr
  · rw [restP, if_neg (by omega), if_neg (by omega)] at hr
    simpa using hr
/-- Below a node, and the node itself. -/
inductive Sub (p : Proc) (n : Int) : Int → Prop
  | self : Sub p n n
  | kid (i : Int) (h0 : 0 ≤ i) (h1 : i < p.length) (h : Sub p n (at' p i).parent) : Sub p n i
theorem Sub.le {p : Proc} (hp : Valid p) {n i : Int} (h : Sub p n i) : n ≤ i := by
  induction h with
  | self => exact Int.le_refl _
  | kid i h0 h1 _ ih => have := (validAt hp h0 h1).2.2.2; omega
theorem Sub.up {p : Proc} {n i : Int} (h : Sub p n i) (hne : i ≠ n) : Sub p n (at' p i).parent := by
  cases h with
  | self => exact absurd rfl hne
  | kid _ _ _ h => exact h
theorem base_lt {p : Proc} {s : AmbStep} (h : Poss p s) {i : Int} (h0 : 0 ≤ i) (h1 : i < p.length) : baseQ p s i < i := by
  have hi := (validAt h.valid h0 h1).2.2
  have hn := h.n
  unfold baseQ
  split
  · rename_i hc
    rcases hc with hc | ⟨e, hc⟩
    · omega
    · have h1 := h.opn e
      have h2 := (validAt h.valid h.place.1 h.place.2).2.2
      omega
  · omega
theorem stepQ_ne {p : Proc} {s : AmbStep} (h : Poss p s) {i : Int} (h0 : 0 ≤ i) (h1 : i < p.length) (hc : i ≠ s.cap) (hq : s.kind = 3 → i ≠ s.place) : stepQ p s i ≠ i := by
  have hb := base_lt h h0 h1
  unfold stepQ
  rw [if_neg hc]
  split
  · rename_i e
    have := h.inn e
    split <;> omega
  · split
    · rename_i e
      have h2 := h.out e
      have h3 := (validAt h.valid h.place.1 h.place.2).2.2
      have h4 := (validAt h.valid h2.1 (by have := h.n; have := h.cap; omega)).2.2
      split <;> omega
    · have := hq (by have := h.kind; omega)
      rw [if_neg this]
      omega
theorem mem_kids {p : Proc} {a k : Int} : k ∈ kids p a ↔ 0 ≤ k ∧ k < p.length ∧ (at' p k).parent = a := by
  simp only [kids, mem_idxs, decide_eq_true_eq]
open Classical in
theorem stepP_gp {p : Proc} {s : AmbStep} (h : Poss p s) : Gp (stepP p s) := by
  have hp := h.valid
  have hlen : (stepP p s).length = p.length := by rw [stepP, reP, upd_len]
  refine ⟨by rw [hlen]; exact hp.len, fun i hi => ?_, fun i hi => ?_, ?_⟩
  · rw [hlen] at hi
    have := upd_at p (fun i => if at' (lst p.length (stepQ p s)) i = i then -2 else at' (lst p.length (stepQ p s)) i) (x := (i : Int)) (by omega) (by omega)
    rw [at_nat, at_nat] at this
    rw [stepP, reP, this]
    exact hp.kind i hi
  · rw [hlen] at hi
    have := upd_at p (fun i => if at' (lst p.length (stepQ p s)) i = i then -2 else at' (lst p.length (stepQ p s)) i) (x := (i : Int)) (by omega) (by omega)
    rw [at_nat, at_nat] at this
    rw [stepP, reP, this]
    exact hp.name i hi
  · refine ⟨fun a => ((p.length : Int) - a).toNat + if s.kind = 1 ∧ ¬ Sub p (nP p s) a then 10 else 0, fun a k hk => ?_⟩
    rw [mem_kids, hlen] at hk
    obtain ⟨h0, h1, hpa⟩ := hk
    have hp8 := hp.len
    show ((p.length : Int) - k).toNat + (if s.kind = 1 ∧ ¬ Sub p (nP p s) k then 10 else 0) < ((p.length : Int) - a).toNat + (if s.kind = 1 ∧ ¬ Sub p (nP p s) a then 10 else 0)
    rw [stepP, reP, upd_at _ _ h0 h1] at hpa
    simp only [lst_at _ h0 h1] at hpa
    have hb := base_lt h h0 h1
    have hn := h.n
    have hcap := h.cap
    by_cases hrem : stepQ p s k = k
    · rw [if_pos hrem] at hpa
      subst hpa
      by_cases e : s.kind = 1
      · have hs : ¬ Sub p (nP p s) (-2) := fun hs => by have := hs.le hp; have := (h.inn e).1; omega
        rw [if_pos (c := s.kind = 1 ∧ ¬ Sub p (nP p s) (-2)) ⟨e, hs⟩]
        split <;> omega
      · rw [if_neg (fun hh => e hh.1), if_neg (fun hh => e hh.1)]
        omega
    · rw [if_neg hrem] at hpa
      by_cases e : s.kind = 1
      · obtain ⟨i1, i2, i3⟩ := h.inn e
        have hns : ¬ Sub p (nP p s) s.place := fun hs => by
          have h5 := hs.up (Ne.symm i2)
          rw [i3] at h5
          have h6 := h5.le hp
          have h7 := (validAt hp i1 (by omega)).2.2
          omega
        have hkc : k ≠ s.cap := fun hh => hrem (by rw [hh, stepQ, if_pos rfl])
        rw [stepQ, if_neg hkc, if_pos e] at hpa
        split at hpa
        · rename_i hkn
          subst hpa
          rw [if_neg (fun hh => hh.2 (hkn ▸ Sub.self)), if_pos ⟨e, hns⟩]
          have := h.place
          omega
        · rename_i hkn
          unfold baseQ at hpa
          split at hpa
          · rename_i hc
            have hc' : (at' p k).parent = s.cap := by rcases hc with hc | ⟨e3, _⟩; exact hc; omega
            have hsc : Sub p (nP p s) s.cap := .kid _ h.cap.1 h.cap.2 Sub.self
            have hsk : Sub p (nP p s) k := .kid _ h0 h1 (hc' ▸ hsc)
            rw [if_neg (fun hh => hh.2 hsk), if_neg (fun hh => hh.2 (hpa ▸ Sub.self))]
            have := (validAt hp h0 h1).2.2
            omega
          · have hlt := (validAt hp h0 h1).2.2
            by_cases hsk : Sub p (nP p s) k
            · have hsa := hsk.up hkn
              rw [hpa] at hsa
              rw [if_neg (fun hh => hh.2 hsk), if_neg (fun hh => hh.2 hsa)]
              omega
            · have hsa : ¬ Sub p (nP p s) a := fun hs => hsk (.kid _ h0 h1 (hpa ▸ hs))
              rw [if_pos ⟨e, hsk⟩, if_pos ⟨e, hsa⟩]
              omega
      · rw [if_neg (fun hh => e hh.1), if_neg (fun hh => e hh.1)]
        have hlt : a < k := by
          have hkc : k ≠ s.cap := fun hh => hrem (by rw [hh, stepQ, if_pos rfl])
          rw [stepQ, if_neg hkc, if_neg e] at hpa
          split at hpa
          · rename_i e2
            have h2 := h.out e2
            have h3 := (validAt hp h.place.1 h.place.2).2.2
            have h4 := (validAt hp h2.1 (by omega)).2.2
            split at hpa <;> omega
          · split at hpa
            · rename_i e3 hk3
              exact absurd (by rw [stepQ, if_neg hkc, if_neg e, if_neg e3, if_pos hk3, hk3]) hrem
            · omega
        omega
abbrev result_pre (p : Proc) (s : AmbStep) : Prop := Poss p s
noncomputable abbrev result (p : Proc) (s : AmbStep) : Proc := canonG (stepP p s)
def result_wp (p : Proc) (s : AmbStep) (Z : Proc → Prop) : Prop :=
  (cloneN_pre p) ∧ ∀ r7 : List AmbNode, r7 = cloneN p → (0 ≤ s.cap ∧ s.cap < p.length) ∧ ∀ x23 : AmbNode, x23 = at' p s.cap → (kids_pre p s.cap) ∧ ∀ r26 : List Int, r26 = kids p s.cap → ∀ len34 : Int, len34 = (r26.length : Int) → loopW (σ := Int × (List AmbNode)) (fun (v51, l52) K58 => ∀ c59 : Bool, c59 = decide (v51 < len34) → ((c59 = true → (0 ≤ v51 ∧ v51 < r26.length) ∧ ∀ x66 : Int, x66 = at' r26 v51 → (0 ≤ x66 ∧ x66 < l52.length) ∧ ∀ x74 : AmbNode, x74 = at' l52 x66 → ∀ l77 : List AmbNode, l77 = l52.set x66.toNat (AmbNode.mk x74.kind x74.name x23.parent) → (I64 (v51 + 1)) ∧ ∀ v86 : Int, v86 = v51 + 1 → K58 (v86, l77)) ∧ (c59 = false → (0 ≤ s.cap ∧ s.cap < l52.length) ∧ ∀ x93 : AmbNode, x93 = at' l52 s.cap → ∀ l96 : List AmbNode, l96 = l52.set s.cap.toNat (AmbNode.mk x93.kind x93.name (-2)) → ∀ c103 : Bool, c103 = decide (s.kind = 1) → ((c103 = true → (0 ≤ x23.parent ∧ x23.parent < l96.length) ∧ ∀ x110 : AmbNode, x110 = at' l96 x23.parent → ∀ l113 : List AmbNode, l113 = l96.set x23.parent.toNat (AmbNode.mk x110.kind x110.name s.place) → (canonG_pre l113) ∧ ∀ r121 : Proc, r121 = canonG l113 → Z r121) ∧ (c103 = false → ∀ c137 : Bool, c137 = decide (s.kind = 2) → ((c137 = true → (0 ≤ s.place ∧ s.place < p.length) ∧ ∀ x140 : AmbNode, x140 = at' p s.place → (0 ≤ x23.parent ∧ x23.parent < l96.length) ∧ ∀ x147 : AmbNode, x147 = at' l96 x23.parent → ∀ l150 : List AmbNode, l150 = l96.set x23.parent.toNat (AmbNode.mk x147.kind x147.name x140.parent) → (canonG_pre l150) ∧ ∀ r158 : Proc, r158 = canonG l150 → Z r158) ∧ (c137 = false → (kids_pre p s.place) ∧ ∀ r175 : List Int, r175 = kids p s.place → ∀ len183 : Int, len183 = (r175.length : Int) → loopW (σ := Int × (List AmbNode)) (fun (v200, l201) K207 => ∀ c208 : Bool, c208 = decide (v200 < len183) → ((c208 = true → (0 ≤ v200 ∧ v200 < r175.length) ∧ ∀ x215 : Int, x215 = at' r175 v200 → (0 ≤ x215 ∧ x215 < l201.length) ∧ ∀ x223 : AmbNode, x223 = at' l201 x215 → ∀ l226 : List AmbNode, l226 = l201.set x215.toNat (AmbNode.mk x223.kind x223.name x23.parent) → (I64 (v200 + 1)) ∧ ∀ v235 : Int, v235 = v200 + 1 → K207 (v235, l226)) ∧ (c208 = false → (0 ≤ s.place ∧ s.place < l201.length) ∧ ∀ x242 : AmbNode, x242 = at' l201 s.place → ∀ l245 : List AmbNode, l245 = l201.set s.place.toNat (AmbNode.mk x242.kind x242.name (-2)) → (canonG_pre l245) ∧ ∀ r253 : Proc, r253 = canonG l245 → Z r253))) (0, l96)))))))) (0, r7)
theorem stepP_eq {p : Proc} {s : AmbStep} {q : Int → Int} (hq : ∀ i : Int, 0 ≤ i → i < p.length → q i = if stepQ p s i = i then -2 else stepQ p s i) : upd p q = stepP p s :=
  by rw [stepP, reP]; exact upd_congr fun i h0 h1 => by rw [lst_at _ h0 h1]; exact hq i h0 h1
theorem result_vc (p : Proc) (s : AmbStep) (h : result_pre p s) : result_wp p s (fun y => y = result p s) := by
  have hp := h.valid
  have hp8 := hp.len
  have hn := h.n
  have hcap := h.cap
  unfold result_wp
  refine ⟨by simp only [cloneN_pre]; omega, ?_⟩
  intro r7 hr7
  obtain rfl : p = r7 := hr7.symm
  refine ⟨h.cap, ?_⟩
  rintro _ rfl
  refine ⟨by simp only [kids_pre]; omega, ?_⟩
  rintro _ rfl _ rfl
  have hkl : (kids p s.cap).length ≤ p.length := idxs_len _ _ _
  refine loopW.upL (kids p s.cap).length (fun k out => out = upd p fun i => if i ∈ (kids p s.cap).take k then nP p s else (at' p i).parent) p (by simpa using upd_same p) ?_
  rintro k out K hk rfl IH
  rintro _ rfl
  simp only [decide_eq_true_eq, decide_eq_false_iff_not]
  refine ⟨fun hc => ⟨by omega, ?_⟩, fun hc => ?_⟩
  · rintro _ rfl
    have hk1 : k < (kids p s.cap).length := by omega
    rw [at_lt hk1]
    have hmem := mem_kids.1 (List.getElem_mem hk1)
    have htk : (kids p s.cap).take (k + 1) = (kids p s.cap).take k ++ [(kids p s.cap)[k]] := List.take_succ_eq_append_getElem hk1
    generalize (kids p s.cap)[k] = x at hmem htk ⊢
    refine ⟨⟨hmem.1, by rw [upd_len]; exact hmem.2.1⟩, ?_⟩
    rintro _ rfl _ rfl
    refine ⟨by simp only [I64]; omega, ?_⟩
    rintro _ rfl
    refine IH hk1 _ ?_
    rw [upd_set _ hmem.1 hmem.2.1]
    refine upd_congr fun i _ _ => ?_
    rw [htk]
    by_cases hi : i = x <;> simp [hi]
  · have hke : k = (kids p s.cap).length := by omega
    subst hke
    have e0 : (upd p fun i => if i ∈ (kids p s.cap).take (kids p s.cap).length then nP p s else (at' p i).parent) = upd p fun i => if (at' p i).parent = s.cap then nP p s else (at' p i).parent := upd_congr fun i h0 h1 => by
      rw [List.take_length]; simp only [mem_kids, h0, h1, true_and]
    rw [e0]
    refine ⟨⟨h.cap.1, by rw [upd_len]; exact h.cap.2⟩, ?_⟩
    rintro _ rfl _ rfl _ rfl
    rw [upd_set _ h.cap.1 h.cap.2]
    simp only [decide_eq_true_eq, decide_eq_false_iff_not]
    refine ⟨fun e1 => ?_, fun e1 => ?_⟩
    · obtain ⟨i1, i2, i3⟩ := h.inn e1
      have hn1 : nP p s < p.length := by omega
      refine ⟨⟨i1, by rw [upd_len]; exact hn1⟩, ?_⟩
      rintro _ rfl _ rfl
      rw [upd_set _ i1 hn1, stepP_eq (s := s)]
      · exact ⟨stepP_gp h, by rintro _ rfl; rfl⟩
      · intro i h0 h1
        by_cases hc : i = s.cap
        · rw [if_neg (by omega), if_pos hc, if_pos (by rw [hc, stepQ, if_pos rfl])]
        · rw [if_neg hc, if_neg (stepQ_ne h h0 h1 hc (by omega)), stepQ, if_neg hc, if_pos e1]
          simp [baseQ, e1]
    · rintro _ rfl
      simp only [decide_eq_true_eq, decide_eq_false_iff_not]
      refine ⟨fun e2 => ?_, fun e2 => ?_⟩
      · obtain ⟨i1, i2⟩ := h.out e2
        have hn1 : nP p s < p.length := by omega
        refine ⟨h.place, ?_⟩
        rintro _ rfl
        refine ⟨⟨i1, by rw [upd_len]; exact hn1⟩, ?_⟩
        rintro _ rfl _ rfl
        rw [upd_set _ i1 hn1, stepP_eq (s := s)]
        · exact ⟨stepP_gp h, by rintro _ rfl; rfl⟩
        · intro i h0 h1
          by_cases hc : i = s.cap
          · rw [if_neg (by omega), if_pos hc, if_pos (by rw [hc, stepQ, if_pos rfl])]
          · rw [if_neg hc, if_neg (stepQ_ne h h0 h1 hc (by omega)), stepQ, if_neg hc, if_neg e1, if_pos e2]
            simp [baseQ, e2]
      · have e3 : s.kind = 3 := by have := h.kind; omega
        have hop := h.opn e3
        have hpl := (validAt hp h.place.1 h.place.2).2.2
        refine ⟨by simp only [kids_pre]; omega, ?_⟩
        rintro _ rfl _ rfl
        have hkl : (kids p s.place).length ≤ p.length := idxs_len _ _ _
        refine loopW.upL (kids p s.place).length (fun k out => out = upd p fun i => if i ∈ (kids p s.place).take k then nP p s else if i = s.cap then -2 else if (at' p i).parent = s.cap then nP p s else (at' p i).parent) _ (by simp) ?_
        rintro k out K hk rfl IH
        rintro _ rfl
        simp only [decide_eq_true_eq, decide_eq_false_iff_not]
        refine ⟨fun hc => ⟨by omega, ?_⟩, fun hc => ?_⟩
        · rintro _ rfl
          have hk1 : k < (kids p s.place).length := by omega
          rw [at_lt hk1]
          have hmem := mem_kids.1 (List.getElem_mem hk1)
          have htk : (kids p s.place).take (k + 1) = (kids p s.place).take k ++ [(kids p s.place)[k]] := List.take_succ_eq_append_getElem hk1
          generalize (kids p s.place)[k] = x at hmem htk ⊢
          refine ⟨⟨hmem.1, by rw [upd_len]; exact hmem.2.1⟩, ?_⟩
          rintro _ rfl _ rfl
          refine ⟨by simp only [I64]; omega, ?_⟩
          rintro _ rfl
          refine IH hk1 _ ?_
          rw [upd_set _ hmem.1 hmem.2.1]
          refine upd_congr fun i _ _ => ?_
          rw [htk]
          by_cases hi : i = x <;> simp [hi]
        · have hke : k = (kids p s.place).length := by omega
          subst hke
          refine ⟨⟨h.place.1, by rw [upd_len]; exact h.place.2⟩, ?_⟩
          rintro _ rfl _ rfl
          rw [upd_set _ h.place.1 h.place.2, stepP_eq (s := s)]
          · exact ⟨stepP_gp h, by rintro _ rfl; rfl⟩
          · intro i h0 h1
            rw [List.take_length]
            simp only [mem_kids, h0, h1, true_and]
            have hne := h.ne
            by_cases hc : i = s.cap
            · have hnp : ¬ (at' p i).parent = s.place := fun hh => by
                have : nP p s = s.place := by rw [← hh, hc]
                omega
              rw [if_neg (by omega), if_neg hnp, if_pos hc, if_pos (by rw [hc, stepQ, if_pos rfl])]
            · by_cases hq : i = s.place
              · rw [if_pos hq, if_pos (by rw [stepQ, if_neg hc, if_neg e1, if_neg e2, if_pos hq, hq])]
              · rw [if_neg hq, if_neg (stepQ_ne h h0 h1 hc (fun _ => hq)), stepQ, if_neg hc, if_neg e1, if_neg e2, if_neg hq, if_neg hc]
                unfold baseQ
                by_cases a1 : (at' p i).parent = s.cap
                · simp [a1]
                · by_cases a2 : (at' p i).parent = s.place
                  · simp [a2, e3]
                  · simp [a1, a2]
theorem insLoop {l : List Str} {s : Str} {R : Int → Prop} (hl : l.length ≤ 1000000) (h : ∀ k : Nat, k ≤ l.length → l.take k ++ s :: l.drop k = ins s l → R k) :
    loopW (σ := Int) (fun k K => joinW (fun (J : Bool → Prop) => ∀ len : Int, len = (l.length : Int) → ∀ c : Bool, c = decide (k < len) → ((c = true → (0 ≤ k ∧ k < l.length) ∧ ∀ x : Str, x = at' l k → ∀ c2 : Bool, c2 = (Op.bytesLess x s || x == s) → J (c2)) ∧ (c = false → J (false))))
      (fun b => ((b = true → (I64 (k + 1)) ∧ ∀ v : Int, v = k + 1 → K (v)) ∧ (b = false → R k)))) 0 := by
  refine loopW.up1 l.length (fun j => ∀ m < j, at' l (m : Int) ≤ s) (by simp) ?_
  rintro j K' hj hI IH'
  refine ⟨fun b => b = (decide (j < l.length) && decide (at' l (j : Int) ≤ s)), ?_, ?_⟩
  · rintro _ rfl _ rfl
    simp only [decide_eq_true_eq, decide_eq_false_iff_not]
    refine ⟨fun hc => ⟨by omega, ?_⟩, fun hc => ?_⟩
    · rintro _ rfl _ rfl
      rw [leq_le]
      have : j < l.length := by omega
      simp [this]
    · have : ¬ j < l.length := by omega
      simp [this]
  · rintro _ rfl
    refine ⟨fun hc => ?_, fun hc => ?_⟩
    · simp only [Bool.and_eq_true, decide_eq_true_eq] at hc
      refine ⟨by simp only [I64]; omega, ?_⟩
      rintro _ rfl
      refine IH' hc.1 fun m hm => ?_
      rcases Nat.lt_or_ge m j with h5 | h5
      · exact hI m h5
      · rw [show m = j by omega]; exact hc.2
    · simp only [Bool.and_eq_false_iff, decide_eq_false_iff_not] at hc
      exact h j hj (ins_at s l j hj hI (fun hl => hc.resolve_left (by simpa using hl)))
theorem joinLoop {r : List Str} {Z : Str → Prop} (h0 : 0 < r.length) (hl : r.length ≤ 8) (hb : ∀ s ∈ r, s.length ≤ 2147483648 + 12) (hz : Z (joinTexts r)) :
    loopW (σ := Str × Int) (fun (s, i) K => ∀ len : Int, len = (r.length : Int) → ∀ c : Bool, c = decide (i < len) → ((c = true → (s.length + [124].length < 4611686018427387904) ∧ ∀ v : Str, v = s ++ [124] → (0 ≤ i ∧ i < r.length) ∧ ∀ x : Str, x = at' r i →
      (v.length + x.length < 4611686018427387904) ∧ ∀ v2 : Str, v2 = v ++ x → (I64 (i + 1)) ∧ ∀ v3 : Int, v3 = i + 1 → K (v2, v3)) ∧ (c = false → Z s))) (at' r 0, 1) := by
  refine loopW.up (r.length - 1) (fun s => s.2 - 1) (fun k s => (s, (k : Int) + 1)) (fun _ _ => by simp) (fun k s => s = Lib.join (r.take (k + 1)) [124]) (at' r 0) (by simp) ?_ ?_
  · cases r with
    | nil => simp at h0
    | cons s0 r' => simp [at', Lib.join]
  · rintro k t K hk rfl IH
    have hj := join_len (r.take (k + 1)) [124] (2147483648 + 12) (fun s hs => hb s (List.mem_of_mem_take hs))
    have hm : (r.take (k + 1)).length * (2147483648 + 12 + [124].length) ≤ 8 * (2147483648 + 12 + 1) := Nat.mul_le_mul (by simp; omega) (by simp)
    rintro _ rfl _ rfl
    simp only [decide_eq_true_eq, decide_eq_false_iff_not]
    refine ⟨fun hc => ⟨by simp only [List.length_singleton]; omega, ?_⟩, fun hc => ?_⟩
    · rintro _ rfl
      refine ⟨by omega, ?_⟩
      rintro _ rfl
      have hk1 : k + 1 < r.length := by omega
      have hat : at' r ((k : Int) + 1) = r[k + 1] := by
        have : ((k : Int) + 1).toNat = k + 1 := by omega
        simp [at', this, hk1]
      have h12 := hb _ (List.getElem_mem hk1)
      rw [hat]
      refine ⟨by simp only [List.length_append, List.length_singleton]; omega, ?_⟩
      rintro _ rfl
      refine ⟨by simp only [I64]; omega, ?_⟩
      rintro _ rfl
      refine IH (by omega) _ ?_
      rw [List.take_succ_eq_append_getElem hk1, intercalate_snoc _ _ (by intro h; have := congrArg List.length h; rw [List.length_take, List.length_nil] at this; omega)]
    · have h3 : r.take (k + 1) = r := List.take_of_length_le (by omega)
      rw [h3]
      rw [joinTexts, if_neg (by rintro rfl; simp at h0)] at hz
      exact hz
abbrev l12Text_pre (p : Proc) (ps : List Int) (a : Int) : Prop := ps.length = p.length ∧ -1 ≤ a ∧ Gp (reP p ps)
noncomputable abbrev l12Text_ms (p : Proc) (ps : List Int) (a : Int) : Nat := rk (reP p ps) a
noncomputable abbrev l12Text (p : Proc) (ps : List Int) (a : Int) : Str := sortedG (reP p ps) a
def l12Text_wp (p : Proc) (parents : List Int) (parent : Int) (Z : Str → Prop) : Prop :=
  loopW (σ := Int × (List Str)) (fun (i14, l15) K19 => ∀ len20 : Int, len20 = (parents.length : Int) → ∀ c22 : Bool, c22 = decide (i14 < len20) → ((c22 = true → joinW (fun (J24 : Bool → Prop) => (0 ≤ i14 ∧ i14 < parents.length) ∧ ∀ x117 : Int, x117 = at' parents i14 → ∀ c119 : Bool, c119 = decide (x117 ≠ parent) → ((c119 = true → J24 (true)) ∧ (c119 = false → ∀ c121 : Bool, c121 = decide (i14 = parent) → J24 (c121)))) (fun b27 => ((b27 = true → (I64 (i14 + 1)) ∧ ∀ v32 : Int, v32 = i14 + 1 → K19 (v32, l15)) ∧ (b27 = false → (0 ≤ i14 ∧ i14 < p.length) ∧ ∀ x35 : AmbNode, x35 = at' p i14 → (l12Text_pre p parents i14 ∧ l12Text_ms p parents i14 < l12Text_ms p parents parent) ∧ ∀ r38 : Str, r38 = l12Text p parents i14 → (nodeT_pre x35 r38) ∧ ∀ r40 : Str, r40 = nodeText x35 r38 → loopW (σ := Int) (fun k44 K48 => joinW (fun (J49 : Bool → Prop) => ∀ len102 : Int, len102 = (l15.length : Int) → ∀ c104 : Bool, c104 = decide (k44 < len102) → ((c104 = true → (0 ≤ k44 ∧ k44 < l15.length) ∧ ∀ x111 : Str, x111 = at' l15 k44 → ∀ c114 : Bool, c114 = (Op.bytesLess x111 r40 || x111 == r40) → J49 (c114)) ∧ (c104 = false → J49 (false)))) (fun b52 => ((b52 = true → (I64 (k44 + 1)) ∧ ∀ v57 : Int, v57 = k44 + 1 → K48 (v57)) ∧ (b52 = false → ((0 : Int) ≤ 0 ∧ (0 : Int) ≤ k44 ∧ k44 ≤ l15.length) ∧ ∀ l63 : List Str, l63 = (l15.take k44.toNat).drop 0 → (([] : List Str).length + l63.length ≤ 1073741824) ∧ ∀ l67 : List Str, l67 = ([] : List Str) ++ l63 → (l67.length + 1 ≤ 1073741824) ∧ ∀ l76 : List Str, l76 = l67 ++ [r40] → (0 ≤ k44 ∧ k44 ≤ (l15.length : Int) ∧ (l15.length : Int) ≤ l15.length) ∧ ∀ l85 : List Str, l85 = (l15.take (l15.length : Int).toNat).drop k44.toNat → (l76.length + l85.length ≤ 1073741824) ∧ ∀ l89 : List Str, l89 = l76 ++ l85 → (I64 (i14 + 1)) ∧ ∀ v100 : Int, v100 = i14 + 1 → K19 (v100, l89))))) (0))))) ∧ (c22 = false → ∀ len123 : Int, len123 = (l15.length : Int) → ∀ c125 : Bool, c125 = decide (len123 = 0) → ((c125 = true → Z [48]) ∧ (c125 = false → ((0 : Int) ≤ 0 ∧ (0 : Int) < l15.length) ∧ ∀ x132 : Str, x132 = at' l15 0 → loopW (σ := Str × Int) (fun (s139, i140) K144 => ∀ len145 : Int, len145 = (l15.length : Int) → ∀ c147 : Bool, c147 = decide (i140 < len145) → ((c147 = true → (s139.length + [124].length < 4611686018427387904) ∧ ∀ v150 : Str, v150 = s139 ++ [124] → (0 ≤ i140 ∧ i140 < l15.length) ∧ ∀ x157 : Str, x157 = at' l15 i140 → (v150.length + x157.length < 4611686018427387904) ∧ ∀ v161 : Str, v161 = v150 ++ x157 → (I64 (i140 + 1)) ∧ ∀ v164 : Int, v164 = i140 + 1 → K144 (v161, v164)) ∧ (c147 = false → Z s139))) (x132, 1)))))) (0, ([] : List Str))
theorem re_at {p : Proc} {ps : List Int} {x : Int} (h0 : 0 ≤ x) (h1 : x < p.length) : at' (reP p ps) x = ⟨(at' p x).kind, (at' p x).name, if at' ps x = x then -2 else at' ps x⟩ := upd_at _ _ h0 h1
theorem l12Text_vc (p : Proc) (ps : List Int) (a : Int) (h : l12Text_pre p ps a) : l12Text_wp p ps a (fun y => y = l12Text p ps a) := by
  obtain ⟨hl, ha, hg⟩ := h
  have hlen : (reP p ps).length = p.length := upd_len _ _
  have hp8 := hg.len
  rw [hlen] at hp8
  have hrk := rk_le hg a
  rw [hlen] at hrk
  unfold l12Text_wp
  obtain ⟨d, hd⟩ : ∃ d, rk (reP p ps) a = d := ⟨_, rfl⟩
  have hpd : 8 ^ d ≤ 8 ^ 8 := Nat.pow_le_pow_right (by omega) (by omega)
  have hT : ∀ y, (sortedT (reP p ps) d y).length ≤ 268435456 := fun y => by have := sortedG_len hg.len hg.name d y; omega
  generalize hq : reP p ps = q at *
  have hqat : ∀ x : Int, 0 ≤ x → x < p.length → at' q x = ⟨(at' p x).kind, (at' p x).name, if at' ps x = x then -2 else at' ps x⟩ := fun x h0 h1 => by rw [← hq]; exact re_at h0 h1
  have hnt : ∀ x : Int, 0 ≤ x → x < p.length → ∀ t, nodeText (at' p x) t = nodeText (at' q x) t := fun x h0 h1 t => by rw [hqat x h0 h1]; rfl
  refine loopW.upL p.length (fun k out => out = (idxs q (fun x => decide (x.parent = a)) k).foldl (fun out x => ins (nodeText (at' q x) (sortedT q d x)) out) []) [] rfl ?_
  rintro k out K hk hout IH
  have hol : out.length ≤ k := by
    have := (foldl_ins (fun x => nodeText (at' q x) (sortedT q d x)) (idxs q (fun x => decide (x.parent = a)) k) [] List.Pairwise.nil).2.length_eq
    rw [← hout] at this
    rw [this]
    simpa using idxs_len q (fun x => decide (x.parent = a)) k
  rintro _ rfl _ rfl
  simp only [decide_eq_true_eq, decide_eq_false_iff_not]
  refine ⟨fun hc => ?_, fun hc => ?_⟩
  · have hk1 : k < p.length := by omega
    have hk2 := hqat k (by omega) (by omega)
    refine ⟨fun b => b = decide (¬ (at' q (k : Int)).parent = a), ?_, ?_⟩
    · refine ⟨by omega, ?_⟩
      rintro _ rfl _ rfl
      simp only [decide_eq_true_eq, decide_eq_false_iff_not]
      rw [hk2]
      refine ⟨fun b1 => ?_, fun b1 => ?_⟩
      · have : ¬ ((if at' ps (k : Int) = k then -2 else at' ps (k : Int)) = a) := by split <;> omega
        simp [this]
      · rintro _ rfl
        simp only [decide_not, decide_eq_decide]
        have b1' : at' ps (k : Int) = a := by simpa using b1
        rw [Bool.eq_iff_iff]
        simp only [decide_eq_true_eq, Bool.not_eq_true', decide_eq_false_iff_not]
        split <;> omega
    · rintro _ rfl
      simp only [decide_eq_true_eq, decide_eq_false_iff_not, Decidable.not_not]
      refine ⟨fun b1 => ⟨by simp only [I64]; omega, ?_⟩, fun b1 => ⟨by omega, ?_⟩⟩
      · rintro _ rfl
        refine IH hk1 _ ?_
        rw [idxs_no _ _ (by simpa using b1)]
        exact hout
      · rintro _ rfl
        have hmem : (k : Int) ∈ kids q a := mem_kids.2 ⟨by omega, by omega, b1⟩
        have hlt := rk_lt hg hmem
        refine ⟨⟨⟨hl, by omega, by rw [hq]; exact hg⟩, by simp only [l12Text_ms, hq]; omega⟩, ?_⟩
        rintro _ rfl
        have hf : l12Text p ps k = sortedT q d k := by
          simp only [l12Text, hq]
          exact sortedT_rk hg _ _ _ (by omega) (by omega)
        rw [hf]
        have hkn := hg.kind k (by omega)
        have hnn := hg.name k (by omega)
        rw [← at_nat, hk2] at hkn hnn
        refine ⟨⟨hkn, by have := hnn; simp only at this; omega, by have := hT k; omega⟩, ?_⟩
        rintro _ rfl
        have hnext := IH hk1
        rw [idxs_yes _ _ (by simpa using b1), List.foldl_append, ← hout] at hnext
        simp only [List.foldl_cons, List.foldl_nil] at hnext
        rw [hnt k (by omega) (by omega)]
        generalize nodeText (at' q (k : Int)) (sortedT q d k) = s at hnext
        refine insLoop (by omega) fun j hj hins => ?_
        refine ⟨by omega, ?_⟩
        rintro _ rfl
        refine ⟨by simp; omega, ?_⟩
        rintro _ rfl
        refine ⟨by simp; omega, ?_⟩
        rintro _ rfl
        refine ⟨by omega, ?_⟩
        rintro _ rfl
        refine ⟨by simp; omega, ?_⟩
        rintro _ rfl
        refine ⟨by simp only [I64]; omega, ?_⟩
        rintro _ rfl
        refine hnext _ ?_
        rw [← hins]
        simp
  · have hke : k = p.length := by omega
    subst hke
    have hkids : idxs q (fun x => decide (x.parent = a)) p.length = kids q a := by rw [kids, hlen]
    rw [hkids, foldl_sort (fun x => nodeText (at' q x) (sortedT q d x))] at hout
    have hfin : l12Text p ps a = joinTexts out := by
      simp only [l12Text, hq, sortedG, hd, sortedT, sortT, hout]
    have hbb : ∀ t ∈ out, t.length ≤ 2147483648 + 12 := fun t ht => by
      rw [hout] at ht
      simp only [List.mem_mergeSort, List.mem_map] at ht
      obtain ⟨y, hy, rfl⟩ := ht
      obtain ⟨i, rfl, hi, hx⟩ := kids_in hy
      have h1 := nodeText_len (at' q i) (sortedT q d i) (by simpa [at'] using hg.name i hi)
      have := hT i
      omega
    rw [hfin]
    rintro _ rfl _ rfl
    simp only [decide_eq_true_eq, decide_eq_false_iff_not]
    refine ⟨fun h0 => ?_, fun h0 => ⟨by omega, ?_⟩⟩
    · have : out = [] := List.eq_nil_of_length_eq_zero (by omega)
      simp [this, joinTexts]
    · rintro _ rfl
      exact joinLoop (Z := fun y => y = joinTexts out) (by omega) (by omega) hbb rfl
abbrev l12Step_pre (p : Proc) (s : AmbStep) : Prop := Poss p s
noncomputable abbrev l12Step (p : Proc) (s : AmbStep) : Proc := canonG (stepP p s)
def l12Step_wp (p : Proc) (s : AmbStep) (Z : Proc → Prop) : Prop :=
  (0 ≤ s.cap ∧ s.cap < p.length) ∧ ∀ x7 : AmbNode, x7 = at' p s.cap → (0 ≤ s.place ∧ s.place < p.length) ∧ ∀ x10 : AmbNode, x10 = at' p s.place → loopW (σ := Int × (List Int)) (fun (i28, l29) K34 => ∀ len35 : Int, len35 = (p.length : Int) → ∀ c37 : Bool, c37 = decide (i28 < len35) → ((c37 = true → (0 ≤ i28 ∧ i28 < p.length) ∧ ∀ x40 : AmbNode, x40 = at' p i28 → joinW (fun (J42 : Bool → Prop) => ∀ c78 : Bool, c78 = decide (x40.parent = s.cap) → ((c78 = true → J42 (true)) ∧ (c78 = false → ∀ c80 : Bool, c80 = decide (s.kind = 3) → ((c80 = true → ∀ c82 : Bool, c82 = decide (x40.parent = s.place) → J42 (c82)) ∧ (c80 = false → J42 (false)))))) (fun b45 => ((b45 = true → (l29.length + 1 ≤ 1073741824) ∧ ∀ l51 : List Int, l51 = l29 ++ [x7.parent] → (I64 (i28 + 1)) ∧ ∀ v62 : Int, v62 = i28 + 1 → K34 (v62, l51)) ∧ (b45 = false → (l29.length + 1 ≤ 1073741824) ∧ ∀ l65 : List Int, l65 = l29 ++ [x40.parent] → (I64 (i28 + 1)) ∧ ∀ v76 : Int, v76 = i28 + 1 → K34 (v76, l65))))) ∧ (c37 = false → ∀ c84 : Bool, c84 = decide (s.kind = 1) → ((c84 = true → (0 ≤ x7.parent ∧ x7.parent < l29.length) ∧ ∀ x91 : Int, x91 = at' l29 x7.parent → ∀ l94 : List Int, l94 = l29.set x7.parent.toNat s.place → (0 ≤ s.cap ∧ s.cap < l94.length) ∧ ∀ x106 : Int, x106 = at' l94 s.cap → ∀ l109 : List Int, l109 = l94.set s.cap.toNat s.cap → (l12Text_pre p l109 (-1)) ∧ ∀ r117 : Str, r117 = l12Text p l109 (-1) → (r117.length ≤ 4294967296) ∧ ∀ r119 : Proc × Bool, r119 = parse r117 → Z r119.1) ∧ (c84 = false → ∀ c124 : Bool, c124 = decide (s.kind = 2) → ((c124 = true → (0 ≤ x7.parent ∧ x7.parent < l29.length) ∧ ∀ x131 : Int, x131 = at' l29 x7.parent → ∀ l134 : List Int, l134 = l29.set x7.parent.toNat x10.parent → (0 ≤ s.cap ∧ s.cap < l134.length) ∧ ∀ x146 : Int, x146 = at' l134 s.cap → ∀ l149 : List Int, l149 = l134.set s.cap.toNat s.cap → (l12Text_pre p l149 (-1)) ∧ ∀ r157 : Str, r157 = l12Text p l149 (-1) → (r157.length ≤ 4294967296) ∧ ∀ r159 : Proc × Bool, r159 = parse r157 → Z r159.1) ∧ (c124 = false → (0 ≤ s.place ∧ s.place < l29.length) ∧ ∀ x169 : Int, x169 = at' l29 s.place → ∀ l172 : List Int, l172 = l29.set s.place.toNat s.place → (0 ≤ s.cap ∧ s.cap < l172.length) ∧ ∀ x184 : Int, x184 = at' l172 s.cap → ∀ l187 : List Int, l187 = l172.set s.cap.toNat s.cap → (l12Text_pre p l187 (-1)) ∧ ∀ r195 : Str, r195 = l12Text p l187 (-1) → (r195.length ≤ 4294967296) ∧ ∀ r197 : Proc × Bool, r197 = parse r195 → Z r197.1))))))) (0, ([] : List Int))
theorem l12Step_vc (p : Proc) (s : AmbStep) (h : l12Step_pre p s) : l12Step_wp p s (fun y => y = l12Step p s) := by
  have hp := h.valid
  have hp8 := hp.len
  have hn := h.n
  have hcap := h.cap
  unfold l12Step_wp
  refine ⟨h.cap, ?_⟩
  rintro _ rfl
  refine ⟨h.place, ?_⟩
  rintro _ rfl
  refine loopW.upL p.length (fun k out => out = lst k (baseQ p s)) [] rfl ?_
  rintro k out K hk rfl IH
  have hlk := lst_len k (baseQ p s)
  rintro _ rfl _ rfl
  simp only [decide_eq_true_eq, decide_eq_false_iff_not]
  refine ⟨fun hc => ⟨by omega, ?_⟩, fun hc => ?_⟩
  · rintro _ rfl
    refine ⟨fun b => b = decide ((at' p (k : Int)).parent = s.cap ∨ (s.kind = 3 ∧ (at' p (k : Int)).parent = s.place)), ?_, ?_⟩
    · simp only [forall_eq, decide_eq_true_eq, decide_eq_false_iff_not]
      exact ⟨fun a => by simp [a], fun a => ⟨fun b => by simp [a, b], fun b => by simp [a, b]⟩⟩
    · rintro _ rfl
      simp only [decide_eq_true_eq, decide_eq_false_iff_not]
      refine ⟨fun a => ⟨by omega, ?_⟩, fun a => ⟨by omega, ?_⟩⟩
      · rintro _ rfl
        refine ⟨by simp only [I64]; omega, ?_⟩
        rintro _ rfl
        exact IH (by omega) _ (by rw [lst_succ, baseQ, if_pos a])
      · rintro _ rfl
        refine ⟨by simp only [I64]; omega, ?_⟩
        rintro _ rfl
        exact IH (by omega) _ (by rw [lst_succ, baseQ, if_neg a])
  · have hke : k = p.length := by omega
    subst hke
    have fin : ∀ l : List Int, l = lst p.length (stepQ p s) → l12Text_pre p l (-1) ∧ ∀ r : Str, r = l12Text p l (-1) → (r.length ≤ 4294967296) ∧ ∀ r2 : Proc × Bool, r2 = parse r → r2.1 = l12Step p s := by
      rintro _ rfl
      refine ⟨⟨lst_len _ _, by omega, stepP_gp h⟩, ?_⟩
      rintro _ rfl
      refine ⟨sortedG_short (stepP_gp h) _, ?_⟩
      rintro _ rfl
      rfl
    rintro _ rfl
    simp only [decide_eq_true_eq, decide_eq_false_iff_not]
    refine ⟨fun e1 => ?_, fun e1 => ?_⟩
    · obtain ⟨i1, i2, i3⟩ := h.inn e1
      refine ⟨⟨i1, by rw [hlk]; show nP p s < _; omega⟩, ?_⟩
      rintro _ rfl _ rfl
      rw [lst_set _ i1]
      refine ⟨⟨h.cap.1, by rw [lst_len]; exact h.cap.2⟩, ?_⟩
      rintro _ rfl _ rfl
      rw [lst_set _ h.cap.1]
      refine fin _ (lst_congr fun i _ _ => ?_)
      simp [stepQ, e1]
    · rintro _ rfl
      simp only [decide_eq_true_eq, decide_eq_false_iff_not]
      refine ⟨fun e2 => ?_, fun e2 => ?_⟩
      · obtain ⟨i1, i2⟩ := h.out e2
        refine ⟨⟨i1, by rw [hlk]; show nP p s < _; omega⟩, ?_⟩
        rintro _ rfl _ rfl
        rw [lst_set _ i1]
        refine ⟨⟨h.cap.1, by rw [lst_len]; exact h.cap.2⟩, ?_⟩
        rintro _ rfl _ rfl
        rw [lst_set _ h.cap.1]
        refine fin _ (lst_congr fun i _ _ => ?_)
        simp [stepQ, e2]
      · refine ⟨⟨h.place.1, by rw [lst_len]; exact h.place.2⟩, ?_⟩
        rintro _ rfl _ rfl
        rw [lst_set _ h.place.1]
        refine ⟨⟨h.cap.1, by rw [lst_len]; exact h.cap.2⟩, ?_⟩
        rintro _ rfl _ rfl
        rw [lst_set _ h.cap.1]
        refine fin _ (lst_congr fun i _ _ => ?_)
        simp [stepQ, e1, e2]
end Go.Ab.Vg

/- MakeAmbStep (statement 18): the functions themselves, and the law. -/
namespace Go.Ab.Vg
set_option linter.unusedSimpArgs false
set_option linter.unusedVariables false
noncomputable def MakeAmbStep (p : Proc) (s : AmbStep) : Proc × Bool := if goodP p && possibleP p s then (result p s, true) else ([], false)
abbrev MakeAmbStep_pre (p : Proc) (_ : AmbStep) : Prop := procHuge p
def MakeAmbStep_wp (p : Proc) (s : AmbStep) (Z : (Proc × Bool) → Prop) : Prop :=
  joinW (fun (J6 : Bool → Prop) => (procHuge p) ∧ ∀ r35 : Bool, r35 = goodP p → ((r35 = true → (possible_pre p s) ∧ ∀ r37 : Bool, r37 = possible p s → J6 ((!r37))) ∧ (r35 = false → J6 (true)))) (fun b9 => ((b9 = true → Z ([], false)) ∧ (b9 = false → (result_pre p s) ∧ ∀ r17 : Proc, r17 = result p s → Z (r17, true))))
theorem MakeAmbStep_vc (p : Proc) (s : AmbStep) (h : MakeAmbStep_pre p s) : MakeAmbStep_wp p s (fun y => y = MakeAmbStep p s) := by
  unfold MakeAmbStep_wp
  refine ⟨fun b => b = !(goodP p && possibleP p s), ⟨h, ?_⟩, ?_⟩
  · simp only [forall_eq]
    refine ⟨fun h1 => ⟨goodP_valid h1, by rw [h1]; rfl⟩, fun h1 => by rw [h1]; rfl⟩
  · rintro _ rfl
    refine ⟨fun h1 => ?_, fun h1 => ?_⟩
    · rw [Bool.not_eq_true'] at h1
      rw [MakeAmbStep, h1]; rfl
    · rw [Bool.not_eq_false'] at h1
      have h2 := h1
      simp only [Bool.and_eq_true] at h2
      refine ⟨poss (goodP_valid h2.1) h2.2, ?_⟩
      rintro _ rfl
      rw [MakeAmbStep, h1]; rfl
noncomputable abbrev sMakeAmbStep (p : Proc) (s : AmbStep) : Proc × Bool := MakeAmbStep p s
abbrev sMakeAmbStep_pre (p : Proc) (_ : AmbStep) : Prop := procHuge p
def sMakeAmbStep_wp (p : Proc) (s : AmbStep) (Z : (Proc × Bool) → Prop) : Prop :=
  joinW (fun (J6 : Bool → Prop) => (procHuge p) ∧ ∀ r17 : Bool, r17 = goodP p → ((r17 = true → (sPossible_pre p s) ∧ ∀ r19 : Bool, r19 = sPossible p s → J6 ((!r19))) ∧ (r17 = false → J6 (true)))) (fun b9 => ((b9 = true → Z ([], false)) ∧ (b9 = false → (l12Step_pre p s) ∧ ∀ r14 : Proc, r14 = l12Step p s → Z (r14, true))))
theorem sMakeAmbStep_vc (p : Proc) (s : AmbStep) (h : sMakeAmbStep_pre p s) : sMakeAmbStep_wp p s (fun y => y = sMakeAmbStep p s) := by
  unfold sMakeAmbStep_wp
  refine ⟨fun b => b = !(goodP p && possibleP p s), ⟨h, ?_⟩, ?_⟩
  · simp only [forall_eq]
    refine ⟨fun h1 => ⟨goodP_valid h1, by rw [h1]; rfl⟩, fun h1 => by rw [h1]; rfl⟩
  · rintro _ rfl
    refine ⟨fun h1 => ?_, fun h1 => ?_⟩
    · rw [Bool.not_eq_true'] at h1
      rw [sMakeAmbStep, MakeAmbStep, h1]; rfl
    · rw [Bool.not_eq_false'] at h1
      have h2 := h1
      simp only [Bool.and_eq_true] at h2
      refine ⟨poss (goodP_valid h2.1) h2.2, ?_⟩
      rintro _ rfl
      rw [sMakeAmbStep, MakeAmbStep, h1]; rfl
abbrev toAmbStep (s : AmbStep) := s
def toAmbStep_wp (a : AmbStep) (Z : AmbStep → Prop) : Prop :=
  Z a
theorem toAmbStep_vc (s : AmbStep) : toAmbStep_wp s (fun y => y = toAmbStep s) := rfl
abbrev lawStep (_ : Proc) (_ : AmbStep) : Bool := true
abbrev lawStep_pre (p : Proc) (_ : AmbStep) : Prop := Small p
def lawStep_wp (aP : Proc) (aS : AmbStep) (Z : Bool → Prop) : Prop :=
  (((0 : Int) ≤ 1048576 ∧ (1048576 : Int) ≤ 1048576) ∧ Small aP) ∧ ∀ r6 : Int, r6 = szT aP 1048576 → ∀ c7 : Bool, c7 = decide (r6 < 0) → ((c7 = true → Z true) ∧ (c7 = false → (toProcess_pre aP) ∧ ∀ r11 : Proc, r11 = toProcess aP → ∀ r12 : AmbStep, r12 = toAmbStep aS → (sMakeAmbStep_pre r11 r12) ∧ ∀ r14 : Proc × Bool, r14 = sMakeAmbStep r11 r12 → (toProcess_pre aP) ∧ ∀ r23 : Proc, r23 = toProcess aP → ∀ r41 : AmbStep, r41 = toAmbStep aS → (MakeAmbStep_pre r23 r41) ∧ ∀ r43 : Proc × Bool, r43 = MakeAmbStep r23 r41 → joinW (fun (J61 : Bool → Prop) => (r43.1.length ≤ 1048576) ∧ ∀ r160 : Bool, r160 = decide (r43.1 = r14.1) → ((r160 = true → ∀ c161 : Bool, c161 = !(r43.2 == r14.2) → J61 (c161)) ∧ (r160 = false → J61 (true)))) (fun b64 => ((b64 = true → Z false) ∧ (b64 = false → (toProcess_pre aP) ∧ ∀ r70 : Proc, r70 = toProcess aP → (r23.length ≤ 1048576) ∧ ∀ r72 : Bool, r72 = decide (r23 = r70) → ((r72 = true → (markProcess_pre r23 1) ∧ ∀ r74 : Proc × Int, r74 = markProcess r23 1 → joinW (fun (J86 : Bool → Prop) => ∀ c153 : Bool, c153 = decide (r74.2 < 0) → ((c153 = true → J86 (true)) ∧ (c153 = false → (r43.1.length ≤ 1048576) ∧ ∀ r156 : Bool, r156 = decide (r43.1 = r14.1) → ((r156 = true → ∀ c157 : Bool, c157 = !(r43.2 == r14.2) → J86 (c157)) ∧ (r156 = false → J86 (true)))))) (fun b89 => ((b89 = true → Z false) ∧ (b89 = false → (markProcess_pre r43.1 1) ∧ ∀ r94 : Proc × Int, r94 = markProcess r43.1 1 → (heldProcess_pre r94.1 1) ∧ ∀ r107 : Int, r107 = heldProcess r94.1 1 → ∀ c108 : Bool, c108 = decide (r107 < 0) → ((c108 = true → Z false) ∧ (c108 = false → ∀ c110 : Bool, c110 = decide (r107 ≠ r94.2) → ((c110 = true → Z false) ∧ (c110 = false → (toProcess_pre aP) ∧ ∀ r115 : Proc, r115 = toProcess aP → ∀ r116 : AmbStep, r116 = toAmbStep aS → (MakeAmbStep_pre r115 r116) ∧ ∀ r118 : Proc × Bool, r118 = MakeAmbStep r115 r116 → joinW (fun (J136 : Bool → Prop) => (r118.1.length ≤ 1048576) ∧ ∀ r150 : Bool, r150 = decide (r118.1 = r14.1) → ((r150 = true → ∀ c151 : Bool, c151 = !(r118.2 == r14.2) → J136 (c151)) ∧ (r150 = false → J136 (true)))) (fun b139 => ((b139 = true → Z false) ∧ (b139 = false → (heldProcess_pre r94.1 1) ∧ ∀ r144 : Int, r144 = heldProcess r94.1 1 → ∀ c145 : Bool, c145 = decide (r144 < 0) → ((c145 = true → Z false) ∧ (c145 = false → ∀ c147 : Bool, c147 = decide (r144 ≠ r94.2) → ((c147 = true → Z false) ∧ (c147 = false → Z true))))))))))))))) ∧ (r72 = false → Z false)))))))
theorem step_len (p : Proc) (s : AmbStep) : (MakeAmbStep p s).1.length ≤ 8 := by
  unfold MakeAmbStep
  split
  · exact parse_short _
  · simp
theorem lawStep_vc (p : Proc) (s : AmbStep) (h : lawStep_pre p s) : lawStep_wp p s (fun y => y = lawStep p s) := by
  unfold lawStep_wp
  simp only [forall_eq, decide_eq_true_eq, decide_eq_false_iff_not, toProcess, toAmbStep, sMakeAmbStep]
  refine ⟨⟨by omega, h⟩, fun _ => trivial, fun h1 => ?_⟩
  have hp := huge_of h1 (by omega)
  have hT : toProcess_pre p := hp.1
  have hL := step_len p s
  refine ⟨hT, hp, hT, hp, fun c => c = false, ⟨by omega, fun _ => by simp, fun h => absurd trivial h⟩, ?_⟩
  rintro _ rfl
  have hk : (markProcess p 1).2 = 1 + 3 * p.length := rfl
  have hm : (markProcess (MakeAmbStep p s).1 1).2 = 1 + 3 * (MakeAmbStep p s).1.length := rfl
  have hml : (markProcess (MakeAmbStep p s).1 1).1.length = (MakeAmbStep p s).1.length := marked_len _ _ _ _
  have hh := heldP_mark (MakeAmbStep p s).1 1 (by omega)
  refine ⟨fun h => (by cases h), fun _ => ⟨hT, hp.1, fun _ => ⟨⟨by omega, by omega, by omega⟩, fun c => c = false, ⟨fun h => by omega, fun _ => ⟨by omega, fun _ => by simp, fun h => absurd trivial h⟩⟩, ?_⟩, fun h => absurd trivial h⟩⟩
  rintro _ rfl
  refine ⟨fun h => (by cases h), fun _ => ⟨⟨by omega, by omega, by omega⟩, ⟨by omega, by omega, by omega⟩, fun h => by omega, fun _ => ⟨fun h => absurd hh h, fun _ => ⟨hT, hp, fun c => c = false, ⟨by omega, fun _ => by simp, fun h => absurd trivial h⟩, ?_⟩⟩⟩⟩
  rintro _ rfl
  exact ⟨fun h => (by cases h), fun _ => ⟨⟨by omega, by omega, by omega⟩, fun h => by omega, fun _ => ⟨fun h => absurd hh h, fun _ => trivial⟩⟩⟩
end Go.Ab.Vg

/- Walks by program for YtkhhalniblpkcaaGreatDoorAbCo. -/
namespace Go.Ab.Vg
open Go.Proofs
set_option maxRecDepth 100000
set_option linter.unusedSimpArgs false
set_option linter.unusedVariables false
theorem e54 : Ent Tryz.prog 54 := Ent.of Tryz.func54 (by kernel_rfl) rfl
theorem kids_walk (p : Proc) (parent : Int) (Z : (List Int) → Prop) (h : kids_wp p parent Z) : OwnS Tryz.prog 54 [.agg [.list false (p.map AmbNode.cells)], int parent] (.s [.c]) (fun r => ∃ y : List Int, Z y ∧ r = .list true (y.map intC)) := by
  unfold kids_wp at h
  have sp : Sep noHeap 0 [] [] := Sep.nil (by simp)
  refine OwnS.of Tryz.func54 rfl Tryz.ntmps54 (by simp) fun Q hQ => ?_
  refine Runs.cut (fun ρ H n => ρ 0 = .agg [.list false (p.map AmbNode.cells)] ∧ ρ 1 = int parent ∧ Sep H n [] []) (by refine ⟨?_, ?_, sp⟩ <;> simp [AmbNode.cells, intC, strC]) ?_
  rintro ρ H n1 ⟨h0, h1, sp⟩
  refine Runs.seqE Ty_ok (by decide) fun k' hk' => ?_
  simp [h0, h1, AmbNode.cells, intC, strC]
  refine hk' _ _ _ ?_
  refine Runs.cut (fun ρ H n => ρ 1 = int parent ∧ ρ 2 = .ptr (n1, 2) 1 0 0 ∧ H (n1, 2) = some ⟨1, [[.list false (p.map AmbNode.cells)]]⟩ ∧ Sep H n [] [(n1, 2)]) (by refine ⟨?_, ?_, ?_, (Sep.var sp)⟩ <;> simp [h0, h1, AmbNode.cells, intC, strC]) ?_
  clear h0 h1
  rintro ρ H n3 ⟨h1, h2, m2_1, sp⟩
  refine Runs.seqE Ty_ok (by decide) fun k' hk' => ?_
  simp [h1, h2, m2_1, AmbNode.cells, intC, strC]
  refine hk' _ _ _ ?_
  refine Runs.cut (fun ρ H n => ∃ (v5 : AVal), ρ 1 = int parent ∧ ρ 2 = .ptr (n1, 2) 1 0 0 ∧ ρ 5 = v5 ∧ H (n1, 2) = some ⟨1, [[.list false (p.map AmbNode.cells)]]⟩ ∧ Sep H n [(.s [.c], v5, .list true (([] : List Int).map intC))] [(n1, 2)]) (by refine ⟨.arr (n3, 8) 0 0 0, ?_, ?_, ?_, ?_, (Sep.addEmpty (l := [.c]) sp)⟩ <;> simp [h1, h2, m2_1, AmbNode.cells, intC, strC]) ?_
  clear h1 h2 m2_1
  rintro ρ H n6 ⟨v5, h1, h2, h5, m2_1, sp⟩
  refine Runs.seq ?_
  refine Runs.seqE Ty_ok (by decide) fun k' hk' => ?_
  obtain ⟨len7, elen7⟩ : ∃ v : Int, v = (p.length : Int) := ⟨_, rfl⟩
  replace h := h len7 elen7
  have f8 := fun H => len_list (H := H) (fr := false) (f := AmbNode.cells) kd_26 elen7
  simp [h1, h2, h5, m2_1, f8, AmbNode.cells, intC, strC, -lenF]
  refine hk' _ _ _ ?_
  refine Runs.block ?_
  refine Runs.loopW h (fun (s : Int × (List Int)) ρ H n => match s with | (v16, l17) => ∃ (v18 : AVal), ρ 1 = int parent ∧ ρ 5 = v18 ∧ ρ 10 = .list false (p.map AmbNode.cells) ∧ ρ 11 = int len7 ∧ ρ 12 = int v16 ∧ Sep H n [(.s [.c], v18, .list true (l17.map intC))] []) (by refine ⟨v5, ?_, ?_, ?_, ?_, ?_, (Sep.sub sp (by simp +contextual))⟩ <;> simp [h1, h2, h5, m2_1, AmbNode.cells, intC, strC]) ?_
  clear h1 h2 h5 m2_1
  rintro ⟨v16, l17⟩ ρ H n19 K h ⟨v18, h1, h5, h10, h11, h12, sp⟩ IH20
  refine Runs.seqE Ty_ok (by decide) fun k' hk' => ?_
  obtain ⟨c22, ec22⟩ : ∃ v : Bool, v = decide (v16 < len7) := ⟨_, rfl⟩
  replace h := h c22 ec22
  have f23 := ib_lss (k := .i64) ec22
  simp [h1, h5, h10, h11, h12, f23, AmbNode.cells, intC, strC, -intBin]
  refine hk' _ _ _ ?_
  refine Runs.seq ?_
  refine Runs.ite (b := c22) (by simp [h1, h5, h10, h11, h12, AmbNode.cells, intC, strC]) (fun dc22 => ?_) (fun dc22 => ?_)
  · replace h := h.1 dc22
    refine Runs.skip ?_
    refine Runs.seq ?_
    refine Runs.block ?_
    refine Runs.seqE Ty_ok (by decide) fun k' hk' => ?_
    obtain ⟨hb24, h⟩ := h
    obtain ⟨x25, ex25⟩ : ∃ v : AmbNode, v = at' p v16 := ⟨_, rfl⟩
    replace h := h x25 ex25
    have f26 := fun H => ix_list (H := H) (fr := false) (f := AmbNode.cells) (k := .i64) kd_26 (fun _ => rfl) hb24 ex25
    simp [h1, h5, h10, h11, h12, f26, dc22, AmbNode.cells, intC, strC, -indexAddrF]
    refine hk' _ _ _ ?_
    refine Runs.cut (fun ρ H n => ∃ (v28 : AVal), ρ 1 = int parent ∧ ρ 5 = v28 ∧ ρ 6 = int v16 ∧ ρ 7 = .ptr (n19, 7) 1 0 0 ∧ ρ 10 = .list false (p.map AmbNode.cells) ∧ ρ 11 = int len7 ∧ ρ 12 = int v16 ∧ H (n19, 7) = some ⟨3, [[int x25.kind, str x25.name, int x25.parent]]⟩ ∧ Sep H n [(.s [.c], v28, .list true (l17.map intC))] [(n19, 7)]) (by refine ⟨v18, ?_, ?_, ?_, ?_, ?_, ?_, ?_, ?_, (Sep.var sp)⟩ <;> simp [h1, h5, h10, h11, h12, f26, dc22, AmbNode.cells, intC, strC, -indexAddrF]) ?_
    clear h1 h5 h10 h11 h12
    rintro ρ H n29 ⟨v28, h1, h5, h6, h7, h10, h11, h12, m7_26, sp⟩
    refine Runs.seqE Ty_ok (by decide) fun k' hk' => ?_
    obtain ⟨c30, ec30⟩ : ∃ v : Bool, v = decide (x25.parent = parent) := ⟨_, rfl⟩
    replace h := h c30 ec30
    have f31 := ib_eql (k := .i64) ec30
    simp [h1, h5, h6, h7, h10, h11, h12, m7_26, f31, dc22, AmbNode.cells, intC, strC, -intBin]
    refine hk' _ _ _ ?_
    refine Runs.ite (b := c30) (by simp [h1, h5, h6, h7, h10, h11, h12, m7_26, dc22, AmbNode.cells, intC, strC]) (fun dc30 => ?_) (fun dc30 => ?_)
    · replace h := h.1 dc30
      refine Runs.evalE Ty_ok (by decide) fun k' hk' => ?_
      obtain ⟨hb32, h⟩ := h
      obtain ⟨l33, el33⟩ : ∃ v : List Int, v = l17 ++ [v16] := ⟨_, rfl⟩
      replace h := h l33 el33
      simp [h1, h5, h6, h7, h10, h11, h12, m7_26, dc22, dc30, AmbNode.cells, intC, strC, -appendF]
      refine bind_append [] [] [[int v16]] [intC v16] sp kd_71 (by simp) (by simp) (by simp [AmbNode.cells, intC, strC]) (by simp [-one1, o1_int, o1_bool, o1_str, o1_nil, o1_list, o1_arr, o1_ptr]) (rows_one (Fill.v _ Fill.nil)) (by simp) (by simpa using hb32) ?_
      rintro v34 H35 n36 sp hfr37 hle38
      replace sp : Sep H35 n36 [(.s [.c], v34, .list true (l33.map intC))] [(n19, 7)] := by rw [el33, List.map_append]; exact sp
      have m7_26 : H35 (n19, 7) = some ⟨3, [[int x25.kind, str x25.name, int x25.parent]]⟩ := (hfr37 _ (by simp)).trans (by simp [h1, h5, h6, h7, h10, h11, h12, m7_26, Heap.get_set])
      simp [h1, h5, h6, h7, h10, h11, h12, m7_26, dc22, dc30, AmbNode.cells, intC, strC]
      refine hk' _ _ _ ?_
      refine Runs.cut (fun ρ H n => ∃ (v40 : AVal), ρ 1 = int parent ∧ ρ 5 = v40 ∧ ρ 10 = .list false (p.map AmbNode.cells) ∧ ρ 11 = int len7 ∧ ρ 12 = int v16 ∧ Sep H n [(.s [.c], v40, .list true (l33.map intC))] []) (by refine ⟨v34, ?_, ?_, ?_, ?_, ?_, (Sep.sub sp (by simp +contextual))⟩ <;> simp [h1, h5, h6, h7, h10, h11, h12, m7_26, dc22, dc30, AmbNode.cells, intC, strC]) ?_
      clear h1 h5 h6 h7 h10 h11 h12 m7_26
      rintro ρ H n41 ⟨v40, h1, h5, h10, h11, h12, sp⟩
      refine Runs.inBlock ?_
      refine Runs.evalE Ty_ok (by decide) fun k' hk' => ?_
      obtain ⟨hb42, h⟩ := h
      obtain ⟨v43, ev43⟩ : ∃ v : Int, v = v16 + 1 := ⟨_, rfl⟩
      replace h := h v43 ev43
      have f44 := ib_add hb42 ev43
      simp [h1, h5, h10, h11, h12, f44, dc22, dc30, AmbNode.cells, intC, strC, -intBin]
      refine hk' _ _ _ ?_
      refine IH20 (v43, l33) _ _ _ h (by refine ⟨v40, ?_, ?_, ?_, ?_, ?_, sp⟩ <;> simp [h1, h5, h10, h11, h12, dc22, dc30, AmbNode.cells, intC, strC])
    · replace h := h.2 dc30
      refine Runs.skip ?_
      refine Runs.inBlock ?_
      refine Runs.evalE Ty_ok (by decide) fun k' hk' => ?_
      obtain ⟨hb45, h⟩ := h
      obtain ⟨v46, ev46⟩ : ∃ v : Int, v = v16 + 1 := ⟨_, rfl⟩
      replace h := h v46 ev46
      have f47 := ib_add hb45 ev46
      simp [h1, h5, h6, h7, h10, h11, h12, m7_26, f47, dc22, dc30, AmbNode.cells, intC, strC, -intBin]
      refine hk' _ _ _ ?_
      refine IH20 (v46, l17) _ _ _ h (by refine ⟨v28, ?_, ?_, ?_, ?_, ?_, (Sep.sub sp (by simp +contextual))⟩ <;> simp [h1, h5, h6, h7, h10, h11, h12, m7_26, dc22, dc30, AmbNode.cells, intC, strC])
  · replace h := h.2 dc22
    refine Runs.exit rfl ?_
    refine Runs.seqE Ty_ok (by decide) fun k' hk' => ?_
    simp [h1, h5, h10, h11, h12, dc22, AmbNode.cells, intC, strC]
    refine hk' _ _ _ ?_
    exact Runs.ret1 (v := v18) Tryz.func54 Tryz.results54 (by simp [h1, h5, h10, h11, h12, dc22, AmbNode.cells, intC, strC]) (hQ _ _ _ _ (Sep.sub (ids' := []) sp (by simp)) ⟨l17, h, rfl⟩)

theorem kids_ok (p : Proc) (parent : Int) (hp : kids_pre p parent) : OwnS Tryz.prog 54 [.agg [.list false (p.map AmbNode.cells)], int parent] (.s [.c]) (fun r => r = .list true ((kids p parent).map intC)) := (kids_walk p parent _ (kids_vc p parent hp)).mono (by rintro _ ⟨_, rfl, rfl⟩; rfl)

theorem e65 : Ent Tryz.prog 65 := Ent.of Tryz.func65 (by kernel_rfl) rfl

theorem sortStr_ok (l : List Str) (h : l.length ≤ 1073741824) : MutS Tryz.prog 65 (fun v => [v]) (.s [.c]) (.list true (l.map strC)) (fun e r => e = .list true ((sortT l).1.map strC) ∧ r = .tup []) := MutS.sort (by omega) (fun blk off cap w hH hb => Tryz.slices_Sort_string blk off cap l w hH hb (by omega)) (fun w => (Tryz.slices_Sort_string_none none 0 w).mono (by rintro e w' ⟨h1, h2⟩; exact ⟨h1, h2 ▸ Go.RowKit.Below.refl _ _⟩))

theorem e45 : Ent Tryz.prog 45 := Ent.of Tryz.func45 (by kernel_rfl) rfl
theorem sortedIn_walk (p : Proc) (parent : Int) (Z : Str → Prop) (ih : ∀ pr parentr, sortedIn_pre pr parentr → sortedIn_ms pr parentr < sortedIn_ms p parent → PureC Tryz.prog 45 [.agg [.list false (pr.map AmbNode.cells)], int parentr] (fun r => r = str (sortedIn pr parentr))) (h : sortedIn_wp p parent Z) : PureC Tryz.prog 45 [.agg [.list false (p.map AmbNode.cells)], int parent] (fun r => ∃ y : Str, Z y ∧ r = str y) := by
  unfold sortedIn_wp at h
  have sp : Sep noHeap 0 [] [] := Sep.nil (by simp)
  refine PureC.of Tryz.func45 rfl Tryz.ntmps45 (by simp) fun Q hQ => ?_
  refine Runs.cut (fun ρ H n => ρ 0 = .agg [.list false (p.map AmbNode.cells)] ∧ ρ 1 = int parent ∧ Sep H n [] []) (by refine ⟨?_, ?_, sp⟩ <;> simp [AmbNode.cells, intC, strC]) ?_
  rintro ρ H n1 ⟨h0, h1, sp⟩
  refine Runs.seqE Ty_ok (by decide) fun k' hk' => ?_
  simp [h0, h1, AmbNode.cells, intC, strC]
  refine hk' _ _ _ ?_
  refine Runs.cut (fun ρ H n => ρ 1 = int parent ∧ ρ 2 = .ptr (n1, 2) 1 0 0 ∧ H (n1, 2) = some ⟨1, [[.list false (p.map AmbNode.cells)]]⟩ ∧ Sep H n [] [(n1, 2)]) (by refine ⟨?_, ?_, ?_, (Sep.var sp)⟩ <;> simp [h0, h1, AmbNode.cells, intC, strC]) ?_
  clear h0 h1
  rintro ρ H n3 ⟨h1, h2, m2_1, sp⟩
  refine Runs.seqE Ty_ok (by decide) fun k' hk' => ?_
  simp [h1, h2, m2_1, AmbNode.cells, intC, strC]
  refine hk' _ _ _ ?_
  refine Runs.cut (fun ρ H n => ∃ (v5 : AVal), ρ 1 = int parent ∧ ρ 2 = .ptr (n1, 2) 1 0 0 ∧ ρ 5 = v5 ∧ H (n1, 2) = some ⟨1, [[.list false (p.map AmbNode.cells)]]⟩ ∧ Sep H n [(.s [.c], v5, .list true (([] : List Str).map strC))] [(n1, 2)]) (by refine ⟨.arr (n3, 8) 0 0 0, ?_, ?_, ?_, ?_, (Sep.addEmpty (l := [.c]) sp)⟩ <;> simp [h1, h2, m2_1, AmbNode.cells, intC, strC]) ?_
  clear h1 h2 m2_1
  rintro ρ H n6 ⟨v5, h1, h2, h5, m2_1, sp⟩
  refine Runs.seq ?_
  refine Runs.seqE Ty_ok (by decide) fun k' hk' => ?_
  obtain ⟨hb7, h⟩ := h
  obtain ⟨r8, er8⟩ : ∃ v : List Int, v = kids p parent := ⟨_, rfl⟩
  replace h := h r8 er8
  simp [h1, h2, h5, m2_1, AmbNode.cells, intC, strC]
  refine RunK.callW Ty_ok (kids_ok p parent hb7) e54 (.cons (ArgOk.agg (.cons (ArgOk.listF (fr := false) (els := p.map AmbNode.cells) (by simp [AmbNode.cells, intC, strC, intC])) .nil)) (.cons (.v _ _ _) .nil)) sp (by decide) (by decide) rfl (by simp [h1, h2, h5, m2_1, AmbNode.cells, intC, strC]) ?_
  rintro v9 H10 n11 _ sp rfl hle13 hfr12
  rw [← er8] at sp
  have m2_1 : H10 (n1, 2) = some ⟨1, [[.list false (p.map AmbNode.cells)]]⟩ := (hfr12 _ (by simp)).trans (by simp [h1, h2, h5, m2_1, Heap.get_set])
  obtain ⟨len16, elen16⟩ : ∃ v : Int, v = (r8.length : Int) := ⟨_, rfl⟩
  replace h := h len16 elen16
  have f17 := len_own (Sep.len (m := len16) sp kd_71 (by rw [elen16, List.length_map]))
  simp [h1, h2, h5, m2_1, f17, AmbNode.cells, intC, strC, -lenF]
  refine hk' _ _ _ ?_
  refine Runs.cut (fun ρ H n => ∃ (v18 : AVal) (v19 : AVal), ρ 2 = .ptr (n1, 2) 1 0 0 ∧ ρ 5 = v19 ∧ ρ 11 = v18 ∧ ρ 12 = int len16 ∧ ρ 13 = int 0 ∧ H (n1, 2) = some ⟨1, [[.list false (p.map AmbNode.cells)]]⟩ ∧ Sep H n [(.s [.c], v18, .list true (r8.map intC)), (.s [.c], v19, .list true (([] : List Str).map strC))] [(n1, 2)]) (by refine ⟨v9, v5, ?_, ?_, ?_, ?_, ?_, ?_, (Sep.front (K1 := [(.s [.c], v5, .list true (([] : List Str).map strC))]) (K2 := []) (Sep.front (K1 := [(.s [.c], v9, .list true (r8.map intC))]) (K2 := []) sp))⟩ <;> simp [h1, h2, h5, m2_1, f17, AmbNode.cells, intC, strC, -lenF]) ?_
  clear h1 h2 h5 m2_1
  rintro ρ H n20 ⟨v18, v19, h2, h5, h11, h12, h13, m2_1, sp⟩
  refine Runs.block ?_
  refine Runs.loopW h (fun (s : Int × (List Str)) ρ H n => match s with | (v30, l31) => ∃ (v32 : AVal) (v33 : AVal), ρ 2 = .ptr (n1, 2) 1 0 0 ∧ ρ 5 = v33 ∧ ρ 11 = v32 ∧ ρ 12 = int len16 ∧ ρ 13 = int v30 ∧ H (n1, 2) = some ⟨1, [[.list false (p.map AmbNode.cells)]]⟩ ∧ Sep H n [(.s [.c], v32, .list true (r8.map intC)), (.s [.c], v33, .list true (l31.map strC))] [(n1, 2)]) (by refine ⟨v18, v19, ?_, ?_, ?_, ?_, ?_, ?_, (Sep.front (K1 := [(.s [.c], v19, .list true (([] : List Str).map strC))]) (K2 := []) (Sep.front (K1 := [(.s [.c], v18, .list true (r8.map intC))]) (K2 := []) sp))⟩ <;> simp [h2, h5, h11, h12, h13, m2_1, AmbNode.cells, intC, strC]) ?_
  clear h2 h5 h11 h12 h13 m2_1
  rintro ⟨v30, l31⟩ ρ H n34 K h ⟨v32, v33, h2, h5, h11, h12, h13, m2_1, sp⟩ IH35
  refine Runs.seqE Ty_ok (by decide) fun k' hk' => ?_
  obtain ⟨c37, ec37⟩ : ∃ v : Bool, v = decide (v30 < len16) := ⟨_, rfl⟩
  replace h := h c37 ec37
  have f38 := ib_lss (k := .i64) ec37
  simp [h2, h5, h11, h12, h13, m2_1, f38, AmbNode.cells, intC, strC, -intBin]
  refine hk' _ _ _ ?_
  refine Runs.seq ?_
  refine Runs.ite (b := c37) (by simp [h2, h5, h11, h12, h13, m2_1, AmbNode.cells, intC, strC]) (fun dc37 => ?_) (fun dc37 => ?_)
  · replace h := h.1 dc37
    refine Runs.skip ?_
    refine Runs.seq ?_
    refine Runs.block ?_
    refine Runs.seqE Ty_ok (by decide) fun k' hk' => ?_
    obtain ⟨hb39, h⟩ := h
    obtain ⟨id40, hv, mo41, ln42, ni43⟩ := Sep.openF sp (by simp) hb39
    subst hv
    simp at ni43
    obtain ⟨x44, ex44⟩ : ∃ v : Int, v = at' r8 v30 := ⟨_, rfl⟩
    replace h := h x44 ex44
    have f45 := fun H (hm : H id40 = some ⟨1, r8.map intC⟩) => ix_arr (H := H) (k := .i64) (off := 0) (len := r8.length) (g := r8.length) kd_71 hm (by simp) rfl hb39
    have f46 := at_some (q := v30.toNat) hb39 ex44 rfl
    simp [h2, h5, h11, h12, h13, m2_1, mo41, ni43, f45, f46, dc37, AmbNode.cells, intC, strC, -indexAddrF]
    refine hk' _ _ _ ?_
    refine Runs.evalDE Ty_ok kindOp_ok draws (by decide) (by kernel_rfl) fun k' hk' => ?_
    obtain ⟨hb47, h⟩ := h
    obtain ⟨x48, ex48⟩ : ∃ v : AmbNode, v = at' p x44 := ⟨_, rfl⟩
    replace h := h x48 ex48
    have f49 := fun H => ix_list (H := H) (fr := false) (f := AmbNode.cells) (k := .i64) kd_26 (fun _ => rfl) hb47 ex48
    obtain ⟨hb50, h⟩ := h
    obtain ⟨r51, er51⟩ : ∃ v : Str, v = sortedIn p x44 := ⟨_, rfl⟩
    replace h := h r51 er51
    simp [h2, h5, h11, h12, h13, m2_1, mo41, ni43, f49, dc37, AmbNode.cells, intC, strC, -indexAddrF]
    refine RunDK.callA Ty_ok kindOp_ok (ih p x44 hb50.1 hb50.2) e45 (.cons (ArgOk.agg (.cons (ArgOk.listF (fr := false) (els := p.map AmbNode.cells) (by simp [AmbNode.cells, intC, strC, intC])) .nil)) (.cons (.v _ _ _) .nil)) (by decide) rfl (by simp [h2, h5, h11, h12, h13, m2_1, mo41, ni43, f49, dc37, AmbNode.cells, intC, strC, -indexAddrF]) ?_
    rw [← er51]
    obtain ⟨hb52, h⟩ := h
    obtain ⟨r53, er53⟩ : ∃ v : Str, v = nodeText x48 r51 := ⟨_, rfl⟩
    replace h := h r53 er53
    simp [h2, h5, h11, h12, h13, m2_1, mo41, ni43, f49, dc37, AmbNode.cells, intC, strC, -indexAddrF]
    refine RunDK.callA Ty_ok kindOp_ok (nodeText_ok x48 r51 hb52.1 hb52.2.1 hb52.2.2) e64 (.cons (ArgOk.agg (.cons (.v _ _ _) (.cons (.v _ _ _) (.cons (.v _ _ _) .nil)))) (.cons (.v _ _ _) .nil)) (by decide) rfl (by simp [h2, h5, h11, h12, h13, m2_1, mo41, ni43, f49, dc37, AmbNode.cells, intC, strC, -indexAddrF]) ?_
    rw [← er53]
    obtain ⟨hb54, h⟩ := h
    obtain ⟨l55, el55⟩ : ∃ v : List Str, v = l31 ++ [r53] := ⟨_, rfl⟩
    replace h := h l55 el55
    simp [h2, h5, h11, h12, h13, m2_1, mo41, ni43, f49, dc37, AmbNode.cells, intC, strC, -indexAddrF, -appendF]
    refine bindD_append [] [(.s [.c], .arr id40 r8.length 0 r8.length, .list true (r8.map intC))] [[str r53]] [strC r53] (Sep.front (K1 := [(.s [.c], .arr id40 r8.length 0 r8.length, .list true (r8.map intC))]) (K2 := []) sp) kd_57 (by simp) (by simp) (by simp [AmbNode.cells, intC, strC]) (by simp [-one1, o1_int, o1_bool, o1_str, o1_nil, o1_list, o1_arr, o1_ptr]) (rows_one (Fill.v _ Fill.nil)) (by simp) (by simpa using hb54) ?_
    rintro v56 H57 n58 sp hfr59 hle60
    replace sp : Sep H57 n58 [(.s [.c], v56, .list true (l55.map strC)), (.s [.c], .arr id40 r8.length 0 r8.length, .list true (r8.map intC))] [(n1, 2)] := by rw [el55, List.map_append]; exact sp
    have m2_1 : H57 (n1, 2) = some ⟨1, [[.list false (p.map AmbNode.cells)]]⟩ := (hfr59 _ (by simp)).trans (by simp [h2, h5, h11, h12, h13, m2_1, mo41, ni43, Heap.get_set])
    simp [h2, h5, h11, h12, h13, m2_1, ni43, f49, dc37, AmbNode.cells, intC, strC, -indexAddrF]
    refine hk' _ _ _ ?_
    refine Runs.cut (fun ρ H n => ∃ (v62 : AVal) (v63 : AVal), ρ 2 = .ptr (n1, 2) 1 0 0 ∧ ρ 5 = v62 ∧ ρ 11 = v63 ∧ ρ 12 = int len16 ∧ ρ 13 = int v30 ∧ H (n1, 2) = some ⟨1, [[.list false (p.map AmbNode.cells)]]⟩ ∧ Sep H n [(.s [.c], v62, .list true (l55.map strC)), (.s [.c], v63, .list true (r8.map intC))] [(n1, 2)]) (by refine ⟨v56, .arr id40 r8.length 0 r8.length, ?_, ?_, ?_, ?_, ?_, ?_, (Sep.front (K1 := [(.s [.c], .arr id40 r8.length 0 r8.length, .list true (r8.map intC))]) (K2 := []) (Sep.front (K1 := [(.s [.c], v56, .list true (l55.map strC))]) (K2 := []) sp))⟩ <;> simp [h2, h5, h11, h12, h13, m2_1, ni43, f49, dc37, AmbNode.cells, intC, strC, -indexAddrF]) ?_
    clear h2 h5 h11 h12 h13 m2_1 ni43
    rintro ρ H n64 ⟨v62, v63, h2, h5, h11, h12, h13, m2_1, sp⟩
    refine Runs.inBlock ?_
    refine Runs.evalE Ty_ok (by decide) fun k' hk' => ?_
    obtain ⟨hb65, h⟩ := h
    obtain ⟨v66, ev66⟩ : ∃ v : Int, v = v30 + 1 := ⟨_, rfl⟩
    replace h := h v66 ev66
    have f67 := ib_add hb65 ev66
    simp [h2, h5, h11, h12, h13, m2_1, f67, dc37, AmbNode.cells, intC, strC, -intBin]
    refine hk' _ _ _ ?_
    refine IH35 (v66, l55) _ _ _ h (by refine ⟨v63, v62, ?_, ?_, ?_, ?_, ?_, ?_, (Sep.front (K1 := [(.s [.c], v62, .list true (l55.map strC))]) (K2 := []) sp)⟩ <;> simp [h2, h5, h11, h12, h13, m2_1, dc37, AmbNode.cells, intC, strC])
  · replace h := h.2 dc37
    refine Runs.exit rfl ?_
    refine Runs.seqE Ty_ok (by decide) fun k' hk' => ?_
    obtain ⟨hb68, h⟩ := h
    obtain ⟨r69, er69⟩ : ∃ v : (List Str) × Unit, v = sortT l31 := ⟨_, rfl⟩
    replace h := h r69 er69
    have f70 := cell_own (Sep.cells (Sep.front (K1 := [(.s [.c], v32, .list true (r8.map intC))]) (K2 := []) sp))
    have f71 := cell_own (Sep.one1 (Sep.front (K1 := [(.s [.c], v32, .list true (r8.map intC))]) (K2 := []) sp))
    simp [h2, h5, h11, h12, h13, m2_1, f70, f71, dc37, AmbNode.cells, intC, strC, -cellsA, -one1, cA_int, cA_bool, cA_str, cA_nil, cA_agg, cA_list, cA_arr, cA_ptr, o1_int, o1_bool, o1_str, o1_nil, o1_list, o1_arr, o1_ptr]
    refine RunK.callM (v := v33) Ty_ok (sortStr_ok l31 hb68) e65 (Sep.front (K1 := [(.s [.c], v32, .list true (r8.map intC))]) (K2 := []) sp) (by decide) (by decide) rfl (by simp [h2, h5, h11, h12, h13, m2_1, f70, f71, dc37, AmbNode.cells, intC, strC, -cellsA, -one1, cA_int, cA_bool, cA_str, cA_nil, cA_agg, cA_list, cA_arr, cA_ptr, o1_int, o1_bool, o1_str, o1_nil, o1_list, o1_arr, o1_ptr]) ?_
    rintro _ H72 n73 _ ⟨rfl, rfl⟩ sp hle75 hfr74
    rw [← er69] at sp
    replace sp : Sep H72 n73 [(.s [.c], v33, .list true (r69.1.map strC)), (.s [.c], v32, .list true (r8.map intC))] [(n1, 2)] := sp
    have m2_1 : H72 (n1, 2) = some ⟨1, [[.list false (p.map AmbNode.cells)]]⟩ := (hfr74 _ (by simp)).trans (by simp [h2, h5, h11, h12, h13, m2_1, Heap.get_set])
    simp [h2, h5, h11, h12, h13, m2_1, f70, f71, dc37, AmbNode.cells, intC, strC, -cellsA, -one1, cA_int, cA_bool, cA_str, cA_nil, cA_agg, cA_list, cA_arr, cA_ptr, o1_int, o1_bool, o1_str, o1_nil, o1_list, o1_arr, o1_ptr]
    refine hk' _ _ _ ?_
    refine Runs.cut (fun ρ H n => ∃ (v77 : AVal), ρ 5 = v77 ∧ Sep H n [(.s [.c], v77, .list true (r69.1.map strC))] []) (by refine ⟨v33, ?_, (Sep.sub (Sep.right (K1 := [(.s [.c], v32, .list true (r8.map intC))]) (K2 := [(.s [.c], v33, .list true (r69.1.map strC))]) (Sep.front (K1 := [(.s [.c], v33, .list true (r69.1.map strC))]) (K2 := []) sp)) (by simp +contextual))⟩ <;> simp [h2, h5, h11, h12, h13, m2_1, f70, f71, dc37, AmbNode.cells, intC, strC, -cellsA, -one1, cA_int, cA_bool, cA_str, cA_nil, cA_agg, cA_list, cA_arr, cA_ptr, o1_int, o1_bool, o1_str, o1_nil, o1_list, o1_arr, o1_ptr]) ?_
    clear h2 h5 h11 h12 h13 m2_1
    rintro ρ H n78 ⟨v77, h5, sp⟩
    refine Runs.seqE Ty_ok (by decide) fun k' hk' => ?_
    obtain ⟨hb79, h⟩ := h
    obtain ⟨r80, er80⟩ : ∃ v : Str, v = joinTexts r69.1 := ⟨_, rfl⟩
    replace h := h r80 er80
    simp [h5, dc37, AmbNode.cells, intC, strC]
    refine RunK.callA Ty_ok (joinTexts_ok r69.1 hb79.1 hb79.2) e66 (.cons (Sep.argOk' sp (old_listF (by simp [strC]))) .nil) (by decide) (by decide) rfl (by simp [h5, dc37, AmbNode.cells, intC, strC]) ?_
    rintro _ rfl
    rw [← er80]
    simp [h5, dc37, AmbNode.cells, intC, strC]
    refine hk' _ _ _ ?_
    exact Runs.ret1 (v := str r80) Tryz.func45 Tryz.results45 (by simp [h5, dc37, AmbNode.cells, intC, strC]) (hQ _ _ _ _ (.of (.v _)) ⟨r80, h, rfl⟩)

theorem sortedIn_okm (m : Nat) : ∀ (p : Proc) (parent : Int), sortedIn_ms p parent = m → sortedIn_pre p parent → PureC Tryz.prog 45 [.agg [.list false (p.map AmbNode.cells)], int parent] (fun r => r = str (sortedIn p parent)) := by
  induction m using Nat.strongRecOn with
  | _ m ih =>
    rintro p parent rfl hp
    exact (sortedIn_walk p parent _ (fun pr parentr hp' hl => ih _ hl pr parentr rfl hp') (sortedIn_vc p parent hp)).mono (by rintro _ ⟨_, rfl, rfl⟩; rfl)
theorem sortedIn_ok (p : Proc) (parent : Int) (hp : sortedIn_pre p parent) : PureC Tryz.prog 45 [.agg [.list false (p.map AmbNode.cells)], int parent] (fun r => r = str (sortedIn p parent)) := sortedIn_okm _ p parent rfl hp

theorem e68 : Ent Tryz.prog 68 := Ent.of Tryz.func68 (by kernel_rfl) rfl
theorem l12Kids_walk (p : Proc) (parent : Int) (Z : (List Int) → Prop) (h : l12Kids_wp p parent Z) : OwnS Tryz.prog 68 [.agg [.list false (p.map AmbNode.cells)], int parent] (.s [.c]) (fun r => ∃ y : List Int, Z y ∧ r = .list true (y.map intC)) := by
  unfold l12Kids_wp at h
  have sp : Sep noHeap 0 [] [] := Sep.nil (by simp)
  refine OwnS.of Tryz.func68 rfl Tryz.ntmps68 (by simp) fun Q hQ => ?_
  refine Runs.cut (fun ρ H n => ρ 0 = .agg [.list false (p.map AmbNode.cells)] ∧ ρ 1 = int parent ∧ Sep H n [] []) (by refine ⟨?_, ?_, sp⟩ <;> simp [AmbNode.cells, intC, strC]) ?_
  rintro ρ H n1 ⟨h0, h1, sp⟩
  refine Runs.seqE Ty_ok (by decide) fun k' hk' => ?_
  simp [h0, h1, AmbNode.cells, intC, strC]
  refine hk' _ _ _ ?_
  refine Runs.cut (fun ρ H n => ρ 1 = int parent ∧ ρ 2 = .ptr (n1, 2) 1 0 0 ∧ H (n1, 2) = some ⟨1, [[.list false (p.map AmbNode.cells)]]⟩ ∧ Sep H n [] [(n1, 2)]) (by refine ⟨?_, ?_, ?_, (Sep.var sp)⟩ <;> simp [h0, h1, AmbNode.cells, intC, strC]) ?_
  clear h0 h1
  rintro ρ H n3 ⟨h1, h2, m2_1, sp⟩
  refine Runs.seqE Ty_ok (by decide) fun k' hk' => ?_
  simp [h1, h2, m2_1, AmbNode.cells, intC, strC]
  refine hk' _ _ _ ?_
  refine Runs.cut (fun ρ H n => ∃ (v5 : AVal), ρ 1 = int parent ∧ ρ 2 = .ptr (n1, 2) 1 0 0 ∧ ρ 5 = v5 ∧ H (n1, 2) = some ⟨1, [[.list false (p.map AmbNode.cells)]]⟩ ∧ Sep H n [(.s [.c], v5, .list true (([] : List Int).map intC))] [(n1, 2)]) (by refine ⟨.arr (n3, 7) 0 0 0, ?_, ?_, ?_, ?_, (Sep.addEmpty (l := [.c]) sp)⟩ <;> simp [h1, h2, m2_1, AmbNode.cells, intC, strC]) ?_
  clear h1 h2 m2_1
  rintro ρ H n6 ⟨v5, h1, h2, h5, m2_1, sp⟩
  refine Runs.seq ?_
  refine Runs.seqE Ty_ok (by decide) fun k' hk' => ?_
  simp [h1, h2, h5, m2_1, AmbNode.cells, intC, strC]
  refine hk' _ _ _ ?_
  refine Runs.block ?_
  refine Runs.loopW h (fun (s : Int × (List Int)) ρ H n => match s with | (i14, l15) => ∃ (v16 : AVal), ρ 1 = int parent ∧ ρ 2 = .ptr (n1, 2) 1 0 0 ∧ ρ 5 = v16 ∧ ρ 6 = int i14 ∧ H (n1, 2) = some ⟨1, [[.list false (p.map AmbNode.cells)]]⟩ ∧ Sep H n [(.s [.c], v16, .list true (l15.map intC))] [(n1, 2)]) (by refine ⟨v5, ?_, ?_, ?_, ?_, ?_, sp⟩ <;> simp [h1, h2, h5, m2_1, AmbNode.cells, intC, strC]) ?_
  clear h1 h2 h5 m2_1
  rintro ⟨i14, l15⟩ ρ H n17 K h ⟨v16, h1, h2, h5, h6, m2_1, sp⟩ IH18
  refine Runs.seq ?_
  refine Runs.seqE Ty_ok (by decide) fun k' hk' => ?_
  obtain ⟨len20, elen20⟩ : ∃ v : Int, v = (p.length : Int) := ⟨_, rfl⟩
  replace h := h len20 elen20
  have f21 := fun H => len_list (H := H) (fr := false) (f := AmbNode.cells) kd_26 elen20
  obtain ⟨c22, ec22⟩ : ∃ v : Bool, v = decide (i14 < len20) := ⟨_, rfl⟩
  replace h := h c22 ec22
  have f23 := ib_lss (k := .i64) ec22
  simp [h1, h2, h5, h6, m2_1, f21, f23, AmbNode.cells, intC, strC, -intBin, -lenF]
  refine hk' _ _ _ ?_
  refine Runs.ite (b := c22) (by simp [h1, h2, h5, h6, m2_1, AmbNode.cells, intC, strC]) (fun dc22 => ?_) (fun dc22 => ?_)
  · replace h := h.1 dc22
    refine Runs.skip ?_
    refine Runs.seq ?_
    refine Runs.block ?_
    refine Runs.seqE Ty_ok (by decide) fun k' hk' => ?_
    obtain ⟨hb24, h⟩ := h
    obtain ⟨x25, ex25⟩ : ∃ v : AmbNode, v = at' p i14 := ⟨_, rfl⟩
    replace h := h x25 ex25
    have f26 := fun H => ix_list (H := H) (fr := false) (f := AmbNode.cells) (k := .i64) kd_26 (fun _ => rfl) hb24 ex25
    obtain ⟨c27, ec27⟩ : ∃ v : Bool, v = decide (x25.parent = parent) := ⟨_, rfl⟩
    replace h := h c27 ec27
    have f28 := ib_eql (k := .i64) ec27
    simp [h1, h2, h5, h6, m2_1, f26, f28, dc22, AmbNode.cells, intC, strC, -indexAddrF, -intBin]
    refine hk' _ _ _ ?_
    refine Runs.ite (b := c27) (by simp [h1, h2, h5, h6, m2_1, dc22, AmbNode.cells, intC, strC]) (fun dc27 => ?_) (fun dc27 => ?_)
    · replace h := h.1 dc27
      refine Runs.evalE Ty_ok (by decide) fun k' hk' => ?_
      obtain ⟨hb29, h⟩ := h
      obtain ⟨l30, el30⟩ : ∃ v : List Int, v = l15 ++ [i14] := ⟨_, rfl⟩
      replace h := h l30 el30
      simp [h1, h2, h5, h6, m2_1, dc22, dc27, AmbNode.cells, intC, strC, -appendF]
      refine bind_append [] [] [[int i14]] [intC i14] sp kd_71 (by simp) (by simp) (by simp [AmbNode.cells, intC, strC]) (by simp [-one1, o1_int, o1_bool, o1_str, o1_nil, o1_list, o1_arr, o1_ptr]) (rows_one (Fill.v _ Fill.nil)) (by simp) (by simpa using hb29) ?_
      rintro v31 H32 n33 sp hfr34 hle35
      replace sp : Sep H32 n33 [(.s [.c], v31, .list true (l30.map intC))] [(n1, 2)] := by rw [el30, List.map_append]; exact sp
      have m2_1 : H32 (n1, 2) = some ⟨1, [[.list false (p.map AmbNode.cells)]]⟩ := (hfr34 _ (by simp)).trans (by simp [h1, h2, h5, h6, m2_1, Heap.get_set])
      simp [h1, h2, h5, h6, m2_1, dc22, dc27, AmbNode.cells, intC, strC]
      refine hk' _ _ _ ?_
      refine Runs.cut (fun ρ H n => ∃ (v37 : AVal), ρ 1 = int parent ∧ ρ 2 = .ptr (n1, 2) 1 0 0 ∧ ρ 5 = v37 ∧ ρ 6 = int i14 ∧ H (n1, 2) = some ⟨1, [[.list false (p.map AmbNode.cells)]]⟩ ∧ Sep H n [(.s [.c], v37, .list true (l30.map intC))] [(n1, 2)]) (by refine ⟨v31, ?_, ?_, ?_, ?_, ?_, sp⟩ <;> simp [h1, h2, h5, h6, m2_1, dc22, dc27, AmbNode.cells, intC, strC]) ?_
      clear h1 h2 h5 h6 m2_1
      rintro ρ H n38 ⟨v37, h1, h2, h5, h6, m2_1, sp⟩
      refine Runs.inBlock ?_
      refine Runs.evalE Ty_ok (by decide) fun k' hk' => ?_
      obtain ⟨hb39, h⟩ := h
      obtain ⟨v40, ev40⟩ : ∃ v : Int, v = i14 + 1 := ⟨_, rfl⟩
      replace h := h v40 ev40
      have f41 := ib_add hb39 ev40
      simp [h1, h2, h5, h6, m2_1, f41, dc22, dc27, AmbNode.cells, intC, strC, -intBin]
      refine hk' _ _ _ ?_
      refine IH18 (v40, l30) _ _ _ h (by refine ⟨v37, ?_, ?_, ?_, ?_, ?_, sp⟩ <;> simp [h1, h2, h5, h6, m2_1, dc22, dc27, AmbNode.cells, intC, strC])
    · replace h := h.2 dc27
      refine Runs.skip ?_
      refine Runs.inBlock ?_
      refine Runs.evalE Ty_ok (by decide) fun k' hk' => ?_
      obtain ⟨hb42, h⟩ := h
      obtain ⟨v43, ev43⟩ : ∃ v : Int, v = i14 + 1 := ⟨_, rfl⟩
      replace h := h v43 ev43
      have f44 := ib_add hb42 ev43
      simp [h1, h2, h5, h6, m2_1, f44, dc22, dc27, AmbNode.cells, intC, strC, -intBin]
      refine hk' _ _ _ ?_
      refine Runs.cut (fun ρ H n => ∃ (v45 : AVal), ρ 1 = int parent ∧ ρ 2 = .ptr (n1, 2) 1 0 0 ∧ ρ 5 = v45 ∧ ρ 6 = int v43 ∧ H (n1, 2) = some ⟨1, [[.list false (p.map AmbNode.cells)]]⟩ ∧ Sep H n [(.s [.c], v45, .list true (l15.map intC))] [(n1, 2)]) (by refine ⟨v16, ?_, ?_, ?_, ?_, ?_, sp⟩ <;> simp [h1, h2, h5, h6, m2_1, f44, dc22, dc27, AmbNode.cells, intC, strC, -intBin]) ?_
      clear h1 h2 h5 h6 m2_1
      rintro ρ H n46 ⟨v45, h1, h2, h5, h6, m2_1, sp⟩
      refine IH18 (v43, l15) _ _ _ h (by refine ⟨v45, ?_, ?_, ?_, ?_, ?_, sp⟩ <;> simp [h1, h2, h5, h6, m2_1, dc22, dc27, AmbNode.cells, intC, strC])
  · replace h := h.2 dc22
    refine Runs.exit rfl ?_
    refine Runs.seqE Ty_ok (by decide) fun k' hk' => ?_
    simp [h1, h2, h5, h6, m2_1, dc22, AmbNode.cells, intC, strC]
    refine hk' _ _ _ ?_
    exact Runs.ret1 (v := v16) Tryz.func68 Tryz.results68 (by simp [h1, h2, h5, h6, m2_1, dc22, AmbNode.cells, intC, strC]) (hQ _ _ _ _ (Sep.sub (ids' := []) sp (by simp)) ⟨l15, h, rfl⟩)

theorem l12Kids_ok (p : Proc) (parent : Int) (hp : l12Kids_pre p parent) : OwnS Tryz.prog 68 [.agg [.list false (p.map AmbNode.cells)], int parent] (.s [.c]) (fun r => r = .list true ((l12Kids p parent).map intC)) := (l12Kids_walk p parent _ (l12Kids_vc p parent hp)).mono (by rintro _ ⟨_, rfl, rfl⟩; rfl)
end Go.Ab.Vg

/- Walks by program for YtkhhalniblpkcaaGreatDoorAbCp. -/
namespace Go.Ab.Vg
open Go.Proofs
set_option maxRecDepth 100000
set_option linter.unusedSimpArgs false
set_option linter.unusedVariables false
theorem e41 : Ent Tryz.prog 41 := Ent.of Tryz.func41 (by kernel_rfl) rfl

theorem e62 : Ent Tryz.prog 62 := Ent.of Tryz.func62 (by kernel_rfl) rfl
theorem l12Sorted_walk (p : Proc) (parent : Int) (Z : (List Str) → Prop) (h : l12Sorted_wp p parent Z) : OwnS Tryz.prog 62 [.agg [.list false (p.map AmbNode.cells)], int parent] (.s [.c]) (fun r => ∃ y : List Str, Z y ∧ r = .list true (y.map strC)) := by
  unfold l12Sorted_wp at h
  have sp : Sep noHeap 0 [] [] := Sep.nil (by simp)
  refine OwnS.of Tryz.func62 rfl Tryz.ntmps62 (by simp) fun Q hQ => ?_
  refine Runs.cut (fun ρ H n => ρ 0 = .agg [.list false (p.map AmbNode.cells)] ∧ ρ 1 = int parent ∧ Sep H n [] []) (by refine ⟨?_, ?_, sp⟩ <;> simp [AmbNode.cells, intC, strC]) ?_
  rintro ρ H n1 ⟨h0, h1, sp⟩
  refine Runs.seqE Ty_ok (by decide) fun k' hk' => ?_
  simp [h0, h1, AmbNode.cells, intC, strC]
  refine hk' _ _ _ ?_
  refine Runs.cut (fun ρ H n => ρ 1 = int parent ∧ ρ 2 = .ptr (n1, 2) 1 0 0 ∧ H (n1, 2) = some ⟨1, [[.list false (p.map AmbNode.cells)]]⟩ ∧ Sep H n [] [(n1, 2)]) (by refine ⟨?_, ?_, ?_, (Sep.var sp)⟩ <;> simp [h0, h1, AmbNode.cells, intC, strC]) ?_
  clear h0 h1
  rintro ρ H n3 ⟨h1, h2, m2_1, sp⟩
  refine Runs.seqE Ty_ok (by decide) fun k' hk' => ?_
  obtain ⟨hb4, h⟩ := h
  obtain ⟨r5, er5⟩ : ∃ v : List Int, v = l12Kids p parent := ⟨_, rfl⟩
  replace h := h r5 er5
  simp [h1, h2, m2_1, AmbNode.cells, intC, strC]
  refine RunK.callW Ty_ok (l12Kids_ok p parent hb4) e68 (.cons (ArgOk.agg (.cons (ArgOk.listF (fr := false) (els := p.map AmbNode.cells) (by simp [AmbNode.cells, intC, strC, intC])) .nil)) (.cons (.v _ _ _) .nil)) sp (by decide) (by decide) rfl (by simp [h1, h2, m2_1, AmbNode.cells, intC, strC]) ?_
  rintro v6 H7 n8 _ sp rfl hle10 hfr9
  rw [← er5] at sp
  have m2_1 : H7 (n1, 2) = some ⟨1, [[.list false (p.map AmbNode.cells)]]⟩ := (hfr9 _ (by simp)).trans (by simp [h1, h2, m2_1, Heap.get_set])
  simp [h1, h2, m2_1, AmbNode.cells, intC, strC]
  refine hk' _ _ _ ?_
  refine Runs.cut (fun ρ H n => ∃ (v14 : AVal) (v15 : AVal), ρ 2 = .ptr (n1, 2) 1 0 0 ∧ ρ 5 = v15 ∧ ρ 6 = v14 ∧ H (n1, 2) = some ⟨1, [[.list false (p.map AmbNode.cells)]]⟩ ∧ Sep H n [(.s [.c], v14, .list true (([] : List Str).map strC)), (.s [.c], v15, .list true (r5.map intC))] [(n1, 2)]) (by refine ⟨.arr (n8, 13) 0 0 0, v6, ?_, ?_, ?_, ?_, (Sep.front (K1 := [(.s [.c], v6, .list true (r5.map intC))]) (K2 := []) (Sep.front (K1 := [(.s [.c], .arr (n8, 13) 0 0 0, .list true (([] : List Str).map strC))]) (K2 := []) (Sep.addEmpty (l := [.c]) sp)))⟩ <;> simp [h1, h2, m2_1, AmbNode.cells, intC, strC]) ?_
  clear h1 h2 m2_1
  rintro ρ H n16 ⟨v14, v15, h2, h5, h6, m2_1, sp⟩
  refine Runs.seq ?_
  refine Runs.seqE Ty_ok (by decide) fun k' hk' => ?_
  simp [h2, h5, h6, m2_1, AmbNode.cells, intC, strC]
  refine hk' _ _ _ ?_
  refine Runs.block ?_
  refine Runs.loopW h (fun (s : Int × (List Str)) ρ H n => match s with | (i26, l27) => ∃ (v28 : AVal) (v29 : AVal), ρ 2 = .ptr (n1, 2) 1 0 0 ∧ ρ 5 = v29 ∧ ρ 6 = v28 ∧ ρ 7 = int i26 ∧ H (n1, 2) = some ⟨1, [[.list false (p.map AmbNode.cells)]]⟩ ∧ Sep H n [(.s [.c], v28, .list true (l27.map strC)), (.s [.c], v29, .list true (r5.map intC))] [(n1, 2)]) (by refine ⟨v14, v15, ?_, ?_, ?_, ?_, ?_, (Sep.front (K1 := [(.s [.c], v15, .list true (r5.map intC))]) (K2 := []) (Sep.front (K1 := [(.s [.c], v14, .list true (([] : List Str).map strC))]) (K2 := []) sp))⟩ <;> simp [h2, h5, h6, m2_1, AmbNode.cells, intC, strC]) ?_
  clear h2 h5 h6 m2_1
  rintro ⟨i26, l27⟩ ρ H n30 K h ⟨v28, v29, h2, h5, h6, h7, m2_1, sp⟩ IH31
  refine Runs.seq ?_
  refine Runs.seqE Ty_ok (by decide) fun k' hk' => ?_
  obtain ⟨len33, elen33⟩ : ∃ v : Int, v = (r5.length : Int) := ⟨_, rfl⟩
  replace h := h len33 elen33
  have f34 := len_own (Sep.len (m := len33) (Sep.front (K1 := [(.s [.c], v28, .list true (l27.map strC))]) (K2 := []) sp) kd_71 (by rw [elen33, List.length_map]))
  obtain ⟨c35, ec35⟩ : ∃ v : Bool, v = decide (i26 < len33) := ⟨_, rfl⟩
  replace h := h c35 ec35
  have f36 := ib_lss (k := .i64) ec35
  simp [h2, h5, h6, h7, m2_1, f34, f36, AmbNode.cells, intC, strC, -intBin, -lenF]
  refine hk' _ _ _ ?_
  refine Runs.ite (b := c35) (by simp [h2, h5, h6, h7, m2_1, AmbNode.cells, intC, strC]) (fun dc35 => ?_) (fun dc35 => ?_)
  · replace h := h.1 dc35
    refine Runs.skip ?_
    refine Runs.seq ?_
    refine Runs.block ?_
    refine Runs.seqD Ty_ok kindOp_ok draws (by decide) (by kernel_rfl) fun k' hk' => ?_
    obtain ⟨hb37, h⟩ := h
    obtain ⟨id38, hv, mo39, ln40, ni41⟩ := Sep.openF (Sep.front (K1 := [(.s [.c], v28, .list true (l27.map strC))]) (K2 := []) sp) (by simp) hb37
    subst hv
    simp at ni41
    obtain ⟨x42, ex42⟩ : ∃ v : Int, v = at' r5 i26 := ⟨_, rfl⟩
    replace h := h x42 ex42
    have f43 := fun H (hm : H id38 = some ⟨1, r5.map intC⟩) => ix_arr (H := H) (k := .i64) (off := 0) (len := r5.length) (g := r5.length) kd_71 hm (by simp) rfl hb37
    have f44 := at_some (q := i26.toNat) hb37 ex42 rfl
    obtain ⟨hb45, h⟩ := h
    obtain ⟨x46, ex46⟩ : ∃ v : AmbNode, v = at' p x42 := ⟨_, rfl⟩
    replace h := h x46 ex46
    have f47 := fun H => ix_list (H := H) (fr := false) (f := AmbNode.cells) (k := .i64) kd_26 (fun _ => rfl) hb45 ex46
    obtain ⟨hb48, h⟩ := h
    obtain ⟨x49, ex49⟩ : ∃ v : Int, v = at' r5 i26 := ⟨_, rfl⟩
    replace h := h x49 ex49
    have hq50 := ex42.trans ex49.symm
    subst hq50
    have f51 := fun H (hm : H id38 = some ⟨1, r5.map intC⟩) => ix_arr (H := H) (k := .i64) (off := 0) (len := r5.length) (g := r5.length) kd_71 hm (by simp) rfl hb48
    have f52 := at_some (q := i26.toNat) hb48 ex42 rfl
    obtain ⟨hb53, h⟩ := h
    obtain ⟨r54, er54⟩ : ∃ v : Str, v = l12Best p x42 := ⟨_, rfl⟩
    replace h := h r54 er54
    simp [h2, h5, h6, h7, m2_1, mo39, ni41, f43, f44, f47, f51, f52, dc35, AmbNode.cells, intC, strC, -indexAddrF]
    refine RunDK.callA Ty_ok kindOp_ok (hb53) e41 (.cons (ArgOk.agg (.cons (ArgOk.listF (fr := false) (els := p.map AmbNode.cells) (by simp [AmbNode.cells, intC, strC, intC])) .nil)) (.cons (.v _ _ _) .nil)) (by decide) rfl (by simp [h2, h5, h6, h7, m2_1, mo39, ni41, f43, f44, f47, f51, f52, dc35, AmbNode.cells, intC, strC, -indexAddrF]) ?_
    rw [← er54]
    obtain ⟨hb55, h⟩ := h
    obtain ⟨r56, er56⟩ : ∃ v : Str, v = nodeText x46 r54 := ⟨_, rfl⟩
    replace h := h r56 er56
    simp [h2, h5, h6, h7, m2_1, mo39, ni41, f43, f44, f47, f51, f52, dc35, AmbNode.cells, intC, strC, -indexAddrF]
    refine RunDK.callA Ty_ok kindOp_ok (l12Around_ok x46 r54 hb55.1 hb55.2.1 hb55.2.2) e67 (.cons (ArgOk.agg (.cons (.v _ _ _) (.cons (.v _ _ _) (.cons (.v _ _ _) .nil)))) (.cons (.v _ _ _) .nil)) (by decide) rfl (by simp [h2, h5, h6, h7, m2_1, mo39, ni41, f43, f44, f47, f51, f52, dc35, AmbNode.cells, intC, strC, -indexAddrF]) ?_
    rw [← er56]
    simp [h2, h5, h6, h7, m2_1, mo39, ni41, f43, f44, f47, f51, f52, dc35, AmbNode.cells, intC, strC, -indexAddrF]
    refine hk' _ _ _ ?_
    refine Runs.cut (fun ρ H n => ∃ (v57 : AVal) (v58 : AVal), ρ 2 = .ptr (n1, 2) 1 0 0 ∧ ρ 5 = v58 ∧ ρ 6 = v57 ∧ ρ 7 = int i26 ∧ ρ 8 = str r56 ∧ ρ 9 = int 0 ∧ H (n1, 2) = some ⟨1, [[.list false (p.map AmbNode.cells)]]⟩ ∧ Sep H n [(.s [.c], v57, .list true (l27.map strC)), (.s [.c], v58, .list true (r5.map intC))] [(n1, 2)]) (by refine ⟨v28, .arr id38 r5.length 0 r5.length, ?_, ?_, ?_, ?_, ?_, ?_, ?_, (Sep.front (K1 := [(.s [.c], .arr id38 r5.length 0 r5.length, .list true (r5.map intC))]) (K2 := []) (Sep.front (K1 := [(.s [.c], v28, .list true (l27.map strC))]) (K2 := []) sp))⟩ <;> simp [h2, h5, h6, h7, m2_1, mo39, ni41, f43, f44, f47, f51, f52, dc35, AmbNode.cells, intC, strC, -indexAddrF]) ?_
    clear h2 h5 h6 h7 m2_1 mo39 ni41
    rintro ρ H n59 ⟨v57, v58, h2, h5, h6, h7, h8, h9, m2_1, sp⟩
    refine Runs.seq ?_
    refine Runs.block ?_
    refine Runs.loopW h (fun (s : Int) ρ H n => match s with | k64 => ∃ (v65 : AVal) (v66 : AVal), ρ 2 = .ptr (n1, 2) 1 0 0 ∧ ρ 5 = v66 ∧ ρ 6 = v65 ∧ ρ 7 = int i26 ∧ ρ 8 = str r56 ∧ ρ 9 = int k64 ∧ H (n1, 2) = some ⟨1, [[.list false (p.map AmbNode.cells)]]⟩ ∧ Sep H n [(.s [.c], v65, .list true (l27.map strC)), (.s [.c], v66, .list true (r5.map intC))] [(n1, 2)]) (by refine ⟨v57, v58, ?_, ?_, ?_, ?_, ?_, ?_, ?_, (Sep.front (K1 := [(.s [.c], v58, .list true (r5.map intC))]) (K2 := []) (Sep.front (K1 := [(.s [.c], v57, .list true (l27.map strC))]) (K2 := []) sp))⟩ <;> simp [h2, h5, h6, h7, h8, h9, m2_1, dc35, AmbNode.cells, intC, strC]) ?_
    clear h2 h5 h6 h7 h8 h9 m2_1
    rintro k64 ρ H n67 K h ⟨v65, v66, h2, h5, h6, h7, h8, h9, m2_1, sp⟩ IH68
    refine Runs.seq ?_
    refine Runs.seqE Ty_ok (by decide) fun k' hk' => ?_
    obtain ⟨J70, hJ71, hr72⟩ := h
    have fin76 : ∀ (s : Bool) (ρ : Env) (H : Heap) (n : Nat), J70 s → (match s with | b73 => ∃ (v74 : AVal) (v75 : AVal), ρ 2 = .ptr (n1, 2) 1 0 0 ∧ ρ 5 = v75 ∧ ρ 6 = v74 ∧ ρ 7 = int i26 ∧ ρ 8 = str r56 ∧ ρ 9 = int k64 ∧ ρ 46 = bool b73 ∧ H (n1, 2) = some ⟨1, [[.list false (p.map AmbNode.cells)]]⟩ ∧ Sep H n [(.s [.c], v74, .list true (l27.map strC)), (.s [.c], v75, .list true (r5.map intC))] [(n1, 2)]) → Runs Tryz.prog 62 62 k' ρ H n Q := by
      rintro b73 ρ H n77 h ⟨v74, v75, h2, h5, h6, h7, h8, h9, h46, m2_1, sp⟩
      replace h := hr72 _ h
      refine hk' _ _ _ ?_
      refine Runs.ite (b := b73) (by simp [h2, h5, h6, h7, h8, h9, h46, m2_1, dc35, AmbNode.cells, intC, strC]) (fun db73 => ?_) (fun db73 => ?_)
      · replace h := h.1 db73
        refine Runs.skip ?_
        refine Runs.block ?_
        refine Runs.evalE Ty_ok (by decide) fun k' hk' => ?_
        obtain ⟨hb78, h⟩ := h
        obtain ⟨v79, ev79⟩ : ∃ v : Int, v = k64 + 1 := ⟨_, rfl⟩
        replace h := h v79 ev79
        have f80 := ib_add hb78 ev79
        simp [h2, h5, h6, h7, h8, h9, h46, m2_1, f80, dc35, db73, AmbNode.cells, intC, strC, -intBin]
        refine hk' _ _ _ ?_
        refine Runs.inBlock ?_
        refine IH68 (v79) _ _ _ h (by refine ⟨v74, v75, ?_, ?_, ?_, ?_, ?_, ?_, ?_, (Sep.front (K1 := [(.s [.c], v75, .list true (r5.map intC))]) (K2 := []) (Sep.front (K1 := [(.s [.c], v74, .list true (l27.map strC))]) (K2 := []) sp))⟩ <;> simp [h2, h5, h6, h7, h8, h9, h46, m2_1, dc35, db73, AmbNode.cells, intC, strC])
      · replace h := h.2 db73
        refine Runs.exit rfl ?_
        have hA81 := Sep.at sp (by simp)
        refine Runs.evalVE Ty_ok (watchOf v74) draws (by decide) (by kernel_rfl) fun k' hk' => ?_
        simp [h2, h5, h6, h7, h8, h9, h46, m2_1, dc35, db73, AmbNode.cells, intC, strC]
        have hA83 := (watch_set (d := 49) (o' := ⟨1, []⟩) hA81).1
        refine bindV_new (watch_set hA81).2 (by simp) ?_
        obtain ⟨hb84, h⟩ := h
        obtain ⟨l85, el85⟩ : ∃ v : List Str, v = (l27.take k64.toNat).drop 0 := ⟨_, rfl⟩
        replace h := h l85 el85
        simp [h2, h5, h6, h7, h8, h9, h46, m2_1, dc35, db73, AmbNode.cells, intC, strC, -sliceF]
        refine bindV_view (g := strC) (xs := l27) 0 k64 (fun _ h => h) (by simp [h2, h5, h6, h7, h8, h9, h46, m2_1, dc35, db73, AmbNode.cells, intC, strC]) (Sep.front (K1 := [(.s [.c], .arr (n77, 49) 0 0 0, .list true (([] : List Str).map strC))]) (K2 := [(.s [.c], v75, .list true (r5.map intC))]) (Sep.addEmpty (l := [.c]) sp)) (by simp) kd_57 (by simp) (by simp [boundOf]) (by simp [boundOf]) hb84 ?_
        rintro w86 hw87
        replace hw87 := hw87.trans (show _ = some (l85.map strC) by simp [el85])
        obtain ⟨hb88, h⟩ := h
        obtain ⟨l89, el89⟩ : ∃ v : List Str, v = ([] : List Str) ++ l85 := ⟨_, rfl⟩
        replace h := h l89 el89
        simp [h2, h5, h6, h7, h8, h9, h46, m2_1, dc35, db73, AmbNode.cells, intC, strC, -appendF]
        refine bindV_append0 (l85.map strC) (by simp) (Sep.addEmpty (l := [.c]) sp) (by simp) kd_57 (by simp) (by simp) hw87 (by simp [-one1, o1_int, o1_bool, o1_str, o1_nil, o1_list, o1_arr, o1_ptr, flat, AmbNode.cells, intC, strC]) (by simpa using hb88) ?_
        rintro v90 H91 n92 sp hfr93 hle94
        replace sp : Sep H91 n92 [(.s [.c], v90, .list true (l89.map strC)), (.s [.c], v74, .list true (l27.map strC)), (.s [.c], v75, .list true (r5.map intC))] [(n1, 2)] := by rw [el89, List.map_append]; exact sp
        have hA95 := Sep.at (Sep.front (K1 := [(.s [.c], v90, .list true (l89.map strC))]) (K2 := [(.s [.c], v75, .list true (r5.map intC))]) sp) (by simp)
        refine ⟨fun i hi => ((hA95 i hi).1).trans ((hA83 i hi).1).symm, ?_⟩
        have m2_1 : H91 (n1, 2) = some ⟨1, [[.list false (p.map AmbNode.cells)]]⟩ := (hfr93 _ (by simp)).trans (by simp [h2, h5, h6, h7, h8, h9, h46, m2_1, Heap.get_set])
        obtain ⟨hb97, h⟩ := h
        obtain ⟨l98, el98⟩ : ∃ v : List Str, v = l89 ++ [r56] := ⟨_, rfl⟩
        replace h := h l98 el98
        simp [h2, h5, h6, h7, h8, h9, h46, m2_1, dc35, db73, AmbNode.cells, intC, strC, -appendF]
        refine bindV_append [] [(.s [.c], v74, .list true (l27.map strC)), (.s [.c], v75, .list true (r5.map intC))] [[str r56]] [strC r56] (by simp) sp kd_57 (by simp) (by simp) (by simp [AmbNode.cells, intC, strC]) (by simp [-one1, o1_int, o1_bool, o1_str, o1_nil, o1_list, o1_arr, o1_ptr]) (rows_one (Fill.v _ Fill.nil)) (by simp) (by simpa using hb97) ?_
        rintro v99 H100 n101 sp hfr102 hle103
        replace sp : Sep H100 n101 [(.s [.c], v99, .list true (l98.map strC)), (.s [.c], v74, .list true (l27.map strC)), (.s [.c], v75, .list true (r5.map intC))] [(n1, 2)] := by rw [el98, List.map_append]; exact sp
        have hA104 := Sep.at (Sep.front (K1 := [(.s [.c], v99, .list true (l98.map strC))]) (K2 := [(.s [.c], v75, .list true (r5.map intC))]) sp) (by simp)
        refine ⟨fun i hi => ((hA104 i hi).1).trans ((hA95 i hi).1).symm, ?_⟩
        have m2_1 : H100 (n1, 2) = some ⟨1, [[.list false (p.map AmbNode.cells)]]⟩ := (hfr102 _ (by simp)).trans (by simp [h2, h5, h6, h7, h8, h9, h46, m2_1, Heap.get_set])
        obtain ⟨hb106, h⟩ := h
        obtain ⟨l107, el107⟩ : ∃ v : List Str, v = (l27.take (l27.length : Int).toNat).drop k64.toNat := ⟨_, rfl⟩
        replace h := h l107 el107
        simp [h2, h5, h6, h7, h8, h9, h46, m2_1, dc35, db73, AmbNode.cells, intC, strC, -sliceF]
        refine bindV_view (g := strC) (xs := l27) k64 (l27.length : Int) (fun _ h => h) (by simp [h2, h5, h6, h7, h8, h9, h46, m2_1, dc35, db73, AmbNode.cells, intC, strC]) (Sep.front (K1 := [(.s [.c], v99, .list true (l98.map strC))]) (K2 := [(.s [.c], v75, .list true (r5.map intC))]) sp) (by simp) kd_57 (by simp) (by simp [boundOf]) (by simp [boundOf]) hb106 ?_
        rintro w108 hw109
        replace hw109 := hw109.trans (show _ = some (l107.map strC) by simp [el107])
        obtain ⟨hb110, h⟩ := h
        obtain ⟨l111, el111⟩ : ∃ v : List Str, v = l98 ++ l107 := ⟨_, rfl⟩
        replace h := h l111 el111
        simp [h2, h5, h6, h7, h8, h9, h46, m2_1, dc35, db73, AmbNode.cells, intC, strC, -appendF]
        refine bindV_append0 (l107.map strC) (by simp) sp (by simp) kd_57 (by simp) (by simp) hw109 (by simp [-one1, o1_int, o1_bool, o1_str, o1_nil, o1_list, o1_arr, o1_ptr, flat, AmbNode.cells, intC, strC]) (by simpa using hb110) ?_
        rintro v112 H113 n114 sp hfr115 hle116
        replace sp : Sep H113 n114 [(.s [.c], v112, .list true (l111.map strC)), (.s [.c], v74, .list true (l27.map strC)), (.s [.c], v75, .list true (r5.map intC))] [(n1, 2)] := by rw [el111, List.map_append]; exact sp
        have hA117 := Sep.at (Sep.front (K1 := [(.s [.c], v112, .list true (l111.map strC))]) (K2 := [(.s [.c], v75, .list true (r5.map intC))]) sp) (by simp)
        refine ⟨fun i hi => ((hA117 i hi).1).trans ((hA104 i hi).1).symm, ?_⟩
        have m2_1 : H113 (n1, 2) = some ⟨1, [[.list false (p.map AmbNode.cells)]]⟩ := (hfr115 _ (by simp)).trans (by simp [h2, h5, h6, h7, h8, h9, h46, m2_1, Heap.get_set])
        simp [h2, h5, h6, h7, h8, h9, h46, m2_1, dc35, db73, AmbNode.cells, intC, strC]
        refine hk' _ _ _ ?_
        refine Runs.cut (fun ρ H n => ∃ (v119 : AVal) (v120 : AVal), ρ 2 = .ptr (n1, 2) 1 0 0 ∧ ρ 5 = v120 ∧ ρ 6 = v119 ∧ ρ 7 = int i26 ∧ H (n1, 2) = some ⟨1, [[.list false (p.map AmbNode.cells)]]⟩ ∧ Sep H n [(.s [.c], v119, .list true (l111.map strC)), (.s [.c], v120, .list true (r5.map intC))] [(n1, 2)]) (by refine ⟨v112, v75, ?_, ?_, ?_, ?_, ?_, (Sep.front (K1 := [(.s [.c], v75, .list true (r5.map intC))]) (K2 := []) (Sep.front (K1 := [(.s [.c], v112, .list true (l111.map strC))]) (K2 := []) (Sep.right (K1 := [(.s [.c], v74, .list true (l27.map strC))]) (K2 := [(.s [.c], v112, .list true (l111.map strC)), (.s [.c], v75, .list true (r5.map intC))]) (Sep.front (K1 := [(.s [.c], v112, .list true (l111.map strC))]) (K2 := [(.s [.c], v75, .list true (r5.map intC))]) sp))))⟩ <;> simp [h2, h5, h6, h7, h8, h9, h46, m2_1, dc35, db73, AmbNode.cells, intC, strC]) ?_
        clear h2 h5 h6 h7 h8 h9 h46 m2_1
        rintro ρ H n121 ⟨v119, v120, h2, h5, h6, h7, m2_1, sp⟩
        refine Runs.inBlock ?_
        refine Runs.evalE Ty_ok (by decide) fun k' hk' => ?_
        obtain ⟨hb122, h⟩ := h
        obtain ⟨v123, ev123⟩ : ∃ v : Int, v = i26 + 1 := ⟨_, rfl⟩
        replace h := h v123 ev123
        have f124 := ib_add hb122 ev123
        simp [h2, h5, h6, h7, m2_1, f124, dc35, db73, AmbNode.cells, intC, strC, -intBin]
        refine hk' _ _ _ ?_
        refine IH31 (v123, l111) _ _ _ h (by refine ⟨v119, v120, ?_, ?_, ?_, ?_, ?_, (Sep.front (K1 := [(.s [.c], v120, .list true (r5.map intC))]) (K2 := []) (Sep.front (K1 := [(.s [.c], v119, .list true (l111.map strC))]) (K2 := []) sp))⟩ <;> simp [h2, h5, h6, h7, m2_1, dc35, db73, AmbNode.cells, intC, strC])
    replace h := hJ71
    obtain ⟨len125, elen125⟩ : ∃ v : Int, v = (l27.length : Int) := ⟨_, rfl⟩
    replace h := h len125 elen125
    have f126 := len_own (Sep.len (m := len125) sp kd_57 (by rw [elen125, List.length_map]))
    obtain ⟨c127, ec127⟩ : ∃ v : Bool, v = decide (k64 < len125) := ⟨_, rfl⟩
    replace h := h c127 ec127
    have f128 := ib_lss (k := .i64) ec127
    rcases Bool.eq_false_or_eq_true c127 with dc127 | dc127
    · replace h := h.1 dc127
      obtain ⟨hb129, h⟩ := h
      obtain ⟨id130, hv, mo131, ln132, ni133⟩ := Sep.openF sp (by simp) hb129
      subst hv
      simp at ni133
      obtain ⟨x134, ex134⟩ : ∃ v : Str, v = at' l27 k64 := ⟨_, rfl⟩
      replace h := h x134 ex134
      have f135 := fun H (hm : H id130 = some ⟨1, l27.map strC⟩) => ix_arr (H := H) (k := .i64) (off := 0) (len := l27.length) (g := l27.length) kd_57 hm (by simp) rfl hb129
      have f136 := at_some (q := k64.toNat) hb129 ex134 rfl
      obtain ⟨c137, ec137⟩ : ∃ v : Bool, v = (Op.bytesLess x134 r56 || x134 == r56) := ⟨_, rfl⟩
      replace h := h c137 ec137
      have f138 := sb_leq ec137
      simp [h2, h5, h6, h7, h8, h9, m2_1, mo131, ni133, f126, f128, f135, f136, f138, dc35, dc127, AmbNode.cells, intC, strC, -indexAddrF, -intBin, -lenF, -strBin]
      exact fin76 (c137) _ _ _ h (by refine ⟨.arr id130 l27.length 0 l27.length, v66, ?_, ?_, ?_, ?_, ?_, ?_, ?_, ?_, (Sep.front (K1 := [(.s [.c], v66, .list true (r5.map intC))]) (K2 := []) (Sep.front (K1 := [(.s [.c], .arr id130 l27.length 0 l27.length, .list true (l27.map strC))]) (K2 := []) sp))⟩ <;> simp [h2, h5, h6, h7, h8, h9, m2_1, mo131, ni133, f126, f128, f135, f136, f138, dc35, dc127, AmbNode.cells, intC, strC, -indexAddrF, -intBin, -lenF, -strBin])
    · replace h := h.2 dc127
      simp [h2, h5, h6, h7, h8, h9, m2_1, f126, f128, dc35, dc127, AmbNode.cells, intC, strC, -intBin, -lenF]
      exact fin76 (false) _ _ _ h (by refine ⟨v65, v66, ?_, ?_, ?_, ?_, ?_, ?_, ?_, ?_, (Sep.front (K1 := [(.s [.c], v66, .list true (r5.map intC))]) (K2 := []) (Sep.front (K1 := [(.s [.c], v65, .list true (l27.map strC))]) (K2 := []) sp))⟩ <;> simp [h2, h5, h6, h7, h8, h9, m2_1, f126, f128, dc35, dc127, AmbNode.cells, intC, strC, -intBin, -lenF])
  · replace h := h.2 dc35
    refine Runs.exit rfl ?_
    refine Runs.seqE Ty_ok (by decide) fun k' hk' => ?_
    simp [h2, h5, h6, h7, m2_1, dc35, AmbNode.cells, intC, strC]
    refine hk' _ _ _ ?_
    exact Runs.ret1 (v := v28) Tryz.func62 Tryz.results62 (by simp [h2, h5, h6, h7, m2_1, dc35, AmbNode.cells, intC, strC]) (hQ _ _ _ _ (Sep.sub (ids' := []) (Sep.left (K1 := [(.s [.c], v28, .list true (l27.map strC))]) (K2 := [(.s [.c], v29, .list true (r5.map intC))]) sp) (by simp)) ⟨l27, h, rfl⟩)

theorem l12Sorted_ok (p : Proc) (parent : Int) (hp : l12Sorted_pre p parent) : OwnS Tryz.prog 62 [.agg [.list false (p.map AmbNode.cells)], int parent] (.s [.c]) (fun r => r = .list true ((l12Sorted p parent).map strC)) := (l12Sorted_walk p parent _ (l12Sorted_vc p parent hp)).mono (by rintro _ ⟨_, rfl, rfl⟩; rfl)

theorem l12Best_walk (p : Proc) (parent : Int) (Z : Str → Prop) (h : l12Best_wp p parent Z) : PureC Tryz.prog 41 [.agg [.list false (p.map AmbNode.cells)], int parent] (fun r => ∃ y : Str, Z y ∧ r = str y) := by
  unfold l12Best_wp at h
  refine PureC.of Tryz.func41 rfl Tryz.ntmps41 (by simp) fun Q hQ => ?_
  refine Runs.cut (fun ρ H n => ρ 0 = .agg [.list false (p.map AmbNode.cells)] ∧ ρ 1 = int parent) (by refine ⟨?_, ?_⟩ <;> simp [AmbNode.cells, intC, strC]) ?_
  rintro ρ H n1 ⟨h0, h1⟩
  refine Runs.seqE Ty_ok (by decide) fun k' hk' => ?_
  simp [h0, h1, AmbNode.cells, intC, strC]
  refine hk' _ _ _ ?_
  refine Runs.cut (fun ρ H n => ρ 1 = int parent ∧ ρ 2 = .ptr (n1, 2) 1 0 0 ∧ H (n1, 2) = some ⟨1, [[.list false (p.map AmbNode.cells)]]⟩) (by refine ⟨?_, ?_, ?_⟩ <;> simp [h0, h1, AmbNode.cells, intC, strC]) ?_
  clear h0 h1
  rintro ρ H n3 ⟨h1, h2, m2_1⟩
  refine Runs.seqE Ty_ok (by decide) fun k' hk' => ?_
  obtain ⟨hb4, h⟩ := h
  obtain ⟨r5, er5⟩ : ∃ v : List Str, v = l12Sorted p parent := ⟨_, rfl⟩
  replace h := h r5 er5
  simp [h1, h2, m2_1, AmbNode.cells, intC, strC]
  refine RunK.callA Ty_ok ((l12Sorted_ok p parent hb4).pure) e62 (.cons (ArgOk.agg (.cons (ArgOk.listF (fr := false) (els := p.map AmbNode.cells) (by simp [AmbNode.cells, intC, strC, intC])) .nil)) (.cons (.v _ _ _) .nil)) (by decide) (by decide) rfl (by simp [h1, h2, m2_1, AmbNode.cells, intC, strC]) ?_
  rintro _ rfl
  rw [← er5]
  simp [h1, h2, m2_1, AmbNode.cells, intC, strC]
  refine hk' _ _ _ ?_
  refine Runs.seq ?_
  refine Runs.seqE Ty_ok (by decide) fun k' hk' => ?_
  obtain ⟨len6, elen6⟩ : ∃ v : Int, v = (r5.length : Int) := ⟨_, rfl⟩
  replace h := h len6 elen6
  have f7 := fun H => len_list (H := H) (fr := true) (f := strC) kd_57 elen6
  obtain ⟨c8, ec8⟩ : ∃ v : Bool, v = decide (len6 = 0) := ⟨_, rfl⟩
  replace h := h c8 ec8
  have f9 := ib_eql (k := .i64) ec8
  simp [h1, h2, m2_1, f7, f9, AmbNode.cells, intC, strC, -intBin, -lenF]
  refine hk' _ _ _ ?_
  refine Runs.ite (b := c8) (by simp [h1, h2, m2_1, AmbNode.cells, intC, strC]) (fun dc8 => ?_) (fun dc8 => ?_)
  · replace h := h.1 dc8
    refine Runs.seqE Ty_ok (by decide) fun k' hk' => ?_
    simp [h1, h2, m2_1, dc8, AmbNode.cells, intC, strC]
    refine hk' _ _ _ ?_
    exact Runs.ret1 (v := str [48]) Tryz.func41 Tryz.results41 (by simp [h1, h2, m2_1, dc8, AmbNode.cells, intC, strC]) (hQ _ _ _ _ (.of (.v _)) ⟨[48], h, rfl⟩)
  · replace h := h.2 dc8
    refine Runs.skip ?_
    refine Runs.seqE Ty_ok (by decide) fun k' hk' => ?_
    obtain ⟨hb10, h⟩ := h
    obtain ⟨x11, ex11⟩ : ∃ v : Str, v = at' r5 0 := ⟨_, rfl⟩
    replace h := h x11 ex11
    have f12 := fun H => ix_list (H := H) (fr := true) (f := strC) (k := .i64) kd_57 (fun _ => rfl) hb10 ex11
    simp [h1, h2, m2_1, f12, dc8, AmbNode.cells, intC, strC, -indexAddrF]
    refine hk' _ _ _ ?_
    refine Runs.seq ?_
    refine Runs.seqE Ty_ok (by decide) fun k' hk' => ?_
    simp [h1, h2, m2_1, dc8, AmbNode.cells, intC, strC]
    refine hk' _ _ _ ?_
    refine Runs.block ?_
    refine Runs.loopW h (fun (s : Str × Int) ρ H n => match s with | (s16, i17) => ρ 5 = .list true (r5.map strC) ∧ ρ 6 = str s16 ∧ ρ 7 = int i17) (by refine ⟨?_, ?_, ?_⟩ <;> simp [h1, h2, m2_1, dc8, AmbNode.cells, intC, strC]) ?_
    clear h1 h2 m2_1
    rintro ⟨s16, i17⟩ ρ H n18 K h ⟨h5, h6, h7⟩ IH19
    refine Runs.seq ?_
    refine Runs.seqE Ty_ok (by decide) fun k' hk' => ?_
    obtain ⟨len21, elen21⟩ : ∃ v : Int, v = (r5.length : Int) := ⟨_, rfl⟩
    replace h := h len21 elen21
    have f22 := fun H => len_list (H := H) (fr := true) (f := strC) kd_57 elen21
    obtain ⟨c23, ec23⟩ : ∃ v : Bool, v = decide (i17 < len21) := ⟨_, rfl⟩
    replace h := h c23 ec23
    have f24 := ib_lss (k := .i64) ec23
    simp [h5, h6, h7, f22, f24, dc8, AmbNode.cells, intC, strC, -intBin, -lenF]
    refine hk' _ _ _ ?_
    refine Runs.ite (b := c23) (by simp [h5, h6, h7, dc8, AmbNode.cells, intC, strC]) (fun dc23 => ?_) (fun dc23 => ?_)
    · replace h := h.1 dc23
      refine Runs.skip ?_
      refine Runs.seq ?_
      refine Runs.block ?_
      refine Runs.evalE Ty_ok (by decide) fun k' hk' => ?_
      obtain ⟨hb25, h⟩ := h
      obtain ⟨v26, ev26⟩ : ∃ v : Str, v = s16 ++ [124] := ⟨_, rfl⟩
      replace h := h v26 ev26
      have f27 := sb_add hb25 ev26
      obtain ⟨hb28, h⟩ := h
      obtain ⟨x29, ex29⟩ : ∃ v : Str, v = at' r5 i17 := ⟨_, rfl⟩
      replace h := h x29 ex29
      have f30 := fun H => ix_list (H := H) (fr := true) (f := strC) (k := .i64) kd_57 (fun _ => rfl) hb28 ex29
      obtain ⟨hb31, h⟩ := h
      obtain ⟨v32, ev32⟩ : ∃ v : Str, v = v26 ++ x29 := ⟨_, rfl⟩
      replace h := h v32 ev32
      have f33 := sb_add hb31 ev32
      simp [h5, h6, h7, f27, f30, f33, dc8, dc23, AmbNode.cells, intC, strC, -indexAddrF, -strBin]
      refine hk' _ _ _ ?_
      refine Runs.inBlock ?_
      refine Runs.evalE Ty_ok (by decide) fun k' hk' => ?_
      obtain ⟨hb34, h⟩ := h
      obtain ⟨v35, ev35⟩ : ∃ v : Int, v = i17 + 1 := ⟨_, rfl⟩
      replace h := h v35 ev35
      have f36 := ib_add hb34 ev35
      simp [h5, h6, h7, f36, dc8, dc23, AmbNode.cells, intC, strC, -intBin]
      refine hk' _ _ _ ?_
      refine Runs.cut (fun ρ H n => ρ 5 = .list true (r5.map strC) ∧ ρ 6 = str v32 ∧ ρ 7 = int v35) (by refine ⟨?_, ?_, ?_⟩ <;> simp [h5, h6, h7, f36, dc8, dc23, AmbNode.cells, intC, strC, -intBin]) ?_
      clear h5 h6 h7
      rintro ρ H n37 ⟨h5, h6, h7⟩
      refine IH19 (v32, v35) _ _ _ h (by refine ⟨?_, ?_, ?_⟩ <;> simp [h5, h6, h7, dc8, dc23, AmbNode.cells, intC, strC])
    · replace h := h.2 dc23
      refine Runs.exit rfl ?_
      refine Runs.seqE Ty_ok (by decide) fun k' hk' => ?_
      simp [h5, h6, h7, dc8, dc23, AmbNode.cells, intC, strC]
      refine hk' _ _ _ ?_
      exact Runs.ret1 (v := str s16) Tryz.func41 Tryz.results41 (by simp [h5, h6, h7, dc8, dc23, AmbNode.cells, intC, strC]) (hQ _ _ _ _ (.of (.v _)) ⟨s16, h, rfl⟩)

theorem l12Best_ok (p : Proc) (parent : Int) (hp : l12Best_pre p parent) : PureC Tryz.prog 41 [.agg [.list false (p.map AmbNode.cells)], int parent] (fun r => r = str (l12Best p parent)) := (l12Best_walk p parent _ (l12Best_vc p parent hp)).mono (by rintro _ ⟨_, rfl, rfl⟩; rfl)
end Go.Ab.Vg

/- Walks by program for YtkhhalniblpkcaaGreatDoorAbCq. -/
namespace Go.Ab.Vg
open Go.Proofs
set_option maxRecDepth 100000
set_option linter.unusedSimpArgs false
set_option linter.unusedVariables false
theorem szT_ok (p : Proc) (left : Int) (h0 : 0 ≤ left) (h1 : left ≤ 1048576) (hp : Small p) : PureC Tryz.prog 6 [encP false p, int left] (fun r => r = int (szT p left)) := szProcess_ok p left h0 h1 hp

theorem toP_ok (p : Proc) (h : p.length ≤ 1048576) : PureC Tryz.prog 8 [encP false p] (fun r => r = .agg [.list true ((idP p).map AmbNode.cells)]) := toProcess_ok p h

theorem eqP_ok (p q : Proc) (h : p.length ≤ 1048576) : PureC Tryz.prog 10 [encP false p, encP false q] (fun r => r = bool (eqP p q)) := eqProcess_ok p q h

theorem bestAll {p : Proc} (hp : Valid p) : ∀ (m : Nat) (a : Int), ((p.length : Int) - a).toNat = m → -1 ≤ a → a < p.length → BestOk p a := fun m => by induction m using Nat.strongRecOn with | _ m ih => exact fun a hm h1 h2 => l12Best_ok p a ⟨hp, h1, h2, fun x hx => by obtain ⟨i, rfl, hi, hpx⟩ := kids_in hx; have := hp.up i hi; exact ih _ (by omega) i rfl (by omega) (by omega)⟩
end Go.Ab.Vg

/- What walks by program lean on: the text of a mark, and nested slices handed over. -/
namespace Go.Ab.Vg
open Go.Proofs
theorem markTxt_ok (k : Int) (h : markTxt_pre k) : PureC Tryz.prog 47 [int k] (fun r => r = str (markTxt k)) := by
  have := markText_ok k.toNat (by omega)
  rwa [Int.toNat_of_nonneg h.1] at this
theorem ArgOk.nest_Node {H : Heap} {n : Nat} (t : Bool) (l : List GNode) : ArgOk H n (.list t (l.map (GNode.cells t))) (.list false (l.map (GNode.cells false))) := Go.Ab.ArgOk.encN t l
theorem old_nest_Node (t : Bool) (l : List GNode) : old (.list t (l.map (GNode.cells t))) = .list false (l.map (GNode.cells false)) := old_encN t l
end Go.Ab.Vg

/- Walks by program for YtkhhalniblpkcaaGreatDoorAbLm. -/
namespace Go.Ab.Vg
open Go.Proofs
set_option maxRecDepth 100000
set_option linter.unusedSimpArgs false
set_option linter.unusedVariables false

end Go.Ab.Vg
