/- The abstract machine, part O: regions that draw their order and make variables. -/
import Derived.Test.YtgmjebjcomckaaaDoorAbM
namespace Go.Ab

def kindN : Op → Nat
  | .move _ | .assign _ | .pick .. | .binOp .. | .unOp .. | .convert .. | .makeFunc .. | .extract .. | .field .. | .index .. | .build .. => 0
  | .load .. | .fieldAddr .. | .indexAddr .. | .nilCheck _ | .call ⟨.builtin .len, _, _⟩ => 1
  | .alloc _ => 3
  | .store .. => 4
  | _ => 2

def compatN (a b : Nat) : Bool := a == 0 || b == 0 || (a == 1 && (b == 1 || b == 3 || b == 4)) || (a == 3 && (b == 1 || b == 3 || b == 4)) || (a == 4 && (b == 1 || b == 3))

/-- It points to no object of the region's own. -/
def idOk (n0 : Nat) : AVal → Prop
  | .ptr id _ _ _ | .arr id _ _ _ => id.1 < n0
  | _ => True

/-- What an operation may look at or turn, by its kind. -/
def condN (n0 : Nat) (op : Op) (ρ : Env) : Prop :=
  match op with
  | .load _ a | .fieldAddr _ a _ | .nilCheck a => idOk n0 (ρ.ev a)
  | .indexAddr _ x _ => idOk n0 (ρ.ev x)
  | .call ⟨.builtin .len, args, _⟩ => ∀ x ∈ args.toList, idOk n0 (ρ.ev x)
  | .store _ a _ => ∃ id g idx off, ρ.ev a = .ptr id g idx off ∧ n0 ≤ id.1
  | _ => kindN op = 0

theorem view_agree {n0 : Nat} {H H2 : Heap} (hag : ∀ id : Id, id.1 < n0 → H2 id = H id) {p : AVal} (hp : idOk n0 p) : viewOf H2 p = viewOf H p := by
  cases p with
  | ptr id g idx off => simp only [viewOf]; rw [hag id hp]
  | _ => rfl

theorem live_agree {n0 : Nat} {H H2 : Heap} (hag : ∀ id : Id, id.1 < n0 → H2 id = H id) {id : Id} {g : Nat} (hp : id.1 < n0) : live H2 id g = live H id g := by
  unfold live
  rw [hag id hp]

section
variable {Ty : Types} {ρ : Env} {H H2 H' : Heap} {n n2 n' n0 : Nat} {d : Option Tmp} {v : AVal} {op : Op}

theorem stepF_n0 (hk : kindN op = 0) (h : stepF Ty d op ρ H n = some (v, H', n')) : H' = H ∧ n' = n ∧ ∀ H2 n2, stepF Ty d op ρ H2 n2 = some (v, H2, n2) := by
  refine stepF_k0 ?_ h
  cases op with
  | call c =>
    obtain ⟨cal, args, ats⟩ := c
    cases cal with
    | builtin b => cases b <;> simp [kindN] at hk
    | _ => simp [kindN] at hk
  | _ => first | rfl | (simp [kindN] at hk)

theorem stepF_n1 (hk : kindN op = 1) (hc : condN n0 op ρ) (hag : ∀ id : Id, id.1 < n0 → H2 id = H id) (h : stepF Ty d op ρ H n = some (v, H', n')) : H' = H ∧ n' = n ∧ stepF Ty d op ρ H2 n2 = some (v, H2, n2) := by
  cases op with
  | load t a =>
    simp only [stepF] at h ⊢
    rw [view_agree hag hc]
    split at h
    · split at h
      · cases h; exact ⟨rfl, rfl, rfl⟩
      · cases h
    · cases h
  | fieldAddr t a f =>
    simp only [stepF] at h ⊢
    rw [view_agree hag hc]
    split at h
    · split at h
      · split at h
        · cases h
        · rename_i hz
          cases h
          exact ⟨rfl, rfl, by rw [if_neg hz]⟩
      · cases h
    · cases h
  | nilCheck a =>
    simp only [stepF] at h ⊢
    rw [view_agree hag hc]
    split at h
    · cases h; exact ⟨rfl, rfl, rfl⟩
    · cases h
  | indexAddr t x ix =>
    obtain ⟨h1, h2, h3⟩ := map_some_eq h
    refine ⟨h2, h3, ?_⟩
    have : indexAddrF Ty H2 t (ρ.ev x) (ρ.ev ix) = indexAddrF Ty H t (ρ.ev x) (ρ.ev ix) := by
      simp only [condN] at hc
      unfold indexAddrF
      split
      · generalize ρ.ev x = p at hc
        cases hkd : kd Ty t with
        | slice j => cases p with
          | arr id g off len => simp only [live_agree hag (show id.1 < n0 from hc)]
          | _ => rfl
        | arr len j => simp only [view_agree hag hc]
        | _ => rfl
      · rfl
    simp only [stepF, this, h1, Option.map_some]
  | call c =>
    obtain ⟨cal, args, ats⟩ := c
    cases cal with
    | builtin b =>
      cases b <;> simp [kindN] at hk
      simp only [stepF] at h ⊢
      split at h
      · rename_i x t hx ht
        obtain ⟨h1, h2, h3⟩ := map_some_eq h
        refine ⟨h2, h3, ?_⟩
        have hcx : idOk n0 (ρ.ev x) := hc x (by rw [hx]; simp)
        have : lenF Ty H2 t (ρ.ev x) = lenF Ty H t (ρ.ev x) := by
          unfold lenF
          generalize ρ.ev x = p at hcx
          cases hkd : kd Ty t with
          | slice j => cases p with
            | arr id g off len => simp only [live_agree hag (show id.1 < n0 from hcx)]
            | v x => cases x <;> rfl
            | _ => rfl
          | string => cases p with
            | v x => cases x <;> rfl
            | _ => rfl
          | _ => rfl
        simp only [this, h1, Option.map_some]
      · cases h
    | _ => simp [kindN] at hk
  | _ => simp [kindN] at hk

/-- Where a store goes. -/
def tgt : Op → Env → Option Id
  | .store _ a _, ρ => match ρ.ev a with
    | .ptr id _ _ _ => some id
    | _ => none
  | _, _ => none

theorem stepF_n4 (hk : kindN op = 4) (hc : condN n0 op ρ) (h : stepF Ty d op ρ H n = some (v, H', n')) :
    ∃ id ob ob', tgt op ρ = some id ∧ n0 ≤ id.1 ∧ H id = some ob ∧ H' = H.set id ob' ∧ n' = n ∧ ∀ H2 n2, H2 id = some ob → stepF Ty d op ρ H2 n2 = some (v, H2.set id ob', n2) := by
  cases op with
  | store t a x =>
    obtain ⟨id, g, idx, off, ha, hid⟩ := hc
    simp only [stepF] at h ⊢
    rw [ha] at h ⊢
    split at h
    · rename_i H1 hs
      cases h
      unfold storeF at hs
      split at hs
      · rename_i i id1 g1 idx1 off1 new e1 e2 e3
        cases e2
        split at hs
        · rename_i o hl
          split at hs
          · rename_i hcond
            cases hs
            obtain ⟨l1, l2⟩ := live_some hl
            refine ⟨id, o, o.write idx off new, by simp only [tgt, ha], hid, l1, rfl, rfl, fun H2 n2 h2 => ?_⟩
            have hl2 : live H2 id g = some o := by
              unfold live
              rw [h2]
              simp [l2]
            simp only [storeF, e1, e3, hl2, if_pos hcond]
          · cases hs
        · cases hs
      · cases hs
    · cases h
  | call c =>
    obtain ⟨cal, args, ats⟩ := c
    cases cal with
    | builtin b => cases b <;> simp [kindN] at hk
    | _ => simp [kindN] at hk
  | _ => simp [kindN] at hk
end

theorem condN_loc {n0 : Nat} {op : Op} {ρ : Env} : condN n0 op (loc op ρ) ↔ condN n0 op ρ := by
  have h : ∀ x, x ∈ op.operands → (loc op ρ).ev x = ρ.ev x := fun x hx => loc_ev hx
  generalize loc op ρ = ρ' at h
  cases op with
  | call c =>
    obtain ⟨cal, args, ats⟩ := c
    cases cal with
    | builtin b =>
      cases b <;> try rfl
      have ha : ∀ x, x ∈ args.toList → ρ'.ev x = ρ.ev x := fun x hx => h x (by simp [Op.operands, Call.operands]; simpa using hx)
      simp only [condN]
      exact ⟨fun hc x hx => by rw [← ha x hx]; exact hc x hx, fun hc x hx => by rw [ha x hx]; exact hc x hx⟩
    | _ => rfl
  | load t a => simp only [condN]; rw [h a (by simp [Op.operands])]
  | fieldAddr t a f => simp only [condN]; rw [h a (by simp [Op.operands])]
  | nilCheck a => simp only [condN]; rw [h a (by simp [Op.operands])]
  | indexAddr t x i => simp only [condN]; rw [h x (by simp [Op.operands])]
  | store t a x => simp only [condN]; rw [h a (by simp [Op.operands])]
  | _ => rfl

section
variable (Ty : Types) (ops : Array Oper) (n0 : Nat)
def DoN (o : Oper) (s : AS) (R : AS → Prop) : Prop :=
  (gok ops o s.1 = some false ∧ R (s.1.put o.dst .undef, s.2)) ∨
  (gok ops o s.1 = some true ∧ kindN o.op ≠ 3 ∧ condN n0 o.op s.1 ∧ ∃ v H', stepF Ty o.dst o.op s.1 s.2.1 s.2.2 = some (v, H', s.2.2) ∧ R (s.1.put o.dst v, H', s.2.2)) ∨
  (gok ops o s.1 = some true ∧ ∃ t k i, o.op = .alloc t ∧ o.dst = some k ∧ Ty t = some i ∧ ∀ a, n0 ≤ a → (∀ j, s.2.1 (a, j) = none) → R (s.1.put (some k) (.ptr (a, k) 1 0 0), s.2.1.set (a, k) ⟨i.zero.length, [i.zero.map .v]⟩, max s.2.2 (a + 1)))

def Bd (s : AS) : Prop := n0 ≤ s.2.2 ∧ ∀ id o, s.2.1 id = some o → id.1 < s.2.2
end

theorem set_comm {H : Heap} {i j : Id} (o p : Ob) (h : i ≠ j) : (H.set i o).set j p = (H.set j p).set i o := by
  funext x
  simp only [Heap.set]
  by_cases h1 : x = i <;> by_cases h2 : x = j <;> simp_all

section
variable {Ty : Types} {ops : Array Oper} {n0 : Nat}
theorem DoN.mono {o : Oper} {s : AS} {R R' : AS → Prop} (h : DoN Ty ops n0 o s R) (hR : ∀ s, R s → R' s) : DoN Ty ops n0 o s R' := by
  rcases h with ⟨h1, h2⟩ | ⟨h1, h2, h3, v, H', h4, h5⟩ | ⟨h1, t, k, i, h2, h3, h4, h5⟩
  · exact .inl ⟨h1, hR _ h2⟩
  · exact .inr (.inl ⟨h1, h2, h3, v, H', h4, hR _ h5⟩)
  · exact .inr (.inr ⟨h1, t, k, i, h2, h3, h4, fun a ha hf => hR _ (h5 a ha hf)⟩)

theorem kind_cond {op : Op} {ρ : Env} (h3 : kindN op ≠ 3) (h : condN n0 op ρ) : kindN op = 0 ∨ kindN op = 1 ∨ kindN op = 4 := by
  cases op with
  | call c =>
    obtain ⟨cal, args, ats⟩ := c
    cases cal with
    | builtin b => cases b <;> first | (simp [kindN]; done) | (simp [condN, kindN] at h)
    | _ => simp [condN, kindN] at h
  | buildSlice t len ps => simp only [condN] at h; exact .inl h
  | _ => first | (simp [kindN]; done) | (simp [condN, kindN] at h; done) | (simp [kindN] at h3)

theorem fresh_ex {s : AS} (hb : Bd n0 s) (j : Nat) : s.2.1 (s.2.2, j) = none := by
  cases h : s.2.1 (s.2.2, j) with
  | none => rfl
  | some o => have := hb.2 _ o h; simp at this

theorem DoN.bd {o : Oper} {s : AS} {R : AS → Prop} (hb : Bd n0 s) (h : DoN Ty ops n0 o s R) : DoN Ty ops n0 o s fun s' => Bd n0 s' ∧ R s' := by
  rcases h with ⟨h1, h2⟩ | ⟨h1, h2, h3, v, H', h4, h5⟩ | ⟨h1, t, k, i, h2, h3, h4, h5⟩
  · exact .inl ⟨h1, hb, h2⟩
  · refine .inr (.inl ⟨h1, h2, h3, v, H', h4, ⟨hb.1, ?_⟩, h5⟩)
    rcases kind_cond h2 h3 with hk | hk | hk
    · obtain ⟨rfl, _⟩ := stepF_n0 hk h4; exact hb.2
    · obtain ⟨rfl, _⟩ := stepF_n1 (H2 := s.2.1) (n2 := s.2.2) hk h3 (fun _ _ => rfl) h4; exact hb.2
    · obtain ⟨id, ob, ob', _, _, e2, rfl, _⟩ := stepF_n4 hk h3 h4
      intro id' o' ho'
      simp only at ho' ⊢
      by_cases he : id' = id
      · rw [he]; exact hb.2 _ _ e2
      · rw [Heap.get_set_ne _ _ he] at ho'; exact hb.2 _ _ ho'
  · refine .inr (.inr ⟨h1, t, k, i, h2, h3, h4, fun a ha hf => ⟨⟨?_, ?_⟩, h5 a ha hf⟩⟩)
    · have := hb.1; simp only; omega
    · intro id' o' ho'
      simp only at ho' ⊢
      by_cases he : id' = (a, k)
      · rw [he]; simp only; omega
      · rw [Heap.get_set_ne _ _ he] at ho'
        have := hb.2 _ _ ho'
        omega

theorem DoN.swap {oi oj : Oper} (hap : oi.apart ops oj = true) (hc : compatN (kindN oi.op) (kindN oj.op) = true) {s : AS} (hb : Bd n0 s) {R : AS → Prop} (h : DoN Ty ops n0 oi s fun si => DoN Ty ops n0 oj si R) :
    DoN Ty ops n0 oj s fun sj => DoN Ty ops n0 oi sj R := by
  obtain ⟨h1, h2, h3⟩ := Oper.apart_spec hap
  have sj : ∀ v H n, stepF Ty oj.dst oj.op (s.1.put oi.dst v) H n = stepF Ty oj.dst oj.op s.1 H n := fun v H n => by rw [← stepF_loc, loc_put (looks_tmps h1), stepF_loc]
  have si : ∀ v H n, stepF Ty oi.dst oi.op (s.1.put oj.dst v) H n = stepF Ty oi.dst oi.op s.1 H n := fun v H n => by rw [← stepF_loc, loc_put (looks_tmps h3), stepF_loc]
  have cj : ∀ v, condN n0 oj.op (s.1.put oi.dst v) ↔ condN n0 oj.op s.1 := fun v => by rw [← condN_loc, loc_put (looks_tmps h1), condN_loc]
  have ci : ∀ v, condN n0 oi.op (s.1.put oj.dst v) ↔ condN n0 oi.op s.1 := fun v => by rw [← condN_loc, loc_put (looks_tmps h3), condN_loc]
  have gj : ∀ v, gok ops oj (s.1.put oi.dst v) = gok ops oj s.1 := fun v => gok_put h1
  have gi : ∀ v, gok ops oi (s.1.put oj.dst v) = gok ops oi s.1 := fun v => gok_put h3
  have pc : ∀ v u, (s.1.put oi.dst v).put oj.dst u = (s.1.put oj.dst u).put oi.dst v := fun v u => put_comm v u h2
  obtain ⟨ρ, H, n⟩ := s
  simp only at sj si cj ci gj gi pc
  rcases h with ⟨hgi, h⟩ | ⟨hgi, hki, hci, v, Hi, hsi, h⟩ | ⟨hgi, t, k, i, hop, hd, hT, h⟩
  · -- oi is skipped
    rcases h with ⟨hgj, h⟩ | ⟨hgj, hkj, hcj, u, Hj, hsj, h⟩ | ⟨hgj, t', k', i', hop', hd', hT', h⟩
    · simp only [gj] at hgj
      exact .inl ⟨hgj, .inl ⟨by simpa only [gi] using hgi, by simpa only [pc] using h⟩⟩
    · simp only [gj, cj, sj] at hgj hcj hsj
      exact .inr (.inl ⟨hgj, hkj, hcj, u, Hj, hsj, .inl ⟨by simpa only [gi] using hgi, by simpa only [pc] using h⟩⟩)
    · simp only [gj] at hgj
      rw [hd'] at pc gi
      exact .inr (.inr ⟨hgj, t', k', i', hop', hd', hT', fun a ha hf => .inl ⟨by simpa only [gi] using hgi, by simpa only [pc] using h a ha hf⟩⟩)
  · -- oi runs
    rcases h with ⟨hgj, h⟩ | ⟨hgj, hkj, hcj, u, Hj, hsj, h⟩ | ⟨hgj, t', k', i', hop', hd', hT', h⟩
    · simp only [gj] at hgj
      exact .inl ⟨hgj, .inr (.inl ⟨by simpa only [gi] using hgi, hki, by simpa only [ci] using hci, v, Hi, by simpa only [si] using hsi, by simpa only [pc] using h⟩)⟩
    · simp only [gj, cj, sj] at hgj hcj hsj
      simp only at hsi hci hgi h
      -- both run
      have key : ∃ Hj', stepF Ty oj.dst oj.op ρ H n = some (u, Hj', n) ∧ stepF Ty oi.dst oi.op ρ Hj' n = some (v, Hj, n) := by
        rcases kind_cond hki hci with ki | ki | ki
        · obtain ⟨rfl, _, hall⟩ := stepF_n0 ki hsi
          exact ⟨Hj, hsj, hall Hj n⟩
        · obtain ⟨rfl, _, _⟩ := stepF_n1 (H2 := H) (n2 := n) ki hci (fun _ _ => rfl) hsi
          rcases kind_cond hkj hcj with kj | kj | kj
          · obtain ⟨rfl, _, hall⟩ := stepF_n0 kj hsj
            exact ⟨_, hsj, hsi⟩
          · obtain ⟨rfl, _, _⟩ := stepF_n1 (H2 := Hi) (n2 := n) kj hcj (fun _ _ => rfl) hsj
            exact ⟨_, hsj, hsi⟩
          · obtain ⟨id, ob, ob', _, e1, e2, rfl, _, _⟩ := stepF_n4 kj hcj hsj
            refine ⟨_, hsj, ?_⟩
            exact (stepF_n1 ki hci (fun id' hid => Heap.get_set_ne _ _ (by rintro rfl; omega)) hsi).2.2
        · obtain ⟨id, ob, ob', _, e1, e2, rfl, _, hall⟩ := stepF_n4 ki hci hsi
          rcases kind_cond hkj hcj with kj | kj | kj
          · obtain ⟨rfl, _, hall'⟩ := stepF_n0 kj hsj
            exact ⟨H, hall' H n, hsi⟩
          · obtain ⟨rfl, _, hst⟩ := stepF_n1 (H2 := H) (n2 := n) kj hcj (fun id' hid => (Heap.get_set_ne _ _ (by rintro rfl; omega)).symm) hsj
            exact ⟨H, hst, hsi⟩
          · rw [ki, kj] at hc; simp [compatN] at hc
      obtain ⟨Hj', k1, k2⟩ := key
      exact .inr (.inl ⟨hgj, hkj, hcj, u, Hj', k1, .inr (.inl ⟨by simpa only [gi] using hgi, hki, by simpa only [ci] using hci, v, Hj, by simpa only [si] using k2, by simpa only [pc] using h⟩)⟩)
    · -- oj makes a variable
      simp only [gj] at hgj
      rw [hd'] at pc gi si ci
      refine .inr (.inr ⟨hgj, t', k', i', hop', hd', hT', fun a ha hf => ?_⟩)
      simp only at hsi hci hgi h hf
      rcases kind_cond hki hci with ki | ki | ki
      · obtain ⟨rfl, _, hall⟩ := stepF_n0 ki hsi
        exact .inr (.inl ⟨by simpa only [gi] using hgi, hki, by simpa only [ci] using hci, v, _, by simpa only [si] using hall _ _, by simpa only [pc] using h a ha hf⟩)
      · obtain ⟨rfl, _, _⟩ := stepF_n1 (H2 := H) (n2 := n) ki hci (fun _ _ => rfl) hsi
        have hst := (stepF_n1 (n2 := max n (a + 1)) ki hci (fun id' hid => Heap.get_set_ne Hi ⟨i'.zero.length, [i'.zero.map .v]⟩ (i := (a, k')) (by rintro rfl; simp only at hid; omega)) hsi).2.2
        exact .inr (.inl ⟨by simpa only [gi] using hgi, hki, by simpa only [ci] using hci, v, _, by simpa only [si] using hst, by simpa only [pc] using h a ha hf⟩)
      · obtain ⟨id, ob, ob', _, e1, e2, rfl, _, hall⟩ := stepF_n4 ki hci hsi
        have hne : id ≠ (a, k') := by rintro rfl; rw [hf k'] at e2; cases e2
        have hf' : ∀ j, (H.set id ob') (a, j) = none := fun j => by
          rw [Heap.get_set_ne _ _ (by rintro rfl; rw [hf j] at e2; cases e2)]
          exact hf j
        have hst := hall (H.set (a, k') ⟨i'.zero.length, [i'.zero.map .v]⟩) (max n (a + 1)) (by rw [Heap.get_set_ne _ _ hne]; exact e2)
        have hfin := h a ha hf'
        rw [set_comm _ _ hne] at hfin
        exact .inr (.inl ⟨by simpa only [gi] using hgi, hki, by simpa only [ci] using hci, v, _, by simpa only [si] using hst, by simpa only [pc] using hfin⟩)
  · -- oi makes a variable
    simp only at hgi h
    rw [hd] at pc gj sj cj
    have hf0 : ∀ j, H (n, j) = none := fun j => fresh_ex hb j
    have hn0 : n0 ≤ n := hb.1
    have hi3 : kindN oi.op = 3 := by rw [hop]; rfl
    rcases h n hn0 hf0 with ⟨hgj, _⟩ | ⟨hgj, hkj, hcj, u, Hj, hsj, _⟩ | ⟨hgj, t', k', i', hop', hd', hT', _⟩
    · simp only [gj] at hgj
      refine .inl ⟨hgj, .inr (.inr ⟨by simpa only [gi] using hgi, t, k, i, hop, hd, hT, fun a ha hf => ?_⟩)⟩
      rcases h a ha hf with ⟨_, h⟩ | ⟨hg, _⟩ | ⟨hg, _⟩
      · simpa only [pc] using h
      · simp only [gj, hgj] at hg; cases hg
      · simp only [gj, hgj] at hg; cases hg
    · simp only [gj, cj, sj] at hgj hcj hsj
      have back : ∀ a, n0 ≤ a → (∀ j, H (a, j) = none) → ∃ ua Ha, stepF Ty oj.dst oj.op ρ (H.set (a, k) ⟨i.zero.length, [i.zero.map .v]⟩) (max n (a + 1)) = some (ua, Ha, max n (a + 1)) ∧ R ((ρ.put (some k) (.ptr (a, k) 1 0 0)).put oj.dst ua, Ha, max n (a + 1)) := by
        intro a ha hf
        rcases h a ha hf with ⟨hg, _⟩ | ⟨_, _, _, ua, Ha, hs, hR⟩ | ⟨_, t', _, _, hop', _⟩
        · simp only [gj, hgj] at hg; cases hg
        · simp only [sj] at hs
          exact ⟨ua, Ha, hs, hR⟩
        · exact absurd (by rw [hop']; rfl) hkj
      have hout : ∀ (a : Nat) (id' : Id), n0 ≤ a → id'.1 < n0 → (H.set (a, k) ⟨i.zero.length, [i.zero.map .v]⟩) id' = H id' := fun a id' ha hid => Heap.get_set_ne _ _ (by rintro rfl; simp only at hid; omega)
      rcases kind_cond hkj hcj with kj | kj | kj
      · obtain ⟨rfl, _, hall⟩ := stepF_n0 kj hsj
        refine .inr (.inl ⟨hgj, hkj, hcj, u, H, hall H n, .inr (.inr ⟨by simpa only [gi] using hgi, t, k, i, hop, hd, hT, fun a ha hf => ?_⟩)⟩)
        obtain ⟨ua, Ha, hs, hR⟩ := back a ha hf
        rw [hall] at hs
        cases hs
        simpa only [pc] using hR
      · have hst := (stepF_n1 (H2 := H) (n2 := n) kj hcj (fun id' hid => (hout n id' hn0 hid).symm) hsj).2.2
        refine .inr (.inl ⟨hgj, hkj, hcj, u, H, hst, .inr (.inr ⟨by simpa only [gi] using hgi, t, k, i, hop, hd, hT, fun a ha hf => ?_⟩)⟩)
        obtain ⟨ua, Ha, hs, hR⟩ := back a ha hf
        have hst2 := (stepF_n1 (H2 := H.set (a, k) ⟨i.zero.length, [i.zero.map .v]⟩) (n2 := max n (a + 1)) kj hcj (fun id' hid => hout a id' ha hid) hst).2.2
        rw [hst2] at hs
        cases hs
        simpa only [pc] using hR
      · obtain ⟨id, o1, o1', t1, _, e2, rfl, _, hall⟩ := stepF_n4 kj hcj hsj
        obtain ⟨u2, H2, hs2, _⟩ := back (n + 1) (by omega) (fun j => by
          cases hx : H (n + 1, j) with
          | none => rfl
          | some o => have := hb.2 (n + 1, j) o hx; simp only at this; omega)
        obtain ⟨id2, o2, o2', t2, _, e2', _⟩ := stepF_n4 kj hcj hs2
        rw [t1] at t2
        cases t2
        have hne : id ≠ (n, k) := by
          rintro rfl
          rw [Heap.get_set_ne _ _ (by intro he; have := congrArg Prod.fst he; simp only at this; omega), hf0 k] at e2'
          cases e2'
        rw [Heap.get_set_ne _ _ hne] at e2
        refine .inr (.inl ⟨hgj, hkj, hcj, u, H.set id o1', hall H n e2, .inr (.inr ⟨by simpa only [gi] using hgi, t, k, i, hop, hd, hT, fun a ha hf => ?_⟩)⟩)
        simp only at hf ⊢
        have hf' : ∀ j, H (a, j) = none := fun j => by
          have := hf j
          by_cases he : (a, j) = id
          · rw [he, Heap.get_set_self] at this; cases this
          · rwa [Heap.get_set_ne _ _ he] at this
        have hne' : id ≠ (a, k) := by
          rintro rfl
          rw [hf' k] at e2
          cases e2
        obtain ⟨ua, Ha, hs, hR⟩ := back a ha hf'
        rw [hall _ _ (by rw [Heap.get_set_ne _ _ hne']; exact e2)] at hs
        cases hs
        rw [set_comm _ _ hne', ← pc]
        exact hR
    · simp only [gj] at hgj
      rw [hd'] at pc gi
      refine .inr (.inr ⟨hgj, t', k', i', hop', hd', hT', fun b hb' hfb => .inr (.inr ⟨by simpa only [gi] using hgi, t, k, i, hop, hd, hT, fun a ha hfa => ?_⟩)⟩)
      simp only at hfa ⊢
      have hab : a ≠ b := by
        rintro rfl
        have := hfa k'
        rw [Heap.get_set_self] at this
        cases this
      have hfa' : ∀ j, H (a, j) = none := fun j => by
        have := hfa j
        rwa [Heap.get_set_ne _ _ (by intro he; exact hab (congrArg Prod.fst he))] at this
      rcases h a ha hfa' with ⟨hg, _⟩ | ⟨_, hk3, _⟩ | ⟨_, t2, k2, i2, hop2, hd2, hT2, h2'⟩
      · simp only [gj, hgj] at hg; cases hg
      · exact absurd (by rw [hop']; rfl) hk3
      · rw [hop'] at hop2
        cases hop2
        rw [hd'] at hd2
        cases hd2
        rw [hT'] at hT2
        cases hT2
        have hfin := h2' b hb' (fun j => by simp only; rw [Heap.get_set_ne _ _ (by intro he; exact hab (congrArg Prod.fst he).symm)]; exact hfb j)
        simp only at hfin
        rw [set_comm _ _ (by intro he; exact hab (congrArg Prod.fst he)), pc] at hfin
        have hm : max (max n (b + 1)) (a + 1) = max (max n (a + 1)) (b + 1) := by omega
        rw [hm]
        exact hfin

theorem DoN.some_ {o : Oper} {s : AS} {q : Prop} (hb : Bd n0 s) (h : DoN Ty ops n0 o s fun _ => q) : q := by
  rcases h with ⟨_, h⟩ | ⟨_, _, _, _, _, _, h⟩ | ⟨_, _, _, _, _, _, _, h⟩
  · exact h
  · exact h
  · exact h s.2.2 hb.1 (fun j => fresh_ex hb j)

variable (Ty ops n0) in
def AnyN (R : AS → Prop) : Nat → Array Bool → AS → Prop
  | 0, listed, s => Region.ready .any ops listed = [] ∧ R s
  | fuel + 1, listed, s => (Region.ready .any ops listed = [] → R s) ∧ ∀ i ∈ Region.ready .any ops listed, ∃ o, ops[i]? = some o ∧ DoN Ty ops n0 o s (AnyN R fuel (listed.setIfInBounds i true))

variable (Ty ops n0) in
def RunN (R : AS → Prop) : List Oper → AS → Prop
  | [], s => R s
  | o :: l, s => DoN Ty ops n0 o s (RunN R l)

theorem AnyN.first {R : AS → Prop} {i : Nat} {oi : Oper} (hi : ops[i]? = some oi) (D : List Nat) (hD : ∀ j oj, ops[j]? = some oj → j ∈ D → j ≠ i → ∃ e ∈ oj.after, Region.binds .any e = true ∧ e.on ∈ D) : ∀ (fuel : Nat) (listed : Array Bool) (s : AS), Bd n0 s →
    (∀ j ∈ D, listed.getD j true = false) → (∀ j oj, ops[j]? = some oj → j ≠ i → listed.getD j true = false → j ∉ D → oi.apart ops oj = true ∧ compatN (kindN oi.op) (kindN oj.op) = true) →
    i ∈ Region.ready .any ops listed → DoN Ty ops n0 oi s (AnyN Ty ops n0 R fuel (listed.setIfInBounds i true)) → AnyN Ty ops n0 R (fuel + 1) listed s := by
  intro fuel
  induction fuel with
  | zero =>
    intro listed s hb _ _ hr H
    refine ⟨fun h => (by rw [h] at hr; cases hr), fun j hj => ?_⟩
    by_cases hji : j = i
    · subst hji; exact ⟨oi, hi, H⟩
    · have := ready_mono hj hji
      have h0 : Region.ready .any ops (listed.setIfInBounds i true) = [] := DoN.some_ hb (H.mono fun s' h => h.1)
      rw [h0] at this
      cases this
  | succ fuel ih =>
    intro listed s hb hinv hfree hr H
    refine ⟨fun h => (by rw [h] at hr; cases hr), fun j hj => ?_⟩
    by_cases hji : j = i
    · subst hji; exact ⟨oi, hi, H⟩
    · obtain ⟨hjun, oj, hoj, hall⟩ := mem_ready.1 hj
      have hnot : j ∉ D := fun hd => by
        obtain ⟨e, he, hb', hed⟩ := hD j oj hoj hd hji
        have h1 := hall e he hb'
        have h0 := hinv e.on hed
        rcases Nat.lt_or_ge e.on listed.size with h' | h'
        · simp [h'] at h0 h1; rw [h0] at h1; cases h1
        · simp [Array.getElem?_eq_none h'] at h1
      obtain ⟨hap, hco⟩ := hfree j oj hoj hji hjun hnot
      have H2 : DoN Ty ops n0 oi s fun s' => DoN Ty ops n0 oj s' (AnyN Ty ops n0 R fuel ((listed.setIfInBounds i true).setIfInBounds j true)) := H.mono fun s' h => by
        obtain ⟨oj', hoj', h'⟩ := h.2 j (ready_mono hj hji)
        rw [hoj] at hoj'
        cases hoj'
        exact h'
      refine ⟨oj, hoj, (DoN.bd hb (DoN.swap hap hco hb H2)).mono fun sj ⟨hbj, hsj⟩ => ih (listed.setIfInBounds j true) sj hbj (fun k hk => ?_) (fun k ok hk hki hun hno => ?_) (ready_mono hr (Ne.symm hji)) ?_⟩
      · have hjk : j ≠ k := fun he => hnot (he ▸ hk)
        rw [getD_set_ne true hjk]
        exact hinv k hk
      · refine hfree k ok hk hki ?_ hno
        by_cases hjk : j = k
        · subst hjk; exact hjun
        · rw [getD_set_ne true hjk] at hun; exact hun
      · rw [Array.setIfInBounds_comm _ _ hji]
        exact hsj

variable (ops) in
def freeN (listed : Array Bool) (i : Nat) : Bool :=
  match ops[i]? with
  | none => false
  | some oi => ((behind ops i).all fun j => !(listed.getD j true) && match ops[j]? with
      | none => true
      | some oj => j == i || oj.after.any (fun e => Region.binds .any e && (behind ops i).contains e.on)) &&
    (List.range ops.size).all fun j => match ops[j]? with
    | none => true
    | some oj => j == i || listed.getD j true || (behind ops i).contains j || (oi.apart ops oj && compatN (kindN oi.op) (kindN oj.op))

variable (ops) in
def lexN : Nat → Nat → Array Bool → Bool
  | 0, _, listed => (Region.ready .any ops listed).isEmpty
  | fuel + 1, k, listed => (Region.ready .any ops listed).contains k && freeN ops listed k && lexN fuel (k + 1) (listed.setIfInBounds k true)

variable (ops) in
def drawN : Bool := lexN ops ops.size 0 (Array.replicate ops.size false)

theorem freeN_spec {listed : Array Bool} {i : Nat} {oi : Oper} (hi : ops[i]? = some oi) (h : freeN ops listed i = true) :
    (∀ j oj, ops[j]? = some oj → j ∈ behind ops i → j ≠ i → ∃ e ∈ oj.after, Region.binds .any e = true ∧ e.on ∈ behind ops i) ∧ (∀ j ∈ behind ops i, listed.getD j true = false) ∧
    ∀ j oj, ops[j]? = some oj → j ≠ i → listed.getD j true = false → j ∉ behind ops i → oi.apart ops oj = true ∧ compatN (kindN oi.op) (kindN oj.op) = true := by
  unfold freeN at h
  simp only [hi, Bool.and_eq_true] at h
  obtain ⟨h1, h2⟩ := h
  refine ⟨fun j oj hj hd hji => ?_, fun j hd => ?_, fun j oj hj hji hun hno => ?_⟩
  · have := List.all_eq_true.1 h1 j hd
    simp only [hj, Bool.and_eq_true, Bool.or_eq_true, beq_iff_eq] at this
    rcases this.2 with h3 | h3
    · exact absurd h3 hji
    · obtain ⟨e, he, hb⟩ := Array.any_eq_true'.1 h3
      simp only [Bool.and_eq_true, List.contains_iff_mem] at hb
      exact ⟨e, he, hb.1, hb.2⟩
  · have := List.all_eq_true.1 h1 j hd
    simp only [Bool.and_eq_true, Bool.not_eq_true'] at this
    exact this.1
  · have hlt : j < ops.size := (Array.getElem?_eq_some_iff.1 hj).1
    have := List.all_eq_true.1 h2 j (List.mem_range.2 hlt)
    simp only [hj, hun, Bool.or_false, Bool.or_eq_true, beq_iff_eq, Bool.and_eq_true, List.contains_iff_mem] at this
    rcases this with (h1 | h1) | h1
    · exact absurd h1 hji
    · exact absurd h1 hno
    · exact h1

theorem AnyN.lex {R : AS → Prop} : ∀ (l : List Oper) (k : Nat) (listed : Array Bool) (s : AS), Bd n0 s → (∀ j : Nat, l[j]? = ops[k + j]?) → lexN ops l.length k listed = true → RunN Ty ops n0 R l s → AnyN Ty ops n0 R l.length listed s
  | [], _, _, _, _, _, hB, h => ⟨by simpa [lexN] using hB, h⟩
  | o :: l, k, listed, s, hb, hl, hB, h => by
    have h0 : ops[k]? = some o := by simpa using (hl 0).symm
    simp only [List.length_cons, lexN, Bool.and_eq_true] at hB
    obtain ⟨⟨hr, hf⟩, hB'⟩ := hB
    obtain ⟨f1, f2, f3⟩ := freeN_spec h0 hf
    exact AnyN.first h0 (behind ops k) f1 l.length listed s hb f2 f3 (by simpa using hr)
      ((DoN.bd hb h).mono fun s' ⟨hb', h'⟩ => AnyN.lex l (k + 1) _ s' hb' (fun j => by have := hl (j + 1); simpa [Nat.add_assoc, Nat.add_comm 1 j] using this) hB' h')
end

section
variable {P : Program} {N : Nat} {Ty : Types} {ops : Array Oper} {n0 : Nat}
theorem AnyN.sound (hT : TypesOk P Ty) {R : AS → Prop} (hN : ops.toList.all (fun o => dok N o.dst) = true) {Q : Exit → Act → World → Prop} {c0 : Ctx} (hQ : ∀ a c ρ, Keeps c0 c → Good c → RelE N c ρ a → R (ρ, c.H, c.n) → Q .normal a c.w) :
    ∀ (fuel : Nat) (listed : Array Bool) (ρ : Env) (c : Ctx) (a : Act), n0 ≤ c.n → Keeps c0 c → Good c → RelE N c ρ a → AnyN Ty ops n0 R fuel listed (ρ, c.H, c.n) → wpAny P .any ops Q fuel listed a c.w
  | 0, _, _, _, _, _, hk, g, r, h => ⟨h.1, hQ _ _ _ hk g r h.2⟩
  | fuel + 1, listed, ρ, c, a, hn0, hk, g, r, h => by
    refine ⟨fun h0 => hQ _ _ _ hk g r (h.1 h0), fun i hi => ?_⟩
    obtain ⟨o, ho, hst⟩ := h.2 i hi
    have hd : dok N o.dst = true := List.all_eq_true.1 hN o (by rw [← Array.getElem?_toList] at ho; exact List.mem_of_getElem? ho)
    unfold wpOp
    simp only [ho]
    rcases hst with ⟨hg, hrest⟩ | ⟨hg, hk3, hc, v, H', hs, hrest⟩ | ⟨hg, t, k, i', hop, hdst, hTy, hrest⟩
    · rw [if_neg (by rw [wanted_of_gok r hN hg]; simp)]
      exact AnyN.sound hT hN hQ fuel _ _ c _ hn0 hk g (r.put hd (.undef _)) hrest
    · rw [if_pos (wanted_of_gok r hN hg)]
      simp only at hs hrest
      refine .inl (stepF_ok hT hs c a rfl rfl g r _ _ ?_)
      rintro v1 x c' ⟨rfl, hH, hn⟩ hrep hgood hkeep
      exact AnyN.sound hT hN hQ fuel _ _ c' _ (by rw [hn]; exact hn0) (hk.trans hkeep) hgood ((r.keeps hkeep).put hd hrep) (by rw [hH, hn]; exact hrest)
    · rw [if_pos (wanted_of_gok r hN hg)]
      have hs : stepF Ty o.dst o.op ρ c.H c.n = some (.ptr (c.n, k) 1 0 0, c.H.set (c.n, k) ⟨i'.zero.length, [i'.zero.map .v]⟩, c.n + 1) := by rw [hop, hdst]; simp only [stepF, hTy]
      refine .inl (stepF_ok hT hs c a rfl rfl g r _ _ ?_)
      rintro v1 x c' ⟨rfl, hH, hn⟩ hrep hgood hkeep
      have hr := hrest c.n hn0 (fun j => by
        show c.H (c.n, j) = none
        cases hx : c.H (c.n, j) with
        | none => rfl
        | some ob => have := g.stamp _ _ hx; simp only at this; omega)
      have hm : max c.n (c.n + 1) = c.n + 1 := by omega
      simp only [hm] at hr
      rw [← hdst] at hr
      exact AnyN.sound hT hN hQ fuel _ _ c' _ (by rw [hn]; omega) (hk.trans hkeep) hgood ((r.keeps hkeep).put hd hrep) (by rw [hH, hn]; exact hr)
end

section
variable {P : Program} {f : FuncId} {N : Nat} {k : List Item} {ρ : Env} {H : Heap} {n : Nat} {Q : AVal → Heap → Nat → Prop} {Ty : Types}

/-- A region that draws its order and makes variables. -/
theorem Runs.drawN (hT : TypesOk P Ty) {id : Nat} {ops : List Oper} (hm : P.follows .mixedOrders = true) (hN : ops.all (fun o => dok N o.dst) = true) (hB : drawN ops.toArray = true)
    (h : RunN Ty ops.toArray n (fun s => Runs P f N k s.1 s.2.1 s.2.2 Q) ops (ρ, H, n)) : Runs P f N (.code (.region id ops.toArray true) :: k) ρ H n Q := by
  intro c a hH hn g r b cs hf hk
  subst hH
  subst hn
  obtain ⟨d1, d2⟩ := draw_keeps g
  have hany := AnyN.lex (Ty := Ty) (ops := ops.toArray) (n0 := c.n) ops 0 (Array.replicate ops.toArray.size false) (ρ, c.H, c.n) ⟨Nat.le_refl _, fun id o ho => g.stamp id o ho⟩ (by simp) (by simpa [Ab.drawN] using hB) h
  have hw : (Code.region id ops.toArray true).wp P (fun e a' w' => e = .normal ∧ ∃ c' ρ', c'.w = w' ∧ Keeps c c' ∧ Good c' ∧ RelE N c' ρ' a' ∧ Runs P f N k ρ' c'.H c'.n Q) a c.w := by
    refine wp_region_any hm ?_
    have := AnyN.sound (P := P) (N := N) (Ty := Ty) (ops := ops.toArray) (n0 := c.n) (c0 := c) hT (by simpa using hN) (Q := fun e a' w' => e = .normal ∧ ∃ c' ρ', c'.w = w' ∧ Keeps c c' ∧ Good c' ∧ RelE N c' ρ' a' ∧ Runs P f N k ρ' c'.H c'.n Q)
      (R := fun s => Runs P f N k s.1 s.2.1 s.2.2 Q) (fun a' c' ρ' hk' hg' hr' hR => ⟨rfl, c', ρ', rfl, hk', hg', hr', hR⟩) ops.length (Array.replicate ops.toArray.size false) ρ { c with w := { c.w with drawn := c.w.drawn + 1 } } a (Nat.le_refl _) d1 d2 (r.keeps d1) hany
    simpa using this
  obtain ⟨e, a', w', ⟨rfl, c', ρ', rfl, hk', hg', hr', hR⟩, harr⟩ := hw b k cs
  obtain ⟨x, v, c'', fr, q, hr, hg, hke, hst, rest⟩ := hR c' a' rfl rfl hg' hr' b cs hf hk
  exact ⟨x, v, c'', fr, q, hr, hg, hk'.trans hke, Steps.trans harr hst, rest⟩
end

/-- What alloc makes. -/
def newF (Ty : Types) (d : Option Nat) : Op → Option (Nat × Ob)
  | .alloc t => match d, Ty t with
    | some k, some i => some (k, ⟨i.zero.length, [i.zero.map .v]⟩)
    | _, _ => none
  | _ => none

section
variable (P : Program) (f : FuncId) (N : Nat) (k : List Item) (Q : AVal → Heap → Nat → Prop) (Ty : Types) (ops : Array Oper) (n0 : Nat)
/-- Such a region evaluated: no calls in it. -/
def evalN : List Oper → Env → Heap → Nat → Prop
  | [], ρ, H, n => Runs P f N k ρ H n Q
  | o :: l, ρ, H, n =>
    match gok ops o ρ with
    | some false => evalN l (ρ.put o.dst .undef) H n
    | some true => match newF Ty o.dst o.op with
      | some (j, ob) => ∀ a, n0 ≤ a → (∀ q, H (a, q) = none) → evalN l (ρ.put (some j) (.ptr (a, j) 1 0 0)) (H.set (a, j) ob) (max n (a + 1))
      | none => match stepF Ty o.dst o.op ρ H n with
        | some (v, H', _) => condN n0 o.op ρ ∧ evalN l (ρ.put o.dst v) H' n
        | none => False
    | none => False
end

section
variable {P : Program} {f : FuncId} {N : Nat} {k : List Item} {ρ : Env} {H : Heap} {n : Nat} {Q : AVal → Heap → Nat → Prop} {Ty : Types} {ops : Array Oper} {n0 : Nat}
theorem newF_none {d : Option Nat} {op : Op} {v : AVal} {H' : Heap} {n' : Nat} (h : newF Ty d op = none) (hs : stepF Ty d op ρ H n = some (v, H', n')) : kindN op ≠ 3 := by
  cases op with
  | alloc t =>
    simp only [stepF] at hs
    split at hs
    · rename_i k' i hi
      simp only [newF, hi] at h
      cases h
    · cases hs
  | call c =>
    obtain ⟨cal, args, ats⟩ := c
    cases cal with
    | builtin b => cases b <;> simp [kindN]
    | _ => simp [kindN]
  | buildSlice t len ps =>
    unfold kindN
    simp only
    by_cases h0 : len = 0 <;> simp [h0]
  | _ => simp [kindN]

theorem evalN_sound : ∀ (l : List Oper) (ρ : Env) (H : Heap) (n : Nat), evalN P f N k Q Ty ops n0 l ρ H n → RunN Ty ops n0 (fun s => Runs P f N k s.1 s.2.1 s.2.2 Q) l (ρ, H, n)
  | [], _, _, _, h => h
  | o :: l, ρ, H, n, h => by
    rw [evalN] at h
    split at h
    · rename_i hg
      exact .inl ⟨hg, evalN_sound l _ _ _ h⟩
    · rename_i hg
      split at h
      · rename_i j ob hnew
        unfold newF at hnew
        split at hnew
        · rename_i t hop
          split at hnew
          · rename_i k' i hdst hTy
            cases hnew
            exact .inr (.inr ⟨hg, t, _, _, hop, hdst, hTy, fun a ha hf => evalN_sound l _ _ _ (h a ha hf)⟩)
          · cases hnew
        · cases hnew
      · rename_i hnew
        split at h
        · rename_i v H' n' hs
          have hk3 := newF_none hnew hs
          obtain ⟨hc, h⟩ := h
          have hn : n' = n := by
            rcases kind_cond hk3 hc with hk | hk | hk
            · exact (stepF_n0 hk hs).2.1
            · exact (stepF_n1 (H2 := H) (n2 := n) hk hc (fun _ _ => rfl) hs).2.1
            · obtain ⟨_, _, _, _, _, _, _, e, _⟩ := stepF_n4 hk hc hs; exact e
          subst hn
          exact .inr (.inl ⟨hg, hk3, hc, v, H', hs, evalN_sound l _ _ _ h⟩)
        · exact h.elim
    · exact h.elim

@[simp] theorem evalN_nil : evalN P f N k Q Ty ops n0 [] ρ H n = Runs P f N k ρ H n Q := by rw [evalN]
@[simp] theorem evalN_cons {o : Oper} {l : List Oper} : evalN P f N k Q Ty ops n0 (o :: l) ρ H n = (match gok ops o ρ with
    | some false => evalN P f N k Q Ty ops n0 l (ρ.put o.dst .undef) H n
    | some true => match newF Ty o.dst o.op with
      | some (j, ob) => ∀ a, n0 ≤ a → (∀ q, H (a, q) = none) → evalN P f N k Q Ty ops n0 l (ρ.put (some j) (.ptr (a, j) 1 0 0)) (H.set (a, j) ob) (max n (a + 1))
      | none => match stepF Ty o.dst o.op ρ H n with
        | some (v, H', _) => condN n0 o.op ρ ∧ evalN P f N k Q Ty ops n0 l (ρ.put o.dst v) H' n
        | none => False
    | none => False) := by rw [evalN]

theorem Runs.seqN (hT : TypesOk P Ty) {id : Nat} {ops : List Oper} {y : Code} (hm : P.follows .mixedOrders = true) (hN : ops.all (fun o => dok N o.dst) = true) (hB : Ab.drawN ops.toArray = true)
    (h : ∀ k' : List Item, (∀ ρ H n, Runs P f N (.code y :: k) ρ H n Q → Runs P f N k' ρ H n Q) → evalN P f N k' Q Ty ops.toArray n ops ρ H n) : Runs P f N (.code (.seq (.region id ops.toArray true) y) :: k) ρ H n Q :=
  Runs.seq (Runs.drawN hT hm hN hB (evalN_sound ops _ _ _ (h (.code y :: k) fun _ _ _ h => h)))

theorem Runs.evalNE (hT : TypesOk P Ty) {id : Nat} {ops : List Oper} (hm : P.follows .mixedOrders = true) (hN : ops.all (fun o => dok N o.dst) = true) (hB : Ab.drawN ops.toArray = true)
    (h : ∀ k' : List Item, (∀ ρ H n, Runs P f N k ρ H n Q → Runs P f N k' ρ H n Q) → evalN P f N k' Q Ty ops.toArray n ops ρ H n) : Runs P f N (.code (.region id ops.toArray true) :: k) ρ H n Q :=
  Runs.drawN hT hm hN hB (evalN_sound ops _ _ _ (h k fun _ _ _ h => h))
end

attribute [simp] gok condN idOk newF kindN
end Go.Ab
