/- Merged texts (11 of 15) of the proof that ends in Ljy: Se Sd Mnw Lmt. -/
import Derived.Test.YtbpdcoahefnnkaaGreatDoorAbQlj10
/- The abstract machine, part Se: what is lent to a call by a pointer to a variable, or by a function value. -/
namespace Go.Ab
def EffT (P : Program) (f : FuncId) (args : List AVal) {σ : Type} (W : List Id) (I : σ → Heap → List OwnE → Prop) (s : σ) (M : List OwnE) (Y : σ → AVal → Prop) : Prop :=
  ∀ (H : Heap) (n : Nat) (K : List OwnE) (ids : List Id) (E : List OwnE), I s H E → (∀ w ∈ W, w ∉ ids) → Sep H n (M ++ (E ++ K)) (W ++ ids) → CallsA P f args H n fun r H1 n1 => ∃ s' E', Y s' r ∧ I s' H1 E' ∧ Sep H1 n1 (E' ++ K) (W ++ ids) ∧ (∀ i ∈ ids, H1 i = H i) ∧ n ≤ n1
def FrameI {σ : Type} (W : List Id) (I : σ → Heap → List OwnE → Prop) : Prop := ∀ s H H' E, I s H E → (∀ w ∈ W, H' w = H w) → I s H' E
def VarI {σ : Type} (sz : Nat) (C : σ → List AVal → List AVal) (E : σ → List AVal → List OwnE) (X : Id) (s : σ) (H : Heap) (L : List OwnE) : Prop := ∃ vs, L = E s vs ∧ H X = some ⟨sz, [C s vs]⟩
theorem VarI.frame {σ : Type} {sz : Nat} {C : σ → List AVal → List AVal} {E : σ → List AVal → List OwnE} {X : Id} : FrameI [X] (VarI sz C E X) := fun _ _ _ _ ⟨vs, h1, h2⟩ h => ⟨vs, h1, (h X (by simp)).trans h2⟩
def PtrS (P : Program) (f : FuncId) (args : AVal → List AVal) {σ : Type} (sz : Nat) (C : σ → List AVal → List AVal) (E : σ → List AVal → List OwnE) (s : σ) (M : List OwnE) (Y : σ → AVal → Prop) : Prop :=
  ∀ X : Id, EffT P f (args (.ptr X 1 0 0)) [X] (VarI sz C E X) s M Y
theorem EffT.mono {P : Program} {f : FuncId} {args : List AVal} {σ : Type} {W : List Id} {I : σ → Heap → List OwnE → Prop} {s : σ} {M : List OwnE} {Y Y' : σ → AVal → Prop} (hc : EffT P f args W I s M Y) (hy : ∀ s' r, Y s' r → Y' s' r) : EffT P f args W I s M Y' := fun H n K ids E hi hw hs =>
  CallsA.mono (hc H n K ids E hi hw hs) fun _ _ _ ⟨s', E', h1, h2⟩ => ⟨s', E', hy _ _ h1, h2⟩
theorem PtrS.mono {P : Program} {f : FuncId} {args : AVal → List AVal} {σ : Type} {sz : Nat} {C : σ → List AVal → List AVal} {E : σ → List AVal → List OwnE} {s : σ} {M : List OwnE} {Y Y' : σ → AVal → Prop} (hc : PtrS P f args sz C E s M Y) (hy : ∀ s' r, Y s' r → Y' s' r) : PtrS P f args sz C E s M Y' := fun X => (hc X).mono hy
theorem EffT.of {P : Program} {f : FuncId} {fn : Func} {body : Code} {args : List AVal} {σ : Type} {W : List Id} {I : σ → Heap → List OwnE → Prop} {s : σ} {M : List OwnE} {Y : σ → AVal → Prop} {N : Nat} (hfn : P.funcs[f]? = some fn) (hb : fn.body = some body) (hn : fn.ntmps = N) (hN : args.length ≤ N)
    (hq : ∀ (H0 : Heap) (n0 : Nat) (K0 : List OwnE) (ids0 : List Id) (E0 : List OwnE), I s H0 E0 → (∀ w ∈ W, w ∉ ids0) → Sep H0 n0 (M ++ (E0 ++ K0)) (W ++ ids0) → ∀ Q : AVal → Heap → Nat → Prop, (∀ r H1 n1 s' E', I s' H1 E' → Sep H1 n1 (E' ++ K0) (W ++ ids0) → (∀ i ∈ ids0, H1 i = H0 i) → n0 ≤ n1 → Y s' r → Q r H1 n1) → Runs P f N [.code body] (argEnv args) H0 n0 Q) :
    EffT P f args W I s M Y := fun H n K ids E hi hw hs =>
  CallsA.of hfn hb hn hN fun Q hQ => hq H n K ids E hi hw hs Q fun r H1 n1 s' E' h1 h2 h3 h4 h5 => hQ r H1 n1 ⟨s', E', h5, h1, h2, h3, h4⟩
theorem PtrS.of {P : Program} {f : FuncId} {fn : Func} {body : Code} {args : AVal → List AVal} {σ : Type} {sz : Nat} {C : σ → List AVal → List AVal} {E : σ → List AVal → List OwnE} {s : σ} {M : List OwnE} {Y : σ → AVal → Prop} {N : Nat} (hfn : P.funcs[f]? = some fn) (hb : fn.body = some body) (hn : fn.ntmps = N) (hN : ∀ v, (args v).length ≤ N)
    (hq : ∀ (X : Id) (H0 : Heap) (n0 : Nat) (vs : List AVal) (K0 : List OwnE) (ids0 : List Id), H0 X = some ⟨sz, [C s vs]⟩ → X ∉ ids0 → Sep H0 n0 (M ++ (E s vs ++ K0)) (X :: ids0) → ∀ Q : AVal → Heap → Nat → Prop, (∀ r H1 n1 s' vs', H1 X = some ⟨sz, [C s' vs']⟩ → Sep H1 n1 (E s' vs' ++ K0) (X :: ids0) → (∀ i ∈ ids0, H1 i = H0 i) → n0 ≤ n1 → Y s' r → Q r H1 n1) → Runs P f N [.code body] (argEnv (args (.ptr X 1 0 0))) H0 n0 Q) :
    PtrS P f args sz C E s M Y := fun X => EffT.of hfn hb hn (hN _) fun H0 n0 K0 ids0 E0 hi hw hs Q hQ => by
  obtain ⟨vs, rfl, hm⟩ := hi
  exact hq X H0 n0 vs K0 ids0 hm (hw X (by simp)) hs Q fun r H1 n1 s' vs' h1 h2 h3 h4 h5 => hQ r H1 n1 s' _ ⟨vs', rfl, h1⟩ h2 h3 h4 h5
section
variable {H : Heap} {n : Nat} {K K' : List OwnE} {ids : List Id}
theorem Sep.permA (h : K.Perm K') : ∀ A : List OwnE, Sep H n (A ++ K) ids → Sep H n (A ++ K') ids := by
  induction h with
  | nil => exact fun _ h => h
  | cons x _ ih =>
    intro A h
    have := ih (A ++ [x]) (by simpa using h)
    simpa using this
  | swap x y l =>
    intro A h
    have h1 := Sep.front (K1 := A ++ [y]) (x := x) (K2 := l) (by simpa using h)
    exact Sep.unfront (K1 := A) (K2 := y :: l) (by simpa using h1)
  | trans _ _ ih1 ih2 => exact fun A h => ih2 A (ih1 A h)
theorem Sep.mid {A B C D : List OwnE} (h : Sep H n (A ++ (B ++ (C ++ D))) ids) : Sep H n (A ++ (C ++ (B ++ D))) ids := Sep.permA (List.perm_append_comm_assoc B C D) A h
theorem Sep.lastsE {R E K0 D : List OwnE} (h : Sep H n (R ++ (E ++ (K0 ++ D))) ids) : Sep H n (D ++ (R ++ (E ++ K0))) ids := Sep.swap (K1 := R ++ (E ++ K0)) (by simpa using h)
theorem Sep.idm {A B C : List Id} (h : Sep H n K (A ++ (B ++ C))) : Sep H n K (B ++ (A ++ C)) := Sep.sub h fun i hi => by
  simp only [List.mem_append] at hi ⊢
  rcases hi with h | h | h
  · exact .inr (.inl h)
  · exact .inl h
  · exact .inr (.inr h)
end
section
variable {P : Program} {f : FuncId} {N : Nat} {k : List Item} {Q : AVal → Heap → Nat → Prop} {Ty : Types} {l : List Oper} {ρ : Env} {H : Heap} {n : Nat}
theorem apartW {W A ids0 : List Id} {n0 : Nat} (h : ∀ w ∈ W, w.1 < n0) (hd : ∀ w ∈ W, w ∉ ids0) (ha : ∀ a ∈ A, n0 ≤ a.1) : ∀ w ∈ W, w ∉ A ++ ids0 := fun w hw hm => by
  rcases List.mem_append.1 hm with hm | hm
  · have h1 := h w hw
    have h2 := ha w hm
    omega
  · exact hd w hw hm
theorem SubL.append {as1 bs cs ds : List AVal} (h : SubL as1 bs) (h' : SubL cs ds) : SubL (as1 ++ cs) (bs ++ ds) := by
  induction h with
  | nil => exact h'
  | cons h _ ih => exact .cons h ih
theorem RunK.callEff (hT : TypesOk P Ty) {d : Option Tmp} {g : Operand} {args : Array Operand} {ats : Array TypeId} {ty : TypeId} {pos : String} {af : Array Edge} {f' : FuncId} {ops : List Oper} {xsA ysA caps : List AVal} {σ : Type} {I : σ → Heap → List OwnE → Prop} {s : σ} {Y : σ → AVal → Prop} {M R E K0 : List OwnE} {A W B : List Id}
    (h : EffT P f' (ysA ++ caps) W I s M Y) (hsub : SubL xsA ysA) (hent : Ent P f') (hi : I s H E) (hw : ∀ w ∈ W, w ∉ A ++ B) (hs : Sep H n (M ++ (R ++ (E ++ K0))) (A ++ (W ++ B)))
    (hN : ops.all (fun o => dok N o.dst) = true) (hl : (⟨d, .call ⟨.value g, args, ats⟩, ty, pos, af, none⟩ :: l : List Oper).all (fun o => dok N o.dst) = true) (hg : ρ.ev g = .fn (.func f') [] caps) (has : args.toList.map ρ.ev = xsA)
    (hk : ∀ r H1 n1 s' E', Y s' r → I s' H1 E' → Sep H1 n1 (R ++ (E' ++ K0)) (A ++ (W ++ B)) → n ≤ n1 → (∀ i ∈ A ++ B, H1 i = H i) → evalK P f N k Q Ty ops.toArray l (ρ.put d r) H1 n1) :
    RunK P f N k Q ops.toArray (⟨d, .call ⟨.value g, args, ats⟩, ty, pos, af, none⟩ :: l) ρ H n :=
  RunK.op hT hN hl rfl (OpSem.call (first := []) (captured := caps) (post := fun r H1 n1 => ∃ s' E', Y s' r ∧ I s' H1 E' ∧ Sep H1 n1 (E' ++ (R ++ K0)) (W ++ (A ++ B)) ∧ (∀ i ∈ A ++ B, H1 i = H i) ∧ n ≤ n1) hg hent (by
    rw [has, List.nil_append]
    exact CallsA.sub (hsub.append (.refl caps)) (h H n (R ++ K0) (A ++ B) E hi hw (Sep.idm (Sep.mid hs))))) fun r H' n' ⟨s', E', h1, h2, h3, h4, h5⟩ => hk r H' n' s' E' h1 h2 (Sep.idm (Sep.mid (A := []) h3)) h5 h4
theorem RunK.callP (hT : TypesOk P Ty) {d : Option Tmp} {g : Operand} {args : Array Operand} {ats : Array TypeId} {ty : TypeId} {pos : String} {af : Array Edge} {f' : FuncId} {ops : List Oper} {argf : AVal → List AVal} {as1 : List AVal} {σ : Type} {sz : Nat} {C : σ → List AVal → List AVal} {E : σ → List AVal → List OwnE} {s : σ} {M K0 : List OwnE} {Y : σ → AVal → Prop} {X : Id} {vs : List AVal} {A B : List Id}
    (h : PtrS P f' argf sz C E s M Y) (hsub : SubL as1 (argf (.ptr X 1 0 0))) (hent : Ent P f') (hm : H X = some ⟨sz, [C s vs]⟩) (hw : X ∉ A ++ B) (hs : Sep H n (M ++ (E s vs ++ K0)) (A ++ ([X] ++ B)))
    (hN : ops.all (fun o => dok N o.dst) = true) (hl : (⟨d, .call ⟨.value g, args, ats⟩, ty, pos, af, none⟩ :: l : List Oper).all (fun o => dok N o.dst) = true) (hg : ρ.ev g = .fn (.func f') [] []) (has : args.toList.map ρ.ev = as1)
    (hk : ∀ r H1 n1 s' vs', Y s' r → H1 X = some ⟨sz, [C s' vs']⟩ → Sep H1 n1 (E s' vs' ++ K0) (A ++ ([X] ++ B)) → n ≤ n1 → (∀ i ∈ A ++ B, H1 i = H i) → evalK P f N k Q Ty ops.toArray l (ρ.put d r) H1 n1) :
    RunK P f N k Q ops.toArray (⟨d, .call ⟨.value g, args, ats⟩, ty, pos, af, none⟩ :: l) ρ H n :=
  RunK.callEff (xsA := as1) (ysA := argf (.ptr X 1 0 0)) (caps := []) (I := VarI sz C E X) (s := s) (M := M) (R := []) (E := E s vs) (K0 := K0) (A := A) (W := [X]) (B := B) (Y := Y) hT (by simpa using h X) hsub hent ⟨vs, rfl, hm⟩ (by simpa using hw) hs hN hl hg has fun r H1 n1 s' E' h1 h2 h4 h5 h6 => by
    obtain ⟨vs', rfl, h3⟩ := h2
    exact hk r H1 n1 s' vs' h1 h3 h4 h5 h6
end
end Go.Ab
/- The abstract machine, part Sd: regions that draw their order, with a chain of operations that turn the heap; all other operations give the same whenever they come. -/
namespace Go.Ab
set_option linter.unusedSectionVars false
set_option linter.unusedVariables false
section
variable (P : Program) (N : Nat) (ops : Array Oper) (Stab : Heap → Nat → Prop) (hard : List Nat)
def lateC (j : Nat) : Bool := (List.range ops.size).all fun k => hard.contains k || (behind ops k).contains j
def StepF (o : Oper) (s s' : AS) : Prop := ∃ v, s' = (s.1.put o.dst v, s.2) ∧ ((gok ops o s.1 = some true ∧ ∀ H n, Stab H n → OpSem P N o (loc o.op s.1) H n (isV v H n)) ∨ (gok ops o s.1 = some false ∧ v = skv))
def AnyC (R : AS → Prop) : Nat → Array Bool → AS → Prop
  | 0, listed, s => Region.ready .any ops listed = [] ∧ R s
  | fuel + 1, listed, s => (Region.ready .any ops listed = [] → R s) ∧ ∀ i ∈ Region.ready .any ops listed, ∃ o, ops[i]? = some o ∧
      ((i ∉ hard ∧ Stab s.2.1 s.2.2 ∧ ∃ s', StepF P N ops Stab o s s' ∧ AnyC R fuel (listed.setIfInBounds i true) s') ∨
       (i ∈ hard ∧ gok ops o s.1 = some true ∧ ∃ post : AVal → Heap → Nat → Prop, OpSem P N o (loc o.op s.1) s.2.1 s.2.2 post ∧ ∀ v H' n', post v H' n' → (lateC ops hard i = false → Stab H' n') ∧ AnyC R fuel (listed.setIfInBounds i true) (s.1.put o.dst v, H', n')))
inductive OrdT where
  | fin
  | stop
  | free (i : Nat) (t : OrdT)
  | hard (i : Nat) (t a : OrdT)
def OrdT.alts : OrdT → List Nat
  | .hard i _ a => i :: a.alts
  | _ => []
def OrdT.depth : OrdT → Nat
  | .free _ t => t.depth + 1
  | .hard _ t a => max (t.depth + 1) a.depth
  | _ => 0
def headT (t : OrdT) (listed : Array Bool) : Bool := match t with
  | .hard _ _ _ => !(Region.ready .any ops listed).isEmpty && (Region.ready .any ops listed).all fun i => t.alts.contains i
  | .stop => false
  | _ => true
def lexT : OrdT → Array Bool → Bool
  | .fin, listed => (Region.ready .any ops listed).isEmpty
  | .stop, _ => true
  | .free i t, listed => !hard.contains i && (Region.ready .any ops listed).contains i && freeD (fun _ => 0) ops listed i && headT ops t (listed.setIfInBounds i true) && lexT t (listed.setIfInBounds i true)
  | .hard i t a, listed => hard.contains i && headT ops t (listed.setIfInBounds i true) && lexT t (listed.setIfInBounds i true) && lexT a listed
def HardT (R' : AS → Prop) (i : Nat) (s : AS) : Prop := ∃ o, ops[i]? = some o ∧ gok ops o s.1 = some true ∧ ∃ post : AVal → Heap → Nat → Prop, OpSem P N o (loc o.op s.1) s.2.1 s.2.2 post ∧ ∀ v H' n', post v H' n' → (lateC ops hard i = false → Stab H' n') ∧ R' (s.1.put o.dst v, H', n')
def RunT (R : AS → Prop) : OrdT → AS → Prop
  | .fin, s => R s
  | .stop, _ => True
  | .free i t, s => ∃ o, ops[i]? = some o ∧ Stab s.2.1 s.2.2 ∧ ∃ s', StepF P N ops Stab o s s' ∧ RunT R t s'
  | .hard i t a, s => HardT P N ops Stab hard (RunT R t) i s ∧ RunT R a s
def drawT (t : OrdT) : Bool := headT ops t (Array.replicate ops.size false) && lexT ops hard t (Array.replicate ops.size false) && decide (t.depth ≤ ops.size)
end
section
variable {P : Program} {N : Nat} {ops : Array Oper} {Stab : Heap → Nat → Prop} {hard : List Nat}
theorem AnyC.first {R : AS → Prop} {i : Nat} {oi : Oper} (hi : ops[i]? = some oi) (hih : i ∉ hard) (hD : ∀ j oj, ops[j]? = some oj → j ∈ behind ops i → j ≠ i → ∃ e ∈ oj.after, Region.binds .any e = true ∧ e.on ∈ behind ops i) : ∀ (fuel : Nat) (listed : Array Bool) (s s' : AS),
    (∀ j ∈ behind ops i, listed.getD j true = false) → (∀ j oj, ops[j]? = some oj → j ≠ i → listed.getD j true = false → j ∉ behind ops i → oi.apart ops oj = true) →
    i ∈ Region.ready .any ops listed → Stab s.2.1 s.2.2 → StepF P N ops Stab oi s s' → AnyC P N ops Stab hard R fuel (listed.setIfInBounds i true) s' → AnyC P N ops Stab hard R (fuel + 1) listed s := by
  intro fuel
  induction fuel with
  | zero =>
    intro listed s s' _ _ hr hS hst H
    refine ⟨fun h => (by rw [h] at hr; cases hr), fun j hj => ?_⟩
    by_cases hji : j = i
    · subst hji; exact ⟨oi, hi, .inl ⟨hih, hS, s', hst, H⟩⟩
    · have := ready_mono hj hji
      rw [H.1] at this
      cases this
  | succ fuel ih =>
    intro listed s s' hinv hfree hr hS hst H
    refine ⟨fun h => (by rw [h] at hr; cases hr), fun j hj => ?_⟩
    by_cases hji : j = i
    · subst hji; exact ⟨oi, hi, .inl ⟨hih, hS, s', hst, H⟩⟩
    · obtain ⟨oj, hoj, hbr⟩ := H.2 j (ready_mono hj hji)
      obtain ⟨hjun, oj', hoj', hall⟩ := mem_ready.1 hj
      rw [hoj] at hoj'
      cases hoj'
      have hnot : j ∉ behind ops i := fun hd => by
        obtain ⟨e, he, hb, hed⟩ := hD j oj hoj hd hji
        have h1 := hall e he hb
        have h0 := hinv e.on hed
        rcases Nat.lt_or_ge e.on listed.size with h' | h'
        · simp [h'] at h0 h1; rw [h0] at h1; cases h1
        · simp [Array.getElem?_eq_none h'] at h1
      obtain ⟨h1, h2, h3⟩ := Oper.apart_spec (hfree j oj hoj hji hjun hnot)
      have hinv' : ∀ k ∈ behind ops i, (listed.setIfInBounds j true).getD k true = false := fun k hk => by
        have hjk : j ≠ k := fun he => hnot (he ▸ hk)
        rw [getD_set_ne true hjk]
        exact hinv k hk
      have hfree' : ∀ k ok, ops[k]? = some ok → k ≠ i → (listed.setIfInBounds j true).getD k true = false → k ∉ behind ops i → oi.apart ops ok = true := fun k ok hk hki hun hno => by
        refine hfree k ok hk hki ?_ hno
        by_cases hjk : j = k
        · subst hjk; exact hjun
        · rw [getD_set_ne true hjk] at hun; exact hun
      obtain ⟨v, rfl, hv⟩ := hst
      have lj : ∀ v, loc oj.op (s.1.put oi.dst v) = loc oj.op s.1 := fun v => loc_put (looks_tmps h1)
      have li : ∀ v, loc oi.op (s.1.put oj.dst v) = loc oi.op s.1 := fun v => loc_put (looks_tmps h3)
      have gj : ∀ v, gok ops oj (s.1.put oi.dst v) = gok ops oj s.1 := fun v => gok_put h1
      have gi : ∀ v, gok ops oi (s.1.put oj.dst v) = gok ops oi s.1 := fun v => gok_put h3
      have hvi : ∀ u, (gok ops oi (s.1.put oj.dst u) = some true ∧ ∀ H n, Stab H n → OpSem P N oi (loc oi.op (s.1.put oj.dst u)) H n (isV v H n)) ∨ (gok ops oi (s.1.put oj.dst u) = some false ∧ v = skv) := fun u => by
        rw [gi, li]
        exact hv
      rcases hbr with ⟨hjh, _, s'', ⟨u, rfl, hu⟩, hrest⟩ | ⟨hjh, hgj, post, hoq, hrest⟩
      · simp only [lj, gj] at hu
        refine ⟨oj, hoj, .inl ⟨hjh, hS, _, ⟨u, rfl, hu⟩, ih (listed.setIfInBounds j true) (s.1.put oj.dst u, s.2) ((s.1.put oj.dst u).put oi.dst v, s.2) hinv' hfree' (ready_mono hr (Ne.symm hji)) hS ⟨v, rfl, hvi u⟩ ?_⟩⟩
        rw [Array.setIfInBounds_comm _ _ hji, ← put_comm v u h2]
        exact hrest
      · simp only [lj, gj] at hoq hgj
        refine ⟨oj, hoj, .inr ⟨hjh, hgj, post, hoq, fun u H' n' hp => ?_⟩⟩
        obtain ⟨hS', hrest'⟩ := hrest u H' n' hp
        refine ⟨hS', ?_⟩
        have hlate : lateC ops hard j = false := by
          rw [Bool.eq_false_iff]
          intro hl
          have := List.all_eq_true.1 hl i (List.mem_range.2 (Array.getElem?_eq_some_iff.1 hi).1)
          simp only [Bool.or_eq_true, List.contains_iff_mem] at this
          exact this.elim hih hnot
        refine ih (listed.setIfInBounds j true) (s.1.put oj.dst u, H', n') ((s.1.put oj.dst u).put oi.dst v, H', n') hinv' hfree' (ready_mono hr (Ne.symm hji)) (hS' hlate) ⟨v, rfl, hvi u⟩ ?_
        rw [Array.setIfInBounds_comm _ _ hji, ← put_comm v u h2]
        exact hrest'
theorem RunT.alt {R : AS → Prop} {s : AS} {listed : Array Bool} {j : Nat} : ∀ {t : OrdT}, RunT P N ops Stab hard R t s → lexT ops hard t listed = true → j ∈ t.alts → j ∈ hard ∧ ∃ t', t'.depth + 1 ≤ t.depth ∧ headT ops t' (listed.setIfInBounds j true) = true ∧ lexT ops hard t' (listed.setIfInBounds j true) = true ∧ HardT P N ops Stab hard (RunT P N ops Stab hard R t') j s
  | .hard i t a, h, hl, hj => by
    simp only [lexT, Bool.and_eq_true, List.contains_iff_mem] at hl
    rcases List.mem_cons.1 hj with rfl | hj
    · exact ⟨hl.1.1.1, t, by simp only [OrdT.depth]; omega, hl.1.1.2, hl.1.2, h.1⟩
    · obtain ⟨h1, t', h2, h3⟩ := RunT.alt (t := a) h.2 hl.2 hj
      exact ⟨h1, t', by simp only [OrdT.depth]; omega, h3⟩
  | .fin, _, _, hj => by cases hj
  | .stop, _, _, hj => by cases hj
  | .free _ _, _, _, hj => by cases hj
theorem AnyC.none {R : AS → Prop} {fuel : Nat} {listed : Array Bool} {s : AS} (h : Region.ready .any ops listed = []) (hR : R s) : AnyC P N ops Stab hard R fuel listed s := by
  cases fuel with
  | zero => exact ⟨h, hR⟩
  | succ fuel => exact ⟨fun _ => hR, fun i hi => by rw [h] at hi; cases hi⟩
theorem AnyC.lex {R : AS → Prop} : ∀ (fuel : Nat) (t : OrdT) (listed : Array Bool) (s : AS), t.depth ≤ fuel → headT ops t listed = true → lexT ops hard t listed = true → RunT P N ops Stab hard R t s → AnyC P N ops Stab hard R fuel listed s
  | _, .fin, listed, s, _, _, hB, h => AnyC.none (by simpa [lexT] using hB) h
  | _, .stop, _, _, _, hh, _, _ => by cases hh
  | 0, .free i t, _, _, hd, _, _, _ => by simp [OrdT.depth] at hd
  | fuel + 1, .free i t, listed, s, hd, _, hB, ⟨o, ho, hS, s', hst, hrest⟩ => by
    simp only [lexT, Bool.and_eq_true, Bool.not_eq_true', List.contains_iff_mem] at hB
    obtain ⟨⟨⟨⟨h1, h2⟩, h3⟩, h4⟩, h5⟩ := hB
    obtain ⟨f1, f2, f3⟩ := freeD_spec ho h3
    exact AnyC.first ho (by simpa using h1) f1 fuel listed s s' f2 (fun j oj h1 h2 h3 h4 => (f3 j oj h1 h2 h3 h4).1) h2 hS hst (AnyC.lex fuel t _ _ (by simp only [OrdT.depth] at hd; omega) h4 h5 hrest)
  | 0, .hard i t a, _, _, hd, _, _, _ => by simp only [OrdT.depth] at hd; omega
  | fuel + 1, .hard i t a, listed, s, hd, hh, hB, h => by
    simp only [headT, Bool.and_eq_true, Bool.not_eq_true', List.isEmpty_eq_false_iff] at hh
    refine ⟨fun h => absurd h hh.1, fun j hj => ?_⟩
    have hja : j ∈ (OrdT.hard i t a).alts := by
      have := List.all_eq_true.1 hh.2 j hj
      simpa using this
    obtain ⟨hjh, t', hd', h1, h2, o, ho, hg, post, hop, hrest⟩ := RunT.alt h hB hja
    exact ⟨o, ho, .inr ⟨hjh, hg, post, hop, fun v H' n' hp => ⟨(hrest v H' n' hp).1, AnyC.lex fuel t' _ _ (by omega) h1 h2 (hrest v H' n' hp).2⟩⟩⟩
theorem AnyC.sound {R : AS → Prop} (hN : ops.toList.all (fun o => dok N o.dst) = true) {Q : Exit → Act → World → Prop} {c0 : Ctx} (hQ : ∀ a c ρ, Keeps c0 c → Good c → RelE N c ρ a → R (ρ, c.H, c.n) → Q .normal a c.w) :
    ∀ (fuel : Nat) (listed : Array Bool) (ρ : Env) (c : Ctx) (a : Act), Keeps c0 c → Good c → RelE N c ρ a → AnyC P N ops Stab hard R fuel listed (ρ, c.H, c.n) → wpAny P .any ops Q fuel listed a c.w
  | 0, _, _, _, _, hk, g, r, h => ⟨h.1, hQ _ _ _ hk g r h.2⟩
  | fuel + 1, listed, ρ, c, a, hk, g, r, h => by
    refine ⟨fun h0 => hQ _ _ _ hk g r (h.1 h0), fun i hi => ?_⟩
    obtain ⟨o, ho, hbr⟩ := h.2 i hi
    have hd : dok N o.dst = true := List.all_eq_true.1 hN o (by rw [← Array.getElem?_toList] at ho; exact List.mem_of_getElem? ho)
    unfold wpOp
    simp only [ho]
    rcases hbr with ⟨_, hS, s', ⟨v, rfl, ⟨hg, hop⟩ | ⟨hg, rfl⟩⟩, hrest⟩ | ⟨_, hg, post, hop, hrest⟩
    · rw [if_pos (wanted_of_gok r hN hg)]
      refine .inl (hop c.H c.n hS c a rfl rfl g (r.loc o.op) _ _ ?_)
      rintro v1 x c' ⟨rfl, hH, hn⟩ hrep hgood hkeep
      exact AnyC.sound hN hQ fuel _ _ c' _ (hk.trans hkeep) hgood ((r.keeps hkeep).put hd hrep) (by rw [hH, hn]; exact hrest)
    · rw [if_neg (by rw [wanted_of_gok r hN hg]; simp)]
      exact AnyC.sound hN hQ fuel _ _ c _ hk g (r.put hd (.v _)) hrest
    · rw [if_pos (wanted_of_gok r hN hg)]
      refine .inl (hop c a rfl rfl g (r.loc o.op) _ _ ?_)
      rintro v1 x c' hpost hrep hgood hkeep
      exact AnyC.sound hN hQ fuel _ _ c' _ (hk.trans hkeep) hgood ((r.keeps hkeep).put hd hrep) (hrest v1 c'.H c'.n hpost).2
end
section
variable {P : Program} {f : FuncId} {N : Nat} {k : List Item} {ρ : Env} {H : Heap} {n : Nat} {Q : AVal → Heap → Nat → Prop}
def atS (J : Env → Heap → Nat → Prop) : AS → Prop := fun s => J s.1 s.2.1 s.2.2
theorem Runs.drawC (Stab : Heap → Nat → Prop) (hard : List Nat) (t : OrdT) (J : Env → Heap → Nat → Prop) {id : Nat} {ops : List Oper} (hm : P.follows .mixedOrders = true) (hN : ops.all (fun o => dok N o.dst) = true) (hB : Ab.drawT ops.toArray hard t = true)
    (h : RunT P N ops.toArray Stab hard (atS J) t (ρ, H, n)) (hR : ∀ ρ H n, J ρ H n → Runs P f N k ρ H n Q) : Runs P f N (.code (.region id ops.toArray true) :: k) ρ H n Q := by
  intro c a hH hn g r b cs hf hk
  subst hH
  subst hn
  obtain ⟨d1, d2⟩ := draw_keeps g
  simp only [Ab.drawT, Bool.and_eq_true, decide_eq_true_eq] at hB
  have hany := AnyC.lex (P := P) (N := N) (Stab := Stab) (hard := hard) (ops := ops.toArray) ops.toArray.size t (Array.replicate ops.toArray.size false) (ρ, c.H, c.n) hB.2 hB.1.1 hB.1.2 h
  have hw : (Code.region id ops.toArray true).wp P (fun e a' w' => e = .normal ∧ ∃ c' ρ', c'.w = w' ∧ Keeps c c' ∧ Good c' ∧ RelE N c' ρ' a' ∧ Runs P f N k ρ' c'.H c'.n Q) a c.w := by
    refine wp_region_any hm ?_
    have := AnyC.sound (P := P) (N := N) (Stab := Stab) (hard := hard) (ops := ops.toArray) (c0 := c) (by simpa using hN) (Q := fun e a' w' => e = .normal ∧ ∃ c' ρ', c'.w = w' ∧ Keeps c c' ∧ Good c' ∧ RelE N c' ρ' a' ∧ Runs P f N k ρ' c'.H c'.n Q)
      (R := atS J) (fun a' c' ρ' hk' hg' hr' hR' => ⟨rfl, c', ρ', rfl, hk', hg', hr', hR _ _ _ hR'⟩) ops.toArray.size (Array.replicate ops.toArray.size false) ρ { c with w := { c.w with drawn := c.w.drawn + 1 } } a d1 d2 (r.keeps d1) hany
    simpa using this
  obtain ⟨e, a', w', ⟨rfl, c', ρ', rfl, hk', hg', hr', hR⟩, harr⟩ := hw b k cs
  obtain ⟨x, v, c'', fr, q, hr, hg, hke, hst, rest⟩ := hR c' a' rfl rfl hg' hr' b cs hf hk
  exact ⟨x, v, c'', fr, q, hr, hg, hk'.trans hke, Steps.trans harr hst, rest⟩
theorem Runs.seqC (Stab : Heap → Nat → Prop) (hard : List Nat) (t : OrdT) (J : Env → Heap → Nat → Prop) {id : Nat} {ops : List Oper} {y : Code} (hm : P.follows .mixedOrders = true) (hN : ops.all (fun o => dok N o.dst) = true) (hB : Ab.drawT ops.toArray hard t = true)
    (h : RunT P N ops.toArray Stab hard (atS J) t (ρ, H, n)) (hR : ∀ ρ H n, J ρ H n → Runs P f N (.code y :: k) ρ H n Q) : Runs P f N (.code (.seq (.region id ops.toArray true) y) :: k) ρ H n Q :=
  Runs.seq (Runs.drawC Stab hard t J hm hN hB h hR)
end
section
variable {P : Program} {N : Nat} {ops : Array Oper} {Stab : Heap → Nat → Prop} {hard : List Nat} {R : AS → Prop} {ρ : Env} {H : Heap} {n : Nat} {i : Nat} {l : OrdT} {Ty : Types}
theorem RunT.fin {J : Env → Heap → Nat → Prop} (h : J ρ H n) : RunT P N ops Stab hard (atS J) .fin (ρ, H, n) := h
theorem RunT.free {o : Oper} (v : AVal) (ho : ops.toList[i]? = some o) (hg : gok ops o ρ = some true) (hS : Stab H n) (hop : ∀ H n, Stab H n → OpSem P N o (loc o.op ρ) H n (isV v H n)) (h : RunT P N ops Stab hard R l (ρ.put o.dst v, H, n)) : RunT P N ops Stab hard R (.free i l) (ρ, H, n) :=
  ⟨o, by rw [← Array.getElem?_toList]; exact ho, hS, _, ⟨v, rfl, .inl ⟨hg, hop⟩⟩, h⟩
theorem RunT.skip {o : Oper} (ho : ops.toList[i]? = some o) (hg : gok ops o ρ = some false) (hS : Stab H n) (h : RunT P N ops Stab hard R l (ρ.put o.dst skv, H, n)) : RunT P N ops Stab hard R (.free i l) (ρ, H, n) :=
  ⟨o, by rw [← Array.getElem?_toList]; exact ho, hS, _, ⟨skv, rfl, .inr ⟨hg, rfl⟩⟩, h⟩
theorem RunT.heavy {o : Oper} (post : AVal → Heap → Nat → Prop) (ho : ops.toList[i]? = some o) (hg : gok ops o ρ = some true) (hop : OpSem P N o (loc o.op ρ) H n post) (h : ∀ v H' n', post v H' n' → (lateC ops hard i = false → Stab H' n') ∧ RunT P N ops Stab hard R l (ρ.put o.dst v, H', n')) : HardT P N ops Stab hard (RunT P N ops Stab hard R l) i (ρ, H, n) :=
  ⟨o, by rw [← Array.getElem?_toList]; exact ho, hg, post, hop, h⟩
theorem RunT.step (hT : TypesOk P Ty) {o : Oper} {v : AVal} {H' : Heap} {n' : Nat} (ho : ops.toList[i]? = some o) (hg : gok ops o ρ = some true) (hs : stepF Ty o.dst o.op ρ H n = some (v, H', n')) (hS : lateC ops hard i = false → Stab H' n') (h : RunT P N ops Stab hard R l (ρ.put o.dst v, H', n')) : HardT P N ops Stab hard (RunT P N ops Stab hard R l) i (ρ, H, n) :=
  RunT.heavy (isV v H' n') ho hg (stepF_ok hT (by rw [stepF_loc]; exact hs)) (by rintro _ _ _ ⟨rfl, rfl, rfl⟩; exact ⟨hS, h⟩)
theorem RunT.same (hT : TypesOk P Ty) {o : Oper} {v : AVal} (ho : ops.toList[i]? = some o) (hg : gok ops o ρ = some true) (hs : stepF Ty o.dst o.op ρ H n = some (v, H, n)) (hS : lateC ops hard i = false → Stab H n) (h : RunT P N ops Stab hard R l (ρ.put o.dst v, H, n)) : HardT P N ops Stab hard (RunT P N ops Stab hard R l) i (ρ, H, n) :=
  RunT.step hT ho hg hs hS h
theorem loc_argsC {d : Operand} {args : Array Operand} {ats : Array TypeId} : args.toList.map (loc (.call ⟨.value d, args, ats⟩) ρ).ev = args.toList.map ρ.ev ∧ (loc (.call ⟨.value d, args, ats⟩) ρ).ev d = ρ.ev d :=
  ⟨List.map_congr_left fun x hx => loc_ev (by simp [Op.operands, Call.operands]; exact .inr (by simpa using hx)), loc_ev (by simp [Op.operands, Call.operands])⟩
theorem RunT.callEff {d : Option Tmp} {g : Operand} {args : Array Operand} {ats : Array TypeId} {ty : TypeId} {pos : String} {af : Array Edge} {gu : Option (Nat × Bool)} {f' : FuncId} {xsA ysA caps : List AVal} {σ : Type} {I : σ → Heap → List OwnE → Prop} {s : σ} {Y : σ → AVal → Prop} {M R' E K0 : List OwnE} {A W B : List Id}
    (ho : ops.toList[i]? = some ⟨d, .call ⟨.value g, args, ats⟩, ty, pos, af, gu⟩) (hgu : gok ops ⟨d, .call ⟨.value g, args, ats⟩, ty, pos, af, gu⟩ ρ = some true) (h : EffT P f' (ysA ++ caps) W I s M Y) (hsub : SubL xsA ysA) (hent : Ent P f') (hi : I s H E) (hw : ∀ w ∈ W, w ∉ A ++ B) (hs : Sep H n (M ++ (R' ++ (E ++ K0))) (A ++ (W ++ B)))
    (hg : ρ.ev g = .fn (.func f') [] caps) (has : args.toList.map ρ.ev = xsA)
    (hk : ∀ r H1 n1 s' E', Y s' r → I s' H1 E' → Sep H1 n1 (R' ++ (E' ++ K0)) (A ++ (W ++ B)) → n ≤ n1 → (∀ i ∈ A ++ B, H1 i = H i) → (lateC ops hard i = false → Stab H1 n1) ∧ RunT P N ops Stab hard R l (ρ.put d r, H1, n1)) :
    HardT P N ops Stab hard (RunT P N ops Stab hard R l) i (ρ, H, n) :=
  RunT.heavy _ ho hgu (OpSem.call (first := []) (captured := caps) (post := fun r H1 n1 => ∃ s' E', Y s' r ∧ I s' H1 E' ∧ Sep H1 n1 (E' ++ (R' ++ K0)) (W ++ (A ++ B)) ∧ (∀ i ∈ A ++ B, H1 i = H i) ∧ n ≤ n1) (by rw [loc_argsC.2]; exact hg) hent (by
    rw [loc_argsC.1, has, List.nil_append]
    exact CallsA.sub (hsub.append (.refl caps)) (h H n (R' ++ K0) (A ++ B) E hi hw (Sep.idm (Sep.mid hs))))) fun r H' n' ⟨s', E', h1, h2, h3, h4, h5⟩ => hk r H' n' s' E' h1 h2 (Sep.idm (Sep.mid (A := []) h3)) h5 h4
theorem RunT.callW {K : List OwnE} {ids : List Id} {d : Option Tmp} {g : Operand} {args : Array Operand} {ats : Array TypeId} {ty : TypeId} {pos : String} {af : Array Edge} {gu : Option (Nat × Bool)} {R' : AVal → Prop} {f' : FuncId} {as1 args' : List AVal} {sh : Sh}
    (ho : ops.toList[i]? = some ⟨d, .call ⟨.value g, args, ats⟩, ty, pos, af, gu⟩) (hgu : gok ops ⟨d, .call ⟨.value g, args, ats⟩, ty, pos, af, gu⟩ ρ = some true) (h : OwnS P f' args' sh R') (hent : Ent P f') (ha : ArgsOk H n as1 args') (hs : Sep H n K ids) (hg : ρ.ev g = .fn (.func f') [] []) (has : args.toList.map ρ.ev = as1)
    (hk : ∀ v H1 n1 r, Sep H1 n1 ((sh, v, r) :: K) ids → R' r → n ≤ n1 → (∀ i ∈ ids, H1 i = H i) → (lateC ops hard i = false → Stab H1 n1) ∧ RunT P N ops Stab hard R l (ρ.put d v, H1, n1)) :
    HardT P N ops Stab hard (RunT P N ops Stab hard R l) i (ρ, H, n) :=
  RunT.heavy _ ho hgu (OpSem.callW (by rw [loc_argsC.2]; exact hg) hent (by rw [loc_argsC.1, has]; exact ha) h hs) fun v H' n' ⟨r, h1, h2, h3, h4⟩ => hk v H' n' r h1 h2 h3 h4
theorem RunT.callA {d : Option Tmp} {g : Operand} {args : Array Operand} {ats : Array TypeId} {ty : TypeId} {pos : String} {af : Array Edge} {gu : Option (Nat × Bool)} {v : AVal} {f' : FuncId} {as1 args' : List AVal}
    (ho : ops.toList[i]? = some ⟨d, .call ⟨.value g, args, ats⟩, ty, pos, af, gu⟩) (hgu : gok ops ⟨d, .call ⟨.value g, args, ats⟩, ty, pos, af, gu⟩ ρ = some true) (h : PureC P f' args' (fun r => r = v)) (hent : Ent P f') (ha : ArgsOk H n as1 args') (hg : ρ.ev g = .fn (.func f') [] []) (has : args.toList.map ρ.ev = as1)
    (hS : lateC ops hard i = false → Stab H n) (hk : RunT P N ops Stab hard R l (ρ.put d v, H, n)) : HardT P N ops Stab hard (RunT P N ops Stab hard R l) i (ρ, H, n) :=
  RunT.heavy (isV v H n) ho hgu (OpSem.callD hg hent (has ▸ ha) h) (by rintro _ _ _ ⟨rfl, rfl, rfl⟩; exact ⟨hS, hk⟩)
theorem RunT.append (hT : TypesOk P Ty) {d : Nat} {t : TypeId} {j : TI} {s x : Operand} {ty : TypeId} {pos : String} {af : Array Edge} {gu : Option (Nat × Bool)} {v xv : AVal} {l' : List Sh} {es : List (List AVal)} {ids : List Id} (K1 K2 : List OwnE) (add adds : List (List AVal))
    (ho : ops.toList[i]? = some ⟨some d, .call ⟨.builtin .append, #[s, x], #[t, t]⟩, ty, pos, af, gu⟩) (hgu : gok ops ⟨some d, .call ⟨.builtin .append, #[s, x], #[t, t]⟩, ty, pos, af, gu⟩ ρ = some true) (hsv : ρ.ev s = v) (hxv : ρ.ev x = xv) (h : Sep H n ((.s l', v, .list true es) :: (K1 ++ K2)) ids) (hk : kd Ty t = .slice j) (hj : j.size = l'.length) (hz : j.zero.length = j.size ∧ j.bytes ≤ 131072)
    (hx : srcOf H xv = some add) (ho1 : add.all (fun e => e.all Ab.one1) = true) (hadd : ∀ S, Row H (K1.map (·.1)) (K1.map (·.2.1)) (K1.map (·.2.2)) S → rowsP (Row H l') add adds S) (hne : adds ≠ []) (hlen : es.length + adds.length ≤ 1073741824)
    (hc : ∀ v' H' n', Sep H' n' ((.s l', v', .list true (es ++ adds)) :: K2) ids → (∀ i ∈ ids, H' i = H i) → n ≤ n' → (lateC ops hard i = false → Stab H' n') ∧ RunT P N ops Stab hard R l (ρ.put (some d) v', H', n')) : HardT P N ops Stab hard (RunT P N ops Stab hard R l) i (ρ, H, n) := by
  obtain ⟨v', H', n', h1, h2, h3, h4⟩ := Sep.append (d := d) h hk hj hz hx ho1 hadd hne hlen
  obtain ⟨q1, q2⟩ := hc v' H' n' h2 h3 h4
  refine RunT.step hT ho hgu ?_ q1 q2
  show (if t = t then appendF Ty (some d) t (ρ.ev s) (ρ.ev x) H n else none) = _
  rw [if_pos rfl, hsv, hxv, h1]
theorem RunT.append0 (hT : TypesOk P Ty) {d : Nat} {t : TypeId} {j : TI} {s x : Operand} {ty : TypeId} {pos : String} {af : Array Edge} {gu : Option (Nat × Bool)} {v xv : AVal} {l' : List Sh} {es : List (List AVal)} {K : List OwnE} {ids : List Id} (add : List (List AVal))
    (ho : ops.toList[i]? = some ⟨some d, .call ⟨.builtin .append, #[s, x], #[t, t]⟩, ty, pos, af, gu⟩) (hgu : gok ops ⟨some d, .call ⟨.builtin .append, #[s, x], #[t, t]⟩, ty, pos, af, gu⟩ ρ = some true) (hsv : ρ.ev s = v) (hxv : ρ.ev x = xv) (h : Sep H n ((.s l', v, .list true es) :: K) ids) (hf : ∀ t ∈ l', t = .c) (hk : kd Ty t = .slice j) (hj : j.size = l'.length) (hz : j.zero.length = j.size ∧ j.bytes ≤ 131072)
    (hx : srcOf H xv = some add) (ho1 : ∀ e ∈ add, e.length = l'.length ∧ ∀ a ∈ e, Fresh a ∧ Ab.one1 a = true) (hlen : es.length + add.length ≤ 1073741824)
    (hc : ∀ v' H' n', Sep H' n' ((.s l', v', .list true (es ++ add)) :: K) ids → (∀ i ∈ ids, H' i = H i) → n ≤ n' → (lateC ops hard i = false → Stab H' n') ∧ RunT P N ops Stab hard R l (ρ.put (some d) v', H', n')) : HardT P N ops Stab hard (RunT P N ops Stab hard R l) i (ρ, H, n) := by
  obtain ⟨v', H', n', h1, h2, h3, h4⟩ := Sep.append0 (d := d) h hf hk hj hz hx ho1 hlen
  obtain ⟨q1, q2⟩ := hc v' H' n' h2 h3 h4
  refine RunT.step hT ho hgu ?_ q1 q2
  show (if t = t then appendF Ty (some d) t (ρ.ev s) (ρ.ev x) H n else none) = _
  rw [if_pos rfl, hsv, hxv, h1]
theorem OpSem.stillD {d : Option Tmp} {g : Operand} {args : Array Operand} {ats : Array TypeId} {ty : TypeId} {pos : String} {af : Array Edge} {gu : Option (Nat × Bool)} {v : AVal} {f' : FuncId} {as1 : List AVal} (h : StillC P f' as1 H n (fun r => r = v)) (hent : Ent P f') (hg : ρ.ev g = .fn (.func f') [] []) (has : args.toList.map ρ.ev = as1) :
    OpSem P N ⟨d, .call ⟨.value g, args, ats⟩, ty, pos, af, gu⟩ (loc (.call ⟨.value g, args, ats⟩) ρ) H n (isV v H n) :=
  OpSem.call (by rw [loc_argsC.2]; exact hg) hent (by rw [loc_argsC.1, has, List.nil_append, List.append_nil]; exact h)
theorem OpSem.appendD (hT : TypesOk P Ty) {d : Option Tmp} {ty : TypeId} {pos : String} {af : Array Edge} {gu : Option (Nat × Bool)} {t : TypeId} {s x : Operand} {j : TI} {fr t' : Bool} {l m : List Int} (hk : kd Ty t = .slice j) (hz : j.size = 1 ∧ j.zero.length = 1 ∧ j.bytes ≤ 131072) (hs : ρ.ev s = .clip fr (l.map intV)) (hx : ρ.ev x = .list t' (m.map intC))
    (hne : m ≠ []) (hm : l.length + m.length ≤ 1073741824) :
    OpSem P N ⟨d, .call ⟨.builtin .append, #[s, x], #[t, t]⟩, ty, pos, af, gu⟩ (loc (.call ⟨.builtin .append, #[s, x], #[t, t]⟩) ρ) H n (isV (.list true ((l ++ m).map intC)) H n) := by
  have e1 : (loc (.call ⟨.builtin .append, #[s, x], #[t, t]⟩) ρ).ev s = ρ.ev s := loc_ev (by simp [Op.operands, Call.operands])
  have e2 : (loc (.call ⟨.builtin .append, #[s, x], #[t, t]⟩) ρ).ev x = ρ.ev x := loc_ev (by simp [Op.operands, Call.operands])
  exact OpSem.appendLI hT hk hz (by rw [e1]; exact hs) (by rw [e2]; exact hx) hne hm
theorem OpSem.build0 (hT : TypesOk P Ty) {d : Option Tmp} {ty : TypeId} {pos : String} {af : Array Edge} {gu : Option (Nat × Bool)} {t : TypeId} {j : TI} (hk : kd Ty t = .slice j) :
    OpSem P N ⟨d, .buildSlice t 0 #[], ty, pos, af, gu⟩ ρ H n (isV (.list true []) H n) := by
  refine OpSem.of_value fun c a hH hn g r => ?_
  obtain ⟨i, e, hi, hd, hj⟩ := kd_slice hk
  have hde := (hT t i hi).run_desc c.w
  have hsz := (hT e j hj).run_size c.w
  have hk := push_keeps g (.cells #[] e)
  refine ⟨.list true [], .slice (some ⟨c.w.heap.size, 0, none⟩) 0 0, { c with w := { c.w with heap := c.w.heap.push (.cells #[] e) } }, ?_, ⟨rfl, hH, hn⟩, ?_, hk.2, hk.1⟩
  · simp [execOp, Instr.buildSlice, hde, hd, hsz, Instr.fill, newRow, range0]
  · exact .list true [] _ 0 0 (fun _ _ => Go.undef) (by simp) (Nat.le_refl _) (by simp) (by simp) (by simp) (by simp)
end
end Go.Ab
/- Walks by program for YtbpdcoahefnnkaaGreatDoorAbMn. -/
namespace Go.Ab.Vg
open Go.Proofs
set_option maxRecDepth 100000
set_option linter.unusedSimpArgs false
set_option linter.unusedVariables false
attribute [local simp] GNode.cells Wire.cells Match.cells intC sliceC strC bC mC pA
theorem e132 : Ent Tryz.prog 132 := Ent.of Tryz.func132 (by kernel_rfl) rfl
theorem clipI_ok (t : Bool) (l : List Int) (H : Heap) (n : Nat) : StillC Tryz.prog 132 [.list t (l.map intC)] H n (fun r => r = .clip t (l.map intV)) := by
  refine CallsA.of Tryz.func132 rfl Tryz.ntmps132 (by simp) fun Q hQ => ?_
  refine Runs.cut (fun ρ H1 n1 => ρ 0 = .list t (l.map intC) ∧ H1 = H ∧ n1 = n) (by simp) ?_
  rintro ρ H n1 ⟨h0, rfl, rfl⟩
  refine zE fun k' hk' => ?_
  simp [h0]
  apply hk'
  refine zE fun k' hk' => ?_
  have f1 := fun H => len_list (H := H) (fr := t) (f := intC) (l := l) (v := (l.length : Int)) kd_24 rfl
  simp [h0, f1]
  refine RunK.clipS (fr := t) (vs := l.map intV) (k1 := .i64) (k2 := .i64) Ty_ok (by decide) (by decide) kd_24 (by rw [intV_map]; simp [h0]) (by simp) (by simp) ?_
  simp
  apply hk'
  exact Runs.ret1 (v := .clip t (l.map intV)) Tryz.func132 Tryz.results132 (by simp) (hQ _ _ _ ⟨rfl, rfl, rfl⟩)
theorem e170 : Ent Tryz.prog 170 := Ent.of Tryz.func170 (by kernel_rfl) rfl
theorem cloneI_walk (s : List Int) (Z : (List Int) → Prop) (h : cloneI_wp s Z) : OwnS Tryz.prog 170 [.list false (s.map intC)] (.s [.c]) (fun r => ∃ y : List Int, Z y ∧ r = .list true (y.map intC)) := by
  unfold cloneI_wp at h
  have sp : Sep noHeap 0 [] [] := Sep.nil (by simp)
  refine OwnS.of Tryz.func170 rfl Tryz.ntmps170 (by simp) fun Q hQ => ?_
  refine Runs.cut (fun ρ H n => ρ 0 = .list false (s.map intC) ∧ Sep H n [] []) (by refine ⟨?_, sp⟩ <;> simp ) ?_
  rintro ρ H n1 ⟨hh, sp⟩
  refine zE fun k' hk' => ?_
  simp [hh]
  apply hk'
  refine Runs.seq ?_
  refine zE fun k' hk' => ?_
  simp [hh]
  refine RunK.isNil (fr := false) (els := s.map intC) Ty_ok (by decide) (by decide) kd_24 (by simp [hh]) (by simp [hh]) ?_
  rintro c2 hc3
  replace h := h c2 (fun hq => by simpa using hc3 hq)
  simp [hh]
  apply hk'
  refine Runs.ite (b := c2) (by simp [hh]) (fun dc2 => ?_) (fun dc2 => ?_)
  · replace h := h.1 dc2
    refine zE fun k' hk' => ?_
    simp [hh, dc2]
    apply hk'
    exact Runs.ret1 (v := .v (.slice none 0 0)) Tryz.func170 Tryz.results170 (by simp [hh, dc2]) (hQ _ _ _ _ (Sep.sub (ids' := []) (Sep.addNil sp) (by simp)) ⟨[], h, rfl⟩)
  replace h := h.2 dc2
  refine Runs.skip ?_
  refine zE fun k' hk' => ?_
  obtain ⟨hb6, h⟩ := h
  obtain ⟨l7, el7, h⟩ := atm h
  simp [hh, dc2, -appendF]
  refine bind_append0 (s.map intC) (Sep.addEmpty (l := [.c]) sp) (by simp) kd_24 (by simp) (by simp) (by simp [srcOf]) (by simp [-one1, o1x]) (by simpa using hb6) ?_
  rintro v8 H9 n10 sp hfr11 hle12
  replace sp : Sep H9 n10 [oI v8 l7] [] := by refine Sep.ap el7 ?_; exact sp
  simp [hh, dc2]
  apply hk'
  refine Runs.cut (fun ρ H n => ∃ (v14 : AVal), ρ 2 = v14 ∧ Sep H n [oI v14 l7] []) (by refine ⟨v8, ?_, sp⟩ <;> simp [hh, dc2]) ?_
  clear hh
  rintro ρ H n15 ⟨v14, hh, sp⟩
  exact Runs.ret1 (v := v14) Tryz.func170 Tryz.results170 (by simp [hh]) (hQ _ _ _ _ (Sep.sub (ids' := []) sp (by simp)) ⟨l7, h, rfl⟩)
theorem cloneI_ok (s : List Int) (hp : cloneI_pre s) : OwnS Tryz.prog 170 [.list false (s.map intC)] (.s [.c]) (fun r => r = .list true ((cloneI s).map intC)) := (cloneI_walk s _ (cloneI_vc s hp)).mono (by rintro _ ⟨_, rfl, rfl⟩; rfl)
theorem e112 : Ent Tryz.prog 112 := Ent.of Tryz.func112 (by kernel_rfl) rfl
theorem l1Own_walk (l : List Int) (Z : (List Int) → Prop) (h : l1Own_wp l Z) : OwnS Tryz.prog 112 [.list false (l.map intC)] (.s [.c]) (fun r => ∃ y : List Int, Z y ∧ r = .list true (y.map intC)) := by
  unfold l1Own_wp at h
  have sp : Sep noHeap 0 [] [] := Sep.nil (by simp)
  refine OwnS.of Tryz.func112 rfl Tryz.ntmps112 (by simp) fun Q hQ => ?_
  refine Runs.cut (fun ρ H n => ρ 0 = .list false (l.map intC) ∧ Sep H n [] []) (by refine ⟨?_, sp⟩ <;> simp ) ?_
  rintro ρ H n1 ⟨hh, sp⟩
  refine zE fun k' hk' => ?_
  simp [hh]
  apply hk'
  refine zE fun k' hk' => ?_
  obtain ⟨hb3, h⟩ := h
  obtain ⟨l4, el4, h⟩ := atm h
  simp [hh, -appendF]
  refine bind_append0 (l.map intC) (Sep.addEmpty (l := [.c]) sp) (by simp) kd_24 (by simp) (by simp) (by simp [srcOf]) (by simp [-one1, o1x]) (by simpa using hb3) ?_
  rintro v5 H6 n7 sp hfr8 hle9
  replace sp : Sep H6 n7 [oI v5 l4] [] := by refine Sep.ap el4 ?_; exact sp
  simp [hh]
  apply hk'
  refine Runs.cut (fun ρ H n => ∃ (v11 : AVal), ρ 2 = v11 ∧ Sep H n [oI v11 l4] []) (by refine ⟨v5, ?_, sp⟩ <;> simp [hh]) ?_
  clear hh
  rintro ρ H n12 ⟨v11, hh, sp⟩
  exact Runs.ret1 (v := v11) Tryz.func112 Tryz.results112 (by simp [hh]) (hQ _ _ _ _ (Sep.sub (ids' := []) sp (by simp)) ⟨l4, h, rfl⟩)
theorem l1Own_ok (l : List Int) (hp : l1Own_pre l) : OwnS Tryz.prog 112 [.list false (l.map intC)] (.s [.c]) (fun r => r = .list true ((l1Own l).map intC)) := (l1Own_walk l _ (l1Own_vc l hp)).mono (by rintro _ ⟨_, rfl, rfl⟩; rfl)
theorem e130 : Ent Tryz.prog 130 := Ent.of Tryz.func130 (by kernel_rfl) rfl
theorem ownMatch_walk (m : Match) (Z : Match → Prop) (h : ownMatch_wp m Z) : OwnS Tryz.prog 130 [.agg (mC false m)] (.a [.s [.c], .s [.c]]) (fun r => ∃ y : Match, Z y ∧ r = .agg (mC true y)) := by
  unfold ownMatch_wp at h
  have sp : Sep noHeap 0 [] [] := Sep.nil (by simp)
  refine OwnS.of Tryz.func130 rfl Tryz.ntmps130 (by simp) fun Q hQ => ?_
  refine Runs.cut (fun ρ H n => ρ 0 = .agg (mC false m) ∧ Sep H n [] []) (by refine ⟨?_, sp⟩ <;> simp ) ?_
  rintro ρ H n1 ⟨hh, sp⟩
  refine zE fun k' hk' => ?_
  simp [hh]
  apply hk'
  refine Runs.cut (fun ρ H n => (ρ 1 = pA n1 1 ∧ ρ 2 = pA (n1 + 1) 2) ∧ H (n1, 1) = some ⟨2, [mC false m]⟩ ∧ H (n1 + 1, 2) = some ⟨2, [[.v (.slice none 0 0), .v (.slice none 0 0)]]⟩ ∧ Sep H n [] [(n1 + 1, 2), (n1, 1)]) (by refine ⟨?_, ?_, ?_, sp.var.var⟩ <;> simp [hh]) ?_
  clear hh
  rintro ρ H n4 ⟨hh, m1_1, m2_2, sp⟩
  refine Runs.cut (fun ρ H n => (ρ 1 = pA n1 1 ∧ ρ 2 = pA (n1 + 1) 2) ∧ H (n1, 1) = some ⟨2, [mC false m]⟩ ∧ H (n1 + 1, 2) = some ⟨2, [[.v (.slice none 0 0), .v (.slice none 0 0)]]⟩ ∧ Sep H n [] [(n1 + 1, 2), (n1, 1)]) (by refine ⟨?_, ?_, ?_, sp⟩ <;> simp [hh, m1_1, m2_2]) ?_
  clear hh m1_1 m2_2
  rintro ρ H n5 ⟨hh, m1_1, m2_2, sp⟩
  obtain ⟨hb6, h⟩ := h
  obtain ⟨r7, er7, h⟩ := atm h
  obtain ⟨hb9, h⟩ := h
  obtain ⟨r10, er10, h⟩ := atm h
  refine Runs.seqC (fun H n => H (n1, 1) = some ⟨2, [mC false m]⟩ ∧ H (n1 + 1, 2) = some ⟨2, [[.v (.slice none 0 0), .v (.slice none 0 0)]]⟩ ∧ Sep H n [] [(n1 + 1, 2), (n1, 1)]) [2, 5, 6, 7] (.free 0 (.free 1 (.free 3 (.free 4 (.hard 2 (.hard 5 (.hard 6 (.hard 7 (.fin) (.stop)) (.stop)) (.stop)) (.stop)))))) (fun ρ H n => ∃ (v12 v13 : AVal), ρ 2 = pA (n1 + 1) 2 ∧ H (n1 + 1, 2) = some ⟨2, [[v13, v12]]⟩ ∧ Sep H n [oI v12 r10, oI v13 r7] [(n1 + 1, 2)]) draws (by decide) (by kernel_rfl) ?_ ?_
  · refine RunT.free (pA n1 1) rfl rfl ⟨m1_1, m2_2, sp⟩ (fun H n hS => by obtain ⟨m1_1, m2_2, sp⟩ := hS; exact (by exact stepF_ok Ty_ok (by rw [stepF_loc]; simp [hh, m1_1, m2_2]))) ?_
    refine RunT.free (.list false (m.nodes.map intC)) rfl rfl ⟨m1_1, m2_2, sp⟩ (fun H n hS => by obtain ⟨m1_1, m2_2, sp⟩ := hS; exact (by exact stepF_ok Ty_ok (by rw [stepF_loc]; simp [hh, m1_1, m2_2]))) ?_
    refine RunT.free (.ptr (n1, 1) 1 0 1) rfl rfl ⟨m1_1, m2_2, sp⟩ (fun H n hS => by obtain ⟨m1_1, m2_2, sp⟩ := hS; exact (by exact stepF_ok Ty_ok (by rw [stepF_loc]; simp [hh, m1_1, m2_2]))) ?_
    refine RunT.free (.list false (m.roots.map intC)) rfl rfl ⟨m1_1, m2_2, sp⟩ (fun H n hS => by obtain ⟨m1_1, m2_2, sp⟩ := hS; exact (by exact stepF_ok Ty_ok (by rw [stepF_loc]; simp [hh, m1_1, m2_2]))) ?_
    refine ⟨?_, trivial⟩
    refine RunT.callW (as1 := [.list false (m.nodes.map intC)]) rfl rfl (cloneI_ok m.nodes hb6) e170 (.cons (argI false m.nodes) .nil) sp (by simp [hh, m1_1, m2_2]) (by simp [hh, m1_1, m2_2]) ?_
    rintro v19 H15 n16 _ sp rfl hle18 hfr17
    rw [← er7] at sp
    replace sp : Sep H15 n16 [oI v19 r7] [(n1 + 1, 2), (n1, 1)] := sp
    have m1_1 : H15 (n1, 1) = some ⟨2, [mC false m]⟩ := (hfr17 _ (by simp)).trans (by simp [hh, m1_1, m2_2, Heap.get_set])
    have m2_2 : H15 (n1 + 1, 2) = some ⟨2, [[.v (.slice none 0 0), .v (.slice none 0 0)]]⟩ := (hfr17 _ (by simp)).trans (by simp [hh, m1_1, m2_2, Heap.get_set])
    refine ⟨(fun _ => ⟨m1_1, m2_2, sp.dr⟩), ?_⟩
    refine ⟨?_, trivial⟩
    refine RunT.callW (as1 := [.list false (m.roots.map intC)]) rfl rfl (cloneI_ok m.roots hb9) e170 (.cons (argI false m.roots) .nil) sp (by simp [hh, m1_1, m2_2]) (by simp [hh, m1_1, m2_2]) ?_
    rintro v26 H22 n23 _ sp rfl hle25 hfr24
    rw [← er10] at sp
    replace sp : Sep H22 n23 [oI v26 r10, oI v19 r7] [(n1 + 1, 2), (n1, 1)] := sp
    have m1_1 : H22 (n1, 1) = some ⟨2, [mC false m]⟩ := (hfr24 _ (by simp)).trans (by simp [hh, m1_1, m2_2, Heap.get_set])
    have m2_2 : H22 (n1 + 1, 2) = some ⟨2, [[.v (.slice none 0 0), .v (.slice none 0 0)]]⟩ := (hfr24 _ (by simp)).trans (by simp [hh, m1_1, m2_2, Heap.get_set])
    refine ⟨(fun hl => absurd (hl.symm.trans (show lateC _ _ _ = true by kernel_rfl)) (by decide)), ?_⟩
    refine ⟨?_, trivial⟩
    have f35 := Sep.oc sp.f1
    have f36 := Sep.oc sp
    refine RunT.same (v := (.agg [v19, v26])) Ty_ok rfl rfl (by simp [hh, m1_1, m2_2, f35, f36, -cellsA, -one1, cAx, o1x]) (fun hl => absurd (hl.symm.trans (show lateC _ _ _ = true by kernel_rfl)) (by decide)) ?_
    refine ⟨?_, trivial⟩
    have f43 := Sep.oc sp.f1
    have f44 := Sep.oc sp
    refine RunT.step (v := .undef) Ty_ok rfl rfl (by simp [hh, m1_1, m2_2, f35, f36, f43, f44, -cellsA, -one1, cAx, o1x]; exact ⟨rfl, rfl⟩) (fun hl => absurd (hl.symm.trans (show lateC _ _ _ = true by kernel_rfl)) (by decide)) ?_
    refine RunT.fin (by refine ⟨v26, v19, ?_, ?_, (Sep.sub (Sep.setVar (w := (n1 + 1, 2)) sp (by simp)) (by simp +contextual))⟩ <;> simp [hh, m1_1, m2_2, f35, f36, f43, f44, -cellsA, -one1, cAx, o1x])
  clear hh m1_1 m2_2
  rintro ρ H n14 ⟨v12, v13, hh, m2_2, sp⟩
  exact Runs.res1 Ty_ok (v := .agg [v13, v12]) Tryz.func130 Tryz.results130 (by simp [hh, m2_2, resA]) (hQ _ _ _ _ (Sep.sub (ids' := []) (Sep.pack (Fill.own (Fill.own Fill.nil)) sp.f1) (by simp)) ⟨(Match.mk r7 r10), h, rfl⟩)
theorem ownMatch_ok (m : Match) (hp : ownMatch_pre m) : OwnS Tryz.prog 130 [.agg (mC false m)] (.a [.s [.c], .s [.c]]) (fun r => r = .agg [.list true (((ownMatch m).nodes).map intC), .list true (((ownMatch m).roots).map intC)]) := (ownMatch_walk m _ (ownMatch_vc m hp)).mono (by rintro _ ⟨_, rfl, rfl⟩; rfl)
theorem e75 : Ent Tryz.prog 75 := Ent.of Tryz.func75 (by kernel_rfl) rfl
theorem matchesY_walk {σ : Type} (step : σ → Match → σ × Bool) (G : σ → Prop) {gY : FuncId} {capsY : List AVal} {W : List Id} {I : σ → Heap → List OwnE → Prop} (hYe : Ent Tryz.prog gY) (hM : FrameI W I) (hY : ∀ s m v, G s → MZ m → EffT Tryz.prog gY ([v] ++ capsY) W I s [(.a [.s [.c], .s [.c]], v, .agg (Match.cells true m))] (fun s' r => s' = (step s m).1 ∧ r = bool (step s m).2)) (redex : Big) (agent : Big) (nodes : List Int) (sG : σ) (Z : σ × Bool → Prop) (ih : ∀ redexr agentr nodesr sGr, matchesY_pre step G redexr agentr nodesr sGr → matchesY_ms redexr agentr nodesr < matchesY_ms redex agent nodes → EffT Tryz.prog 75 [.agg (bC false redexr), .agg (bC false agentr), .list false (nodesr.map intC), .fn (.func gY) [] capsY] W I sGr [] (fun s' r => s' = (matchesY step redexr agentr nodesr sGr).1 ∧ r = bool ((matchesY step redexr agentr nodesr sGr).2))) (h : matchesY_wp step G redex agent nodes sG Z) : EffT Tryz.prog 75 [.agg (bC false redex), .agg (bC false agent), .list false (nodes.map intC), .fn (.func gY) [] capsY] W I sG [] (fun s' r => ∃ y : Bool, Z (s', y) ∧ r = bool y) := by
  unfold matchesY_wp at h
  refine EffT.of Tryz.func75 rfl Tryz.ntmps75 (by simp) fun H0 n0 K0 ids0 E0 hI hWd sp Q hQ => ?_
  have h00 := sp.1
  have hid : ∀ i ∈ ids0, H0 i = H0 i := fun _ _ => rfl
  have hnn : n0 ≤ n0 := Nat.le_refl _
  replace sp : Sep H0 n0 (E0 ++ K0) (W ++ ids0) := sp
  refine Runs.cut (fun ρ H n => ∃ (E1 : List OwnE), (ρ 0 = .agg (bC false redex) ∧ ρ 1 = .agg (bC false agent) ∧ ρ 2 = .list false (nodes.map intC) ∧ ρ 3 = .fn (.func gY) [] capsY) ∧ n0 ≤ n ∧ (∀ i ∈ ids0, H i = H0 i) ∧ I sG H E1 ∧ Sep H n ((E1 ++ K0)) ((W ++ ids0))) (by refine ⟨E0, ?_, (by omega), hid, hI, sp⟩ <;> simp ) ?_
  rintro ρ H n2 ⟨E1, hh, hnn, hid, hI, sp⟩
  have hq_n2 := hnn
  refine zE fun k' hk' => ?_
  simp [hh]
  apply hk'
  refine Runs.cut (fun ρ H n => ∃ (E5 : List OwnE), (ρ 2 = .list false (nodes.map intC) ∧ ρ 3 = .fn (.func gY) [] capsY ∧ ρ 4 = pA n2 4 ∧ ρ 5 = pA (n2 + 1) 5) ∧ H (n2, 4) = some ⟨6, [bC false redex]⟩ ∧ H (n2 + 1, 5) = some ⟨6, [bC false agent]⟩ ∧ n0 ≤ n ∧ (∀ i ∈ ids0, H i = H0 i) ∧ I sG H E5 ∧ Sep H n ((E5 ++ K0)) ((n2 + 1, 5) :: (n2, 4) :: (W ++ ids0))) (by refine ⟨E1, ?_, ?_, ?_, (by omega), (by intro i hi; have hlt := h00 i (by simp [hi]); repeat (first | exact hid i hi | rw [Heap.get_set_ne _ _ (by rintro rfl; simp at hlt; omega)])), (hM _ _ _ _ hI (by intro w hw; have hlt := h00 w (by simp [hw]); repeat (first | rfl | rw [Heap.get_set_ne _ _ (by rintro rfl; simp at hlt; omega)]))), sp.var.var⟩ <;> simp [hh]) ?_
  clear hh
  rintro ρ H n6 ⟨E5, hh, m4_2, m5_3, hnn, hid, hI, sp⟩
  have hq_n6 := hnn
  refine zE fun k' hk' => ?_
  obtain ⟨len7, elen7, h⟩ := atm h
  have f8 := fun H => len_list (H := H) (fr := false) (f := intC) kd_24 elen7
  simp [hh, m4_2, m5_3, f8, -lenF]
  apply hk'
  refine Runs.seq ?_
  refine zE fun k' hk' => ?_
  obtain ⟨len9, elen9, h⟩ := atm h
  have f10 := fun H => len_list (H := H) (fr := false) (f := (GNode.cells false)) kd_44 elen9
  obtain ⟨c11, ec11, h⟩ := atm h
  have f12 := ib_eql (k := .i64) ec11
  simp [hh, m4_2, m5_3, f10, f12, -intBin, -lenF]
  apply hk'
  refine Runs.ite (b := c11) (by simp [hh, m4_2, m5_3]) (fun dc11 => ?_) (fun dc11 => ?_)
  · replace h := h.1 dc11
    refine zE fun k' hk' => ?_
    simp [hh, m4_2, m5_3, dc11]
    apply hk'
    refine Runs.cut (fun ρ H n => ∃ (E14 : List OwnE), (ρ 2 = .list false (nodes.map intC) ∧ ρ 3 = .fn (.func gY) [] capsY ∧ ρ 4 = pA n2 4 ∧ ρ 5 = pA (n2 + 1) 5 ∧ ρ 10 = pA n6 10) ∧ H (n2, 4) = some ⟨6, [bC false redex]⟩ ∧ H (n2 + 1, 5) = some ⟨6, [bC false agent]⟩ ∧ H (n6, 10) = some ⟨2, [[.list false (nodes.map intC), .v (.slice none 0 0)]]⟩ ∧ n0 ≤ n ∧ (∀ i ∈ ids0, H i = H0 i) ∧ I sG H E14 ∧ Sep H n ((E14 ++ K0)) ((n6, 10) :: (n2 + 1, 5) :: (n2, 4) :: (W ++ ids0))) (by refine ⟨E5, ?_, ?_, ?_, ?_, (by omega), (by intro i hi; have hlt := h00 i (by simp [hi]); repeat (first | exact hid i hi | rw [Heap.get_set_ne _ _ (by rintro rfl; simp at hlt; omega)])), (hM _ _ _ _ hI (by intro w hw; have hlt := h00 w (by simp [hw]); repeat (first | rfl | rw [Heap.get_set_ne _ _ (by rintro rfl; simp at hlt; omega)]))), sp.var⟩ <;> simp [hh, m4_2, m5_3, dc11]) ?_
    clear hh m4_2 m5_3
    rintro ρ H n15 ⟨E14, hh, m4_2, m5_3, m10_12, hnn, hid, hI, sp⟩
    have hq_n15 := hnn
    refine Runs.seq ?_
    refine zE fun k' hk' => ?_
    simp [hh, m4_2, m5_3, m10_12]
    apply hk'
    refine Runs.block ?_
    refine Runs.loopW h (fun (sJ : σ × Int × (List Int)) ρ H n => match sJ with | (sG28, v29, l30) => ∃ (v31 : AVal) (E32 : List OwnE), (ρ 2 = .list false (nodes.map intC) ∧ ρ 3 = .fn (.func gY) [] capsY ∧ ρ 4 = pA n2 4 ∧ ρ 5 = pA (n2 + 1) 5 ∧ ρ 10 = pA n6 10 ∧ ρ 27 = int redex.roots ∧ ρ 28 = int v29) ∧ H (n2, 4) = some ⟨6, [bC false redex]⟩ ∧ H (n2 + 1, 5) = some ⟨6, [bC false agent]⟩ ∧ H (n6, 10) = some ⟨2, [[.list false (nodes.map intC), v31]]⟩ ∧ n0 ≤ n ∧ (∀ i ∈ ids0, H i = H0 i) ∧ I sG28 H E32 ∧ Sep H n (oI v31 l30 :: (E32 ++ K0)) ((n6, 10) :: (n2 + 1, 5) :: (n2, 4) :: (W ++ ids0))) (by refine ⟨.v (.slice none 0 0), E14, ?_, ?_, ?_, ?_, (by omega), (by intro i hi; have hlt := h00 i (by simp [hi]); repeat (first | exact hid i hi | rw [Heap.get_set_ne _ _ (by rintro rfl; simp at hlt; omega)])), (hM _ _ _ _ hI (by intro w hw; have hlt := h00 w (by simp [hw]); repeat (first | rfl | rw [Heap.get_set_ne _ _ (by rintro rfl; simp at hlt; omega)]))), (Sep.addNil sp)⟩ <;> simp [hh, m4_2, m5_3, m10_12]) ?_
    clear hh m4_2 m5_3 m10_12
    rintro ⟨sG28, v29, l30⟩ ρ H n33 K h ⟨v31, E32, hh, m4_2, m5_3, m10_12, hnn, hid, hI, sp⟩ IH34
    have hq_n33 := hnn
    refine zE fun k' hk' => ?_
    obtain ⟨c36, ec36, h⟩ := atm h
    have f37 := ib_lss (k := .i64) ec36
    simp [hh, m4_2, m5_3, m10_12, f37, -intBin]
    apply hk'
    refine Runs.seq ?_
    refine Runs.ite (b := c36) (by simp [hh, m4_2, m5_3, m10_12]) (fun dc36 => ?_) (fun dc36 => ?_)
    · replace h := h.1 dc36
      refine Runs.skip ?_
      refine Runs.seq ?_
      refine Runs.block ?_
      refine zE fun k' hk' => ?_
      simp [hh, m4_2, m5_3, m10_12, dc36]
      apply hk'
      refine zE fun k' hk' => ?_
      obtain ⟨hb38, h⟩ := h
      obtain ⟨v39, ev39, h⟩ := atm h
      have f40 := ib_sub hb38 ev39
      obtain ⟨hb41, h⟩ := h
      obtain ⟨r42, er42, h⟩ := atm h
      simp [hh, m4_2, m5_3, m10_12, f40, dc36, -intBin]
      refine RunK.callW Ty_ok (childrenOf_ok redex v39 hb41) e126 (.cons (argB false redex) (.cons (.v _ _ _) .nil)) sp (by decide) (by decide) rfl (by simp [hh, m4_2, m5_3, m10_12, f40, dc36, -intBin]) ?_
      rintro v43 H44 n45 _ sp rfl hle47 hfr46
      rw [← er42] at sp
      have hI := hM _ _ _ _ hI (fun w hw => hfr46 w (by simp [hw]))
      have hid : ∀ i ∈ ids0, H44 i = H0 i := fun i hi => (hfr46 i (by simp [hi])).trans (hid i hi)
      have hnn : n0 ≤ n45 := by omega
      have hq_n45 := hnn
      have m4_2 : H44 (n2, 4) = some ⟨6, [bC false redex]⟩ := (hfr46 _ (by simp)).trans (by simp [hh, m4_2, m5_3, m10_12, Heap.get_set])
      have m5_3 : H44 (n2 + 1, 5) = some ⟨6, [bC false agent]⟩ := (hfr46 _ (by simp)).trans (by simp [hh, m4_2, m5_3, m10_12, Heap.get_set])
      have m10_12 : H44 (n6, 10) = some ⟨2, [[.list false (nodes.map intC), v31]]⟩ := (hfr46 _ (by simp)).trans (by simp [hh, m4_2, m5_3, m10_12, Heap.get_set])
      replace sp := Sep.unpackT sp
      obtain ⟨L51, hv, hl52, sp⟩ := sp
      subst hv
      obtain ⟨v49, v50, hv⟩ := len2 (by simpa using hl52)
      subst hv
      simp only [zip3, List.cons_append, List.nil_append] at sp
      replace sp := Sep.rot sp
      try simp only [List.cons_append, List.nil_append, List.append_assoc] at sp
      replace sp := Sep.rot sp
      try simp only [List.cons_append, List.nil_append, List.append_assoc] at sp
      replace sp := Sep.lastsE (R := [oI v31 l30]) (E := E32) (K0 := K0) (D := [oI v49 r42.1, oI v50 r42.2]) sp
      replace sp : Sep H44 n45 (oI v49 r42.1 :: oI v50 r42.2 :: oI v31 l30 :: (E32 ++ K0)) ((n6, 10) :: (n2 + 1, 5) :: (n2, 4) :: (W ++ ids0)) := sp
      simp [hh, m4_2, m5_3, m10_12, f40, dc36, -intBin]
      apply hk'
      refine Runs.cut (fun ρ H n => ∃ (v55 : AVal) (v56 : AVal) (E57 : List OwnE), (ρ 2 = .list false (nodes.map intC) ∧ ρ 3 = .fn (.func gY) [] capsY ∧ ρ 4 = pA n2 4 ∧ ρ 5 = pA (n2 + 1) 5 ∧ ρ 10 = pA n6 10 ∧ ρ 12 = v55 ∧ ρ 27 = int redex.roots ∧ ρ 28 = int v29) ∧ H (n2, 4) = some ⟨6, [bC false redex]⟩ ∧ H (n2 + 1, 5) = some ⟨6, [bC false agent]⟩ ∧ H (n6, 10) = some ⟨2, [[.list false (nodes.map intC), v56]]⟩ ∧ n0 ≤ n ∧ (∀ i ∈ ids0, H i = H0 i) ∧ I sG28 H E57 ∧ Sep H n (oI v55 r42.1 :: oI v56 l30 :: (E57 ++ K0)) ((n6, 10) :: (n2 + 1, 5) :: (n2, 4) :: (W ++ ids0))) (by refine ⟨v49, v31, E32, ?_, ?_, ?_, ?_, (by omega), hid, hI, sp.f1.dr⟩ <;> simp [hh, m4_2, m5_3, m10_12, f40, dc36, -intBin]) ?_
      clear hh m4_2 m5_3 m10_12
      rintro ρ H n58 ⟨v55, v56, E57, hh, m4_2, m5_3, m10_12, hnn, hid, hI, sp⟩
      have hq_n58 := hnn
      refine Runs.evalDE Ty_ok kindOp_ok draws (by decide) (by kernel_rfl) fun k' hk' => ?_
      obtain ⟨hb59, h⟩ := h
      obtain ⟨id60, hv, mo61, ln62, ni63⟩ := Sep.openF sp (by simp) hb59
      subst hv
      simp at ni63
      obtain ⟨x64, ex64, h⟩ := atm h
      have f65 := fun H (hm : H id60 = some ⟨1, r42.1.map intC⟩) => ix_arr (H := H) (k := .i64) (off := 0) (len := r42.1.length) (g := r42.1.length) kd_24 hm (by simp) rfl hb59
      have f66 := at_some (q := 0) hb59 ex64 rfl
      obtain ⟨hb67, h⟩ := h
      obtain ⟨x68, ex68, h⟩ := atm h
      have f69 := fun H => ix_list (H := H) (fr := false) (f := intC) (k := .i64) kd_24 (fun _ => rfl) hb67 ex68
      obtain ⟨hb70, h⟩ := h
      obtain ⟨x71, ex71, h⟩ := atm h
      have f72 := fun H => ix_list (H := H) (fr := false) (f := (GNode.cells false)) (k := .i64) kd_44 (fun _ => rfl) hb70 ex71
      obtain ⟨hb73, h⟩ := h
      obtain ⟨l74, el74, h⟩ := atm h
      simp [hh, m4_2, m5_3, m10_12, mo61, ni63, f65, f66, f69, f72, -indexAddrF, -appendF]
      refine bindD_append [] (oI (.arr id60 r42.1.length 0 r42.1.length) r42.1 :: (E57 ++ K0)) [[int x71.parent]] [intC x71.parent] sp.f1 kd_24 (by simp) (by simp) (by simp) (by simp [-one1, o1x]) (rows_one (Fill.v _ Fill.nil)) (by simp) (by simpa using hb73) ?_
      rintro v75 H76 n77 sp hfr78 hle79
      replace sp : Sep H76 n77 (oI v75 l74 :: oI (.arr id60 r42.1.length 0 r42.1.length) r42.1 :: (E57 ++ K0)) ((n6, 10) :: (n2 + 1, 5) :: (n2, 4) :: (W ++ ids0)) := Sep.ap el74 sp
      have hI := hM _ _ _ _ hI (fun w hw => hfr78 w (by simp [hw]))
      have hid : ∀ i ∈ ids0, H76 i = H0 i := fun i hi => (hfr78 i (by simp [hi])).trans (hid i hi)
      have hnn : n0 ≤ n77 := by omega
      have hq_n77 := hnn
      have m4_2 : H76 (n2, 4) = some ⟨6, [bC false redex]⟩ := (hfr78 _ (by simp)).trans (by simp [hh, m4_2, m5_3, m10_12, mo61, ni63, Heap.get_set])
      have m5_3 : H76 (n2 + 1, 5) = some ⟨6, [bC false agent]⟩ := (hfr78 _ (by simp)).trans (by simp [hh, m4_2, m5_3, m10_12, mo61, ni63, Heap.get_set])
      have m10_12 : H76 (n6, 10) = some ⟨2, [[.list false (nodes.map intC), v56]]⟩ := (hfr78 _ (by simp)).trans (by simp [hh, m4_2, m5_3, m10_12, mo61, ni63, Heap.get_set])
      have f81 := Sep.oc sp
      simp [hh, m4_2, m5_3, m10_12, ni63, f65, f66, f69, f72, f81, -cellsA, -indexAddrF, -one1, cAx, o1x]
      apply hk'
      refine Runs.cut (fun ρ H n => ∃ (v82 : AVal) (E83 : List OwnE), (ρ 2 = .list false (nodes.map intC) ∧ ρ 3 = .fn (.func gY) [] capsY ∧ ρ 4 = pA n2 4 ∧ ρ 5 = pA (n2 + 1) 5 ∧ ρ 10 = pA n6 10 ∧ ρ 27 = int redex.roots ∧ ρ 28 = int v29) ∧ H (n2, 4) = some ⟨6, [bC false redex]⟩ ∧ H (n2 + 1, 5) = some ⟨6, [bC false agent]⟩ ∧ H (n6, 10) = some ⟨2, [[.list false (nodes.map intC), v82]]⟩ ∧ n0 ≤ n ∧ (∀ i ∈ ids0, H i = H0 i) ∧ I sG28 H E83 ∧ Sep H n (oI v82 l74 :: (E83 ++ K0)) ((n6, 10) :: (n2 + 1, 5) :: (n2, 4) :: (W ++ ids0))) (by refine ⟨v75, E57, ?_, ?_, ?_, ?_, (by omega), (by intro i hi; have hlt := h00 i (by simp [hi]); repeat (first | exact hid i hi | rw [Heap.get_set_ne _ _ (by rintro rfl; simp at hlt; omega)])), (hM _ _ _ _ hI (by intro w hw; have hlt := h00 w (by simp [hw]); repeat (first | rfl | rw [Heap.get_set_ne _ _ (by rintro rfl; simp at hlt; omega)]))), (Sep.dr (Sep.f1 (Sep.setVar (w := (n6, 10)) sp (by simp))))⟩ <;> simp [hh, m4_2, m5_3, m10_12, ni63, f65, f66, f69, f72, f81, -cellsA, -indexAddrF, -one1, cAx, o1x]) ?_
      clear hh m4_2 m5_3 m10_12 ni63
      rintro ρ H n84 ⟨v82, E83, hh, m4_2, m5_3, m10_12, hnn, hid, hI, sp⟩
      have hq_n84 := hnn
      refine Runs.inBlock ?_
      refine zF fun k' hk' => ?_
      obtain ⟨hb85, h⟩ := h
      obtain ⟨v86, ev86, h⟩ := atm h
      have f87 := ib_add hb85 ev86
      simp [hh, m4_2, m5_3, m10_12, f87, -intBin]
      apply hk'
      refine IH34 (sG28, v86, l74) _ _ _ h (by refine ⟨v82, E83, ?_, ?_, ?_, ?_, (by omega), hid, hI, sp⟩ <;> simp [hh, m4_2, m5_3, m10_12])
    replace h := h.2 dc36
    refine Runs.exit rfl ?_
    refine Runs.seq ?_
    refine zE fun k' hk' => ?_
    obtain ⟨hb88, h⟩ := h
    obtain ⟨r89, er89, h⟩ := atm h
    simp [hh, m4_2, m5_3, m10_12, dc36]
    refine RunK.callA Ty_ok (isMatch_ok redex agent (Match.mk nodes l30) hb88) e103 (.cons (argB false redex) (.cons (argB false agent) (.cons (ArgOk.agg (.cons (argI false nodes) (.cons (Sep.argOk' sp (old_listF (by simp))) .nil))) .nil))) (by decide) (by decide) rfl (by simp [hh, m4_2, m5_3, m10_12, dc36]) ?_
    rintro _ rfl
    rw [← er89]
    simp [hh, m4_2, m5_3, m10_12, dc36]
    apply hk'
    refine Runs.ite (b := r89) (by simp [hh, m4_2, m5_3, m10_12, dc36]) (fun dr89 => ?_) (fun dr89 => ?_)
    · replace h := h.1 dr89
      refine zE fun k' hk' => ?_
      obtain ⟨hb90, h⟩ := h
      obtain ⟨r91, er91, h⟩ := atm h
      simp [hh, m4_2, m5_3, m10_12, dc36, dr89]
      refine RunK.callW Ty_ok (ownMatch_ok (Match.mk nodes l30) hb90) e130 (.cons (ArgOk.agg (.cons (argI false nodes) (.cons (Sep.argOk' sp (old_listF (by simp))) .nil))) .nil) sp (by decide) (by decide) rfl (by simp [hh, m4_2, m5_3, m10_12, dc36, dr89]) ?_
      rintro v92 H93 n94 _ sp rfl hle96 hfr95
      rw [← er91] at sp
      have hI := hM _ _ _ _ hI (fun w hw => hfr95 w (by simp [hw]))
      have hid : ∀ i ∈ ids0, H93 i = H0 i := fun i hi => (hfr95 i (by simp [hi])).trans (hid i hi)
      have hnn : n0 ≤ n94 := by omega
      have hq_n94 := hnn
      have m4_2 : H93 (n2, 4) = some ⟨6, [bC false redex]⟩ := (hfr95 _ (by simp)).trans (by simp [hh, m4_2, m5_3, m10_12, Heap.get_set])
      have m5_3 : H93 (n2 + 1, 5) = some ⟨6, [bC false agent]⟩ := (hfr95 _ (by simp)).trans (by simp [hh, m4_2, m5_3, m10_12, Heap.get_set])
      have m10_12 : H93 (n6, 10) = some ⟨2, [[.list false (nodes.map intC), v31]]⟩ := (hfr95 _ (by simp)).trans (by simp [hh, m4_2, m5_3, m10_12, Heap.get_set])
      replace sp := Sep.unpack sp
      obtain ⟨L100, hv, hl101, sp⟩ := sp
      subst hv
      obtain ⟨v98, v99, hv⟩ := len2 (by simpa using hl101)
      subst hv
      simp only [zip3, List.cons_append, List.nil_append] at sp
      replace sp := Sep.rot sp
      try simp only [List.cons_append, List.nil_append, List.append_assoc] at sp
      replace sp := Sep.rot sp
      try simp only [List.cons_append, List.nil_append, List.append_assoc] at sp
      replace sp := Sep.lastsE (R := [oI v31 l30]) (E := E32) (K0 := K0) (D := [oI v98 r91.nodes, oI v99 r91.roots]) sp
      replace sp : Sep H93 n94 (oI v98 r91.nodes :: oI v99 r91.roots :: oI v31 l30 :: (E32 ++ K0)) ((n6, 10) :: (n2 + 1, 5) :: (n2, 4) :: (W ++ ids0)) := sp
      obtain ⟨hb104, h⟩ := h
      obtain ⟨r105, er105, h⟩ := atm h
      have f106 := Sep.oc sp
      have f107 := Sep.oc sp.f1
      simp [hh, m4_2, m5_3, m10_12, f106, f107, dc36, dr89, -cellsA, -one1, cAx, o1x]
      refine RunK.callEff (xsA := [.agg [v98, v99]]) (ysA := [.agg [v98, v99]]) (caps := capsY) (I := I) (s := sG28) (M := [(.a [.s [.c], .s [.c]], .agg [v98, v99], .agg (Match.cells true r91))]) (R := [oI v31 l30]) (E := E32) (K0 := K0) (A := [(n6, 10), (n2 + 1, 5), (n2, 4)]) (W := W) (B := ids0) Ty_ok (hY sG28 r91 (.agg [v98, v99]) hb104.1 hb104.2) (SubL.refl _) hYe hI (apartW (fun w hw => h00 w (by simp [hw])) hWd (by simp; try omega)) (Sep.pack (Fill.own (Fill.own Fill.nil)) sp) (by decide) (by decide) (by simp [hh, m4_2, m5_3, m10_12, f106, f107, dc36, dr89, -cellsA, -one1, cAx, o1x]) (by simp [hh, m4_2, m5_3, m10_12, f106, f107, dc36, dr89, -cellsA, -one1, cAx, o1x]) ?_
      rintro _ H108 n109 _ E112 ⟨rfl, rfl⟩ hI sp hle111 hfr110
      rw [← er105] at hI
      rw [← er105]
      replace sp : Sep H108 n109 (oI v31 l30 :: (E112 ++ K0)) ((n6, 10) :: (n2 + 1, 5) :: (n2, 4) :: (W ++ ids0)) := sp
      have hid : ∀ i ∈ ids0, H108 i = H0 i := fun i hi => (hfr110 i (by simp [hi])).trans (hid i hi)
      have hnn : n0 ≤ n109 := by omega
      have hq_n109 := hnn
      have m4_2 : H108 (n2, 4) = some ⟨6, [bC false redex]⟩ := (hfr110 _ (by simp)).trans (by simp [hh, m4_2, m5_3, m10_12, Heap.get_set])
      have m5_3 : H108 (n2 + 1, 5) = some ⟨6, [bC false agent]⟩ := (hfr110 _ (by simp)).trans (by simp [hh, m4_2, m5_3, m10_12, Heap.get_set])
      have m10_12 : H108 (n6, 10) = some ⟨2, [[.list false (nodes.map intC), v31]]⟩ := (hfr110 _ (by simp)).trans (by simp [hh, m4_2, m5_3, m10_12, Heap.get_set])
      simp [hh, m4_2, m5_3, m10_12, f106, f107, dc36, dr89, -cellsA, -one1, cAx, o1x]
      apply hk'
      refine Runs.cut (fun ρ H n => ∃ (E114 : List OwnE), ρ 8 = bool r105.2 ∧ n0 ≤ n ∧ (∀ i ∈ ids0, H i = H0 i) ∧ I r105.1 H E114 ∧ Sep H n ((E114 ++ K0)) ((W ++ ids0))) (by refine ⟨E112, ?_, (by omega), hid, hI, (Sep.sub sp.dr (by simp +contextual))⟩ <;> simp [hh, m4_2, m5_3, m10_12, f106, f107, dc36, dr89, -cellsA, -one1, cAx, o1x]) ?_
      clear hh m4_2 m5_3 m10_12
      rintro ρ H n115 ⟨E114, hh, hnn, hid, hI, sp⟩
      have hq_n115 := hnn
      exact Runs.ret1 (v := bool r105.2) Tryz.func75 Tryz.results75 (by simp [hh]) (hQ _ _ _ r105.1 E114 hI (Sep.sub sp (by simp +contextual)) hid (by omega) ⟨r105.2, h, rfl⟩)
    replace h := h.2 dr89
    refine Runs.skip ?_
    refine zE fun k' hk' => ?_
    simp [hh, m4_2, m5_3, m10_12, dc36, dr89]
    apply hk'
    exact Runs.ret1 (v := bool true) Tryz.func75 Tryz.results75 (by simp [hh, m4_2, m5_3, m10_12, dc36, dr89]) (hQ _ _ _ sG28 E32 hI (Sep.sub sp.dr (by simp +contextual)) hid (by omega) ⟨true, h, rfl⟩)
  replace h := h.2 dc11
  refine Runs.skip ?_
  refine zE fun k' hk' => ?_
  obtain ⟨hb116, h⟩ := h
  obtain ⟨x117, ex117, h⟩ := atm h
  have f118 := fun H => ix_list (H := H) (fr := false) (f := (GNode.cells false)) (k := .i64) kd_44 (fun _ => rfl) hb116 ex117
  simp [hh, m4_2, m5_3, f118, dc11, -indexAddrF]
  apply hk'
  refine Runs.cut (fun ρ H n => ∃ (E120 : List OwnE), (ρ 2 = .list false (nodes.map intC) ∧ ρ 3 = .fn (.func gY) [] capsY ∧ ρ 4 = pA n2 4 ∧ ρ 5 = pA (n2 + 1) 5 ∧ ρ 14 = pA n6 14) ∧ H (n2, 4) = some ⟨6, [bC false redex]⟩ ∧ H (n2 + 1, 5) = some ⟨6, [bC false agent]⟩ ∧ H (n6, 14) = some ⟨3, [[int x117.control, int x117.parent, .list false (x117.links.map intC)]]⟩ ∧ n0 ≤ n ∧ (∀ i ∈ ids0, H i = H0 i) ∧ I sG H E120 ∧ Sep H n ((E120 ++ K0)) ((n6, 14) :: (n2 + 1, 5) :: (n2, 4) :: (W ++ ids0))) (by refine ⟨E5, ?_, ?_, ?_, ?_, (by omega), (by intro i hi; have hlt := h00 i (by simp [hi]); repeat (first | exact hid i hi | rw [Heap.get_set_ne _ _ (by rintro rfl; simp at hlt; omega)])), (hM _ _ _ _ hI (by intro w hw; have hlt := h00 w (by simp [hw]); repeat (first | rfl | rw [Heap.get_set_ne _ _ (by rintro rfl; simp at hlt; omega)]))), sp.var⟩ <;> simp [hh, m4_2, m5_3, f118, dc11, -indexAddrF]) ?_
  clear hh m4_2 m5_3
  rintro ρ H n121 ⟨E120, hh, m4_2, m5_3, m14_118, hnn, hid, hI, sp⟩
  have hq_n121 := hnn
  refine Runs.seq ?_
  refine zE fun k' hk' => ?_
  obtain ⟨len122, elen122, h⟩ := atm h
  have f123 := fun H => len_list (H := H) (fr := false) (f := (GNode.cells false)) kd_44 elen122
  simp [hh, m4_2, m5_3, m14_118, f123, -lenF]
  apply hk'
  refine Runs.block ?_
  refine Runs.loopW h (fun (sJ : σ × Int) ρ H n => match sJ with | (sG128, v129) => ∃ (E130 : List OwnE), (ρ 2 = .list false (nodes.map intC) ∧ ρ 3 = .fn (.func gY) [] capsY ∧ ρ 4 = pA n2 4 ∧ ρ 5 = pA (n2 + 1) 5 ∧ ρ 14 = pA n6 14 ∧ ρ 69 = .list false (agent.nodes.map (GNode.cells false)) ∧ ρ 70 = int len122 ∧ ρ 71 = int v129) ∧ H (n2, 4) = some ⟨6, [bC false redex]⟩ ∧ H (n2 + 1, 5) = some ⟨6, [bC false agent]⟩ ∧ H (n6, 14) = some ⟨3, [[int x117.control, int x117.parent, .list false (x117.links.map intC)]]⟩ ∧ n0 ≤ n ∧ (∀ i ∈ ids0, H i = H0 i) ∧ I sG128 H E130 ∧ Sep H n ((E130 ++ K0)) ((n6, 14) :: (n2 + 1, 5) :: (n2, 4) :: (W ++ ids0))) (by refine ⟨E120, ?_, ?_, ?_, ?_, (by omega), hid, hI, sp⟩ <;> simp [hh, m4_2, m5_3, m14_118]) ?_
  clear hh m4_2 m5_3 m14_118
  rintro ⟨sG128, v129⟩ ρ H n131 K h ⟨E130, hh, m4_2, m5_3, m14_118, hnn, hid, hI, sp⟩ IH132
  have hq_n131 := hnn
  refine zE fun k' hk' => ?_
  obtain ⟨c134, ec134, h⟩ := atm h
  have f135 := ib_lss (k := .i64) ec134
  simp [hh, m4_2, m5_3, m14_118, f135, -intBin]
  apply hk'
  refine Runs.seq ?_
  refine Runs.ite (b := c134) (by simp [hh, m4_2, m5_3, m14_118]) (fun dc134 => ?_) (fun dc134 => ?_)
  · replace h := h.1 dc134
    refine Runs.skip ?_
    refine Runs.seq ?_
    refine Runs.block ?_
    refine zE fun k' hk' => ?_
    obtain ⟨hb136, h⟩ := h
    obtain ⟨x137, ex137, h⟩ := atm h
    have f138 := fun H => ix_list (H := H) (fr := false) (f := (GNode.cells false)) (k := .i64) kd_44 (fun _ => rfl) hb136 ex137
    simp [hh, m4_2, m5_3, m14_118, f138, dc134, -indexAddrF]
    apply hk'
    refine Runs.cut (fun ρ H n => ∃ (E140 : List OwnE), (ρ 2 = .list false (nodes.map intC) ∧ ρ 3 = .fn (.func gY) [] capsY ∧ ρ 4 = pA n2 4 ∧ ρ 5 = pA (n2 + 1) 5 ∧ ρ 14 = pA n6 14 ∧ ρ 15 = int v129 ∧ ρ 16 = pA n131 16 ∧ ρ 69 = .list false (agent.nodes.map (GNode.cells false)) ∧ ρ 70 = int len122 ∧ ρ 71 = int v129) ∧ H (n2, 4) = some ⟨6, [bC false redex]⟩ ∧ H (n2 + 1, 5) = some ⟨6, [bC false agent]⟩ ∧ H (n6, 14) = some ⟨3, [[int x117.control, int x117.parent, .list false (x117.links.map intC)]]⟩ ∧ H (n131, 16) = some ⟨3, [[int x137.control, int x137.parent, .list false (x137.links.map intC)]]⟩ ∧ n0 ≤ n ∧ (∀ i ∈ ids0, H i = H0 i) ∧ I sG128 H E140 ∧ Sep H n ((E140 ++ K0)) ((n131, 16) :: (n6, 14) :: (n2 + 1, 5) :: (n2, 4) :: (W ++ ids0))) (by refine ⟨E130, ?_, ?_, ?_, ?_, ?_, (by omega), (by intro i hi; have hlt := h00 i (by simp [hi]); repeat (first | exact hid i hi | rw [Heap.get_set_ne _ _ (by rintro rfl; simp at hlt; omega)])), (hM _ _ _ _ hI (by intro w hw; have hlt := h00 w (by simp [hw]); repeat (first | rfl | rw [Heap.get_set_ne _ _ (by rintro rfl; simp at hlt; omega)]))), sp.var⟩ <;> simp [hh, m4_2, m5_3, m14_118, f138, dc134, -indexAddrF]) ?_
    clear hh m4_2 m5_3 m14_118
    rintro ρ H n141 ⟨E140, hh, m4_2, m5_3, m14_118, m16_138, hnn, hid, hI, sp⟩
    have hq_n141 := hnn
    refine Runs.seq ?_
    refine Runs.seqD Ty_ok kindOp_ok draws (by decide) (by kernel_rfl) fun k' hk' => ?_
    obtain ⟨J142, hJ143, hr144⟩ := h
    have fin147 : ∀ (sJ : Bool) (ρ : Env) (H : Heap) (n : Nat), J142 sJ → (match sJ with | b145 => ∃ (E146 : List OwnE), (ρ 2 = .list false (nodes.map intC) ∧ ρ 3 = .fn (.func gY) [] capsY ∧ ρ 4 = pA n2 4 ∧ ρ 5 = pA (n2 + 1) 5 ∧ ρ 14 = pA n6 14 ∧ ρ 15 = int v129 ∧ ρ 69 = .list false (agent.nodes.map (GNode.cells false)) ∧ ρ 70 = int len122 ∧ ρ 71 = int v129 ∧ ρ 100 = bool b145) ∧ H (n2, 4) = some ⟨6, [bC false redex]⟩ ∧ H (n2 + 1, 5) = some ⟨6, [bC false agent]⟩ ∧ H (n6, 14) = some ⟨3, [[int x117.control, int x117.parent, .list false (x117.links.map intC)]]⟩ ∧ n0 ≤ n ∧ (∀ i ∈ ids0, H i = H0 i) ∧ I sG128 H E146 ∧ Sep H n ((E146 ++ K0)) ((n6, 14) :: (n2 + 1, 5) :: (n2, 4) :: (W ++ ids0))) → Runs Tryz.prog 75 112 k' ρ H n Q := by
      rintro b145 ρ H n148 h ⟨E146, hh, m4_2, m5_3, m14_118, hnn, hid, hI, sp⟩
      have hq_n148 := hnn
      replace h := hr144 _ h
      apply hk'
      refine Runs.ite (b := b145) (by simp [hh, m4_2, m5_3, m14_118]) (fun db145 => ?_) (fun db145 => ?_)
      · replace h := h.1 db145
        refine Runs.exit rfl ?_
        refine zF fun k' hk' => ?_
        obtain ⟨hb149, h⟩ := h
        obtain ⟨v150, ev150, h⟩ := atm h
        have f151 := ib_add hb149 ev150
        simp [hh, m4_2, m5_3, m14_118, f151, db145, -intBin]
        apply hk'
        refine IH132 (sG128, v150) _ _ _ h (by refine ⟨E146, ?_, ?_, ?_, ?_, (by omega), hid, hI, sp⟩ <;> simp [hh, m4_2, m5_3, m14_118, db145])
      replace h := h.2 db145
      refine Runs.skip ?_
      refine Runs.cut (fun ρ H n => ∃ (E152 : List OwnE), (ρ 2 = .list false (nodes.map intC) ∧ ρ 3 = .fn (.func gY) [] capsY ∧ ρ 4 = pA n2 4 ∧ ρ 5 = pA (n2 + 1) 5 ∧ ρ 14 = pA n6 14 ∧ ρ 15 = int v129 ∧ ρ 69 = .list false (agent.nodes.map (GNode.cells false)) ∧ ρ 70 = int len122 ∧ ρ 71 = int v129) ∧ H (n2, 4) = some ⟨6, [bC false redex]⟩ ∧ H (n2 + 1, 5) = some ⟨6, [bC false agent]⟩ ∧ H (n6, 14) = some ⟨3, [[int x117.control, int x117.parent, .list false (x117.links.map intC)]]⟩ ∧ n0 ≤ n ∧ (∀ i ∈ ids0, H i = H0 i) ∧ I sG128 H E152 ∧ Sep H n ((E152 ++ K0)) ((n6, 14) :: (n2 + 1, 5) :: (n2, 4) :: (W ++ ids0))) (by refine ⟨E146, ?_, ?_, ?_, ?_, (by omega), hid, hI, sp⟩ <;> simp [hh, m4_2, m5_3, m14_118, db145]) ?_
      clear hh m4_2 m5_3 m14_118
      rintro ρ H n153 ⟨E152, hh, m4_2, m5_3, m14_118, hnn, hid, hI, sp⟩
      have hq_n153 := hnn
      obtain ⟨hb154, h⟩ := h
      obtain ⟨l155, el155, h⟩ := atm h
      obtain ⟨hb156, h⟩ := h
      obtain ⟨r157, er157, h⟩ := atm h
      refine Runs.seqC (fun H n => H (n2, 4) = some ⟨6, [bC false redex]⟩ ∧ H (n2 + 1, 5) = some ⟨6, [bC false agent]⟩ ∧ H (n6, 14) = some ⟨3, [[int x117.control, int x117.parent, .list false (x117.links.map intC)]]⟩ ∧ Sep H n ((E152 ++ K0)) ((n6, 14) :: (n2 + 1, 5) :: (n2, 4) :: (W ++ ids0))) [8, 9] (.free 0 (.free 1 (.free 2 (.free 3 (.free 4 (.free 5 (.free 6 (.free 7 (.hard 8 (.hard 9 (.fin) (.stop)) (.stop)))))))))) (fun ρ H n => ∃ (E158 : List OwnE), (ρ 2 = .list false (nodes.map intC) ∧ ρ 3 = .fn (.func gY) [] capsY ∧ ρ 4 = pA n2 4 ∧ ρ 5 = pA (n2 + 1) 5 ∧ ρ 14 = pA n6 14 ∧ ρ 69 = .list false (agent.nodes.map (GNode.cells false)) ∧ ρ 70 = int len122 ∧ ρ 71 = int v129 ∧ ρ 110 = bool (!r157.2)) ∧ H (n2, 4) = some ⟨6, [bC false redex]⟩ ∧ H (n2 + 1, 5) = some ⟨6, [bC false agent]⟩ ∧ H (n6, 14) = some ⟨3, [[int x117.control, int x117.parent, .list false (x117.links.map intC)]]⟩ ∧ n0 ≤ n ∧ (∀ i ∈ ids0, H i = H0 i) ∧ I r157.1 H E158 ∧ Sep H n ((E158 ++ K0)) ((n6, 14) :: (n2 + 1, 5) :: (n2, 4) :: (W ++ ids0))) draws (by decide) (by kernel_rfl) ?_ ?_
      · refine RunT.free (.agg (bC false redex)) rfl rfl ⟨m4_2, m5_3, m14_118, sp⟩ (fun H n hS => by obtain ⟨m4_2, m5_3, m14_118, sp⟩ := hS; exact (by exact stepF_ok Ty_ok (by rw [stepF_loc]; simp [hh, m4_2, m5_3, m14_118]))) ?_
        refine RunT.free (.agg (bC false agent)) rfl rfl ⟨m4_2, m5_3, m14_118, sp⟩ (fun H n hS => by obtain ⟨m4_2, m5_3, m14_118, sp⟩ := hS; exact (by exact stepF_ok Ty_ok (by rw [stepF_loc]; simp [hh, m4_2, m5_3, m14_118]))) ?_
        refine RunT.free (.list false (nodes.map intC)) rfl rfl ⟨m4_2, m5_3, m14_118, sp⟩ (fun H n hS => by obtain ⟨m4_2, m5_3, m14_118, sp⟩ := hS; exact (by exact stepF_ok Ty_ok (by rw [stepF_loc]; simp [hh, m4_2, m5_3, m14_118]))) ?_
        refine RunT.free (.clip false (nodes.map intV)) rfl rfl ⟨m4_2, m5_3, m14_118, sp⟩ (fun H n hS => by obtain ⟨m4_2, m5_3, m14_118, sp⟩ := hS; exact (OpSem.stillD (clipI_ok false nodes _ _) e132 (by simp [hh, m4_2, m5_3, m14_118]) (by simp [hh, m4_2, m5_3, m14_118]))) ?_
        refine RunT.free (int v129) rfl rfl ⟨m4_2, m5_3, m14_118, sp⟩ (fun H n hS => by obtain ⟨m4_2, m5_3, m14_118, sp⟩ := hS; exact (by exact stepF_ok Ty_ok (by rw [stepF_loc]; simp [hh, m4_2, m5_3, m14_118]))) ?_
        refine RunT.free (.list true ([v129].map intC)) rfl rfl ⟨m4_2, m5_3, m14_118, sp⟩ (fun H n hS => by obtain ⟨m4_2, m5_3, m14_118, sp⟩ := hS; exact (by exact stepF_ok Ty_ok (by rw [stepF_loc]; simp [hh, m4_2, m5_3, m14_118]))) ?_
        refine RunT.free (.list true (l155.map intC)) rfl rfl ⟨m4_2, m5_3, m14_118, sp⟩ (fun H n hS => by obtain ⟨m4_2, m5_3, m14_118, sp⟩ := hS; exact (by rw [el155]; exact OpSem.appendD (t' := true) (fr := false) (l := nodes) (m := [v129]) Ty_ok kd_24 ⟨rfl, rfl, by decide⟩ (by simp [hh, m4_2, m5_3, m14_118]) (by simp [hh, m4_2, m5_3, m14_118]) (by simp) (by simpa using hb154))) ?_
        refine RunT.free (.fn (.func gY) [] capsY) rfl rfl ⟨m4_2, m5_3, m14_118, sp⟩ (fun H n hS => by obtain ⟨m4_2, m5_3, m14_118, sp⟩ := hS; exact (by exact stepF_ok Ty_ok (by rw [stepF_loc]; simp [hh, m4_2, m5_3, m14_118]))) ?_
        refine ⟨?_, trivial⟩
        refine RunT.callEff (xsA := [.agg (bC false redex), .agg (bC false agent), .list true (l155.map intC), .fn (.func gY) [] capsY]) (ysA := [.agg (bC false redex), .agg (bC false agent), .list false (l155.map intC), .fn (.func gY) [] capsY]) (caps := []) (I := I) (s := sG128) (M := []) (R' := []) (E := E152) (K0 := K0) (A := [(n6, 14), (n2 + 1, 5), (n2, 4)]) (W := W) (B := ids0) rfl rfl (ih redex agent l155 sG128 hb156.1 hb156.2) (.cons (Sub.refl _) (.cons (Sub.refl _) (.cons (Sub.old _) (.cons (Sub.refl _) .nil)))) e75 hI (apartW (fun w hw => h00 w (by simp [hw])) hWd (by simp; try omega)) sp (by simp [hh, m4_2, m5_3, m14_118]) (by simp [hh, m4_2, m5_3, m14_118]) ?_
        rintro _ H160 n161 _ E165 ⟨rfl, rfl⟩ hI sp hle163 hfr162
        rw [← er157] at hI
        rw [← er157]
        replace sp : Sep H160 n161 ((E165 ++ K0)) ((n6, 14) :: (n2 + 1, 5) :: (n2, 4) :: (W ++ ids0)) := sp
        have hid : ∀ i ∈ ids0, H160 i = H0 i := fun i hi => (hfr162 i (by simp [hi])).trans (hid i hi)
        have hnn : n0 ≤ n161 := by omega
        have hq_n161 := hnn
        have m4_2 : H160 (n2, 4) = some ⟨6, [bC false redex]⟩ := (hfr162 _ (by simp)).trans (by simp [hh, m4_2, m5_3, m14_118, Heap.get_set])
        have m5_3 : H160 (n2 + 1, 5) = some ⟨6, [bC false agent]⟩ := (hfr162 _ (by simp)).trans (by simp [hh, m4_2, m5_3, m14_118, Heap.get_set])
        have m14_118 : H160 (n6, 14) = some ⟨3, [[int x117.control, int x117.parent, .list false (x117.links.map intC)]]⟩ := (hfr162 _ (by simp)).trans (by simp [hh, m4_2, m5_3, m14_118, Heap.get_set])
        refine ⟨(fun hl => absurd (hl.symm.trans (show lateC _ _ _ = true by kernel_rfl)) (by decide)), ?_⟩
        refine ⟨?_, trivial⟩
        refine RunT.same (v := (bool (!r157.2))) Ty_ok rfl rfl (by simp [hh, m4_2, m5_3, m14_118]) (fun hl => absurd (hl.symm.trans (show lateC _ _ _ = true by kernel_rfl)) (by decide)) ?_
        refine RunT.fin (by refine ⟨E165, ?_, ?_, ?_, ?_, (by omega), hid, hI, sp⟩ <;> simp [hh, m4_2, m5_3, m14_118])
      clear hh m4_2 m5_3 m14_118
      rintro ρ H n159 ⟨E158, hh, m4_2, m5_3, m14_118, hnn, hid, hI, sp⟩
      have hq_n159 := hnn
      refine Runs.ite (b := (!r157.2)) (by simp [hh, m4_2, m5_3, m14_118]) (fun dr157_2 => ?_) (fun dr157_2 => ?_)
      · have dr157_2 : r157.2 = false := by simpa using dr157_2
        replace h := h.2 dr157_2
        refine zE fun k' hk' => ?_
        simp [hh, m4_2, m5_3, m14_118, dr157_2]
        apply hk'
        exact Runs.ret1 (v := bool false) Tryz.func75 Tryz.results75 (by simp [hh, m4_2, m5_3, m14_118, dr157_2]) (hQ _ _ _ r157.1 E158 hI (Sep.sub sp (by simp +contextual)) hid (by omega) ⟨false, h, rfl⟩)
      have dr157_2 : r157.2 = true := by simpa using dr157_2
      replace h := h.1 dr157_2
      refine Runs.skip ?_
      refine Runs.inBlock ?_
      refine zF fun k' hk' => ?_
      obtain ⟨hb173, h⟩ := h
      obtain ⟨v174, ev174, h⟩ := atm h
      have f175 := ib_add hb173 ev174
      simp [hh, m4_2, m5_3, m14_118, f175, dr157_2, -intBin]
      apply hk'
      refine IH132 (r157.1, v174) _ _ _ h (by refine ⟨E158, ?_, ?_, ?_, ?_, (by omega), hid, hI, sp⟩ <;> simp [hh, m4_2, m5_3, m14_118, dr157_2])
    replace h := hJ143
    obtain ⟨c176, ec176, h⟩ := atm h
    have f177 := ib_neq (k := .i64) ec176
    rcases Bool.eq_false_or_eq_true c176 with dc176 | dc176
    · replace h := h.1 dc176
      simp [hh, m4_2, m5_3, m14_118, m16_138, f177, dc176, -intBin]
      exact fin147 (true) _ _ _ h (by refine ⟨E140, ?_, ?_, ?_, ?_, (by omega), hid, hI, (Sep.sub sp (by simp +contextual))⟩ <;> simp [hh, m4_2, m5_3, m14_118, m16_138, f177, dc176, -intBin])
    replace h := h.2 dc176
    obtain ⟨hb178, h⟩ := h
    obtain ⟨r179, er179, h⟩ := atm h
    simp [hh, m4_2, m5_3, m14_118, m16_138, f177, dc176, -intBin]
    refine RunDK.callA Ty_ok kindOp_ok (hasI_ok nodes v129 hb178) e131 (.cons (argI false nodes) (.cons (.v _ _ _) .nil)) (by decide) rfl (by simp [hh, m4_2, m5_3, m14_118, m16_138, f177, dc176, -intBin]) ?_
    rw [← er179]
    rcases Bool.eq_false_or_eq_true r179 with dr179 | dr179
    · replace h := h.1 dr179
      simp [hh, m4_2, m5_3, m14_118, m16_138, f177, dc176, dr179, -intBin]
      exact fin147 (true) _ _ _ h (by refine ⟨E140, ?_, ?_, ?_, ?_, (by omega), hid, hI, (Sep.sub sp (by simp +contextual))⟩ <;> simp [hh, m4_2, m5_3, m14_118, m16_138, f177, dc176, dr179, -intBin])
    replace h := h.2 dr179
    obtain ⟨c180, ec180, h⟩ := atm h
    have f181 := ib_geq (k := .i64) ec180
    rcases Bool.eq_false_or_eq_true c180 with dc180 | dc180
    · replace h := h.1 dc180
      obtain ⟨hb182, h⟩ := h
      obtain ⟨x183, ex183, h⟩ := atm h
      have f184 := fun H => ix_list (H := H) (fr := false) (f := intC) (k := .i64) kd_24 (fun _ => rfl) hb182 ex183
      obtain ⟨c185, ec185, h⟩ := atm h
      have f186 := ib_neq (k := .i64) ec185
      simp [hh, m4_2, m5_3, m14_118, m16_138, f177, f181, f184, f186, dc176, dr179, dc180, -indexAddrF, -intBin]
      exact fin147 (c185) _ _ _ h (by refine ⟨E140, ?_, ?_, ?_, ?_, (by omega), hid, hI, (Sep.sub sp (by simp +contextual))⟩ <;> simp [hh, m4_2, m5_3, m14_118, m16_138, f177, f181, f184, f186, dc176, dr179, dc180, -indexAddrF, -intBin])
    replace h := h.2 dc180
    simp [hh, m4_2, m5_3, m14_118, m16_138, f177, f181, dc176, dr179, dc180, -intBin]
    exact fin147 (false) _ _ _ h (by refine ⟨E140, ?_, ?_, ?_, ?_, (by omega), hid, hI, (Sep.sub sp (by simp +contextual))⟩ <;> simp [hh, m4_2, m5_3, m14_118, m16_138, f177, f181, dc176, dr179, dc180, -intBin])
  replace h := h.2 dc134
  refine Runs.exit rfl ?_
  refine zE fun k' hk' => ?_
  simp [hh, m4_2, m5_3, m14_118, dc134]
  apply hk'
  exact Runs.ret1 (v := bool true) Tryz.func75 Tryz.results75 (by simp [hh, m4_2, m5_3, m14_118, dc134]) (hQ _ _ _ sG128 E130 hI (Sep.sub sp (by simp +contextual)) hid (by omega) ⟨true, h, rfl⟩)
theorem matchesY_okm {σ : Type} (step : σ → Match → σ × Bool) (G : σ → Prop) {gY : FuncId} {capsY : List AVal} {W : List Id} {I : σ → Heap → List OwnE → Prop} (hYe : Ent Tryz.prog gY) (hM : FrameI W I) (hY : ∀ s m v, G s → MZ m → EffT Tryz.prog gY ([v] ++ capsY) W I s [(.a [.s [.c], .s [.c]], v, .agg (Match.cells true m))] (fun s' r => s' = (step s m).1 ∧ r = bool (step s m).2)) (m : Nat) : ∀ (redex : Big) (agent : Big) (nodes : List Int) (sG : σ), matchesY_ms redex agent nodes = m → matchesY_pre step G redex agent nodes sG → EffT Tryz.prog 75 [.agg (bC false redex), .agg (bC false agent), .list false (nodes.map intC), .fn (.func gY) [] capsY] W I sG [] (fun s' r => s' = (matchesY step redex agent nodes sG).1 ∧ r = bool ((matchesY step redex agent nodes sG).2)) := by
  induction m using Nat.strongRecOn with
  | _ m ih =>
    rintro redex agent nodes sG rfl hp
    exact (matchesY_walk step G hYe hM hY redex agent nodes sG _ (fun redexr agentr nodesr sGr hp' hl => ih _ hl redexr agentr nodesr sGr rfl hp') (matchesY_vc step G redex agent nodes sG hp)).mono (by rintro _ _ ⟨y, hz, rfl⟩; rw [← hz]; exact ⟨rfl, rfl⟩)
theorem matchesY_ok {σ : Type} (step : σ → Match → σ × Bool) (G : σ → Prop) {gY : FuncId} {capsY : List AVal} {W : List Id} {I : σ → Heap → List OwnE → Prop} (hYe : Ent Tryz.prog gY) (hM : FrameI W I) (hY : ∀ s m v, G s → MZ m → EffT Tryz.prog gY ([v] ++ capsY) W I s [(.a [.s [.c], .s [.c]], v, .agg (Match.cells true m))] (fun s' r => s' = (step s m).1 ∧ r = bool (step s m).2)) (redex : Big) (agent : Big) (nodes : List Int) (sG : σ) (hp : matchesY_pre step G redex agent nodes sG) : EffT Tryz.prog 75 [.agg (bC false redex), .agg (bC false agent), .list false (nodes.map intC), .fn (.func gY) [] capsY] W I sG [] (fun s' r => s' = (matchesY step redex agent nodes sG).1 ∧ r = bool ((matchesY step redex agent nodes sG).2)) := matchesY_okm step G hYe hM hY _ redex agent nodes sG rfl hp
theorem e113 : Ent Tryz.prog 113 := Ent.of Tryz.func113 (by kernel_rfl) rfl
theorem l8Roots_walk (redex : Big) (agent : Big) (nodes : List Int) (Z : (List Int) → Prop) (h : l8Roots_wp redex agent nodes Z) : OwnS Tryz.prog 113 [.agg (bC false redex), .agg (bC false agent), .list false (nodes.map intC)] (.s [.c]) (fun r => ∃ y : List Int, Z y ∧ r = .list true (y.map intC)) := by
  unfold l8Roots_wp at h
  have sp : Sep noHeap 0 [] [] := Sep.nil (by simp)
  refine OwnS.of Tryz.func113 rfl Tryz.ntmps113 (by simp) fun Q hQ => ?_
  refine Runs.cut (fun ρ H n => (ρ 0 = .agg (bC false redex) ∧ ρ 1 = .agg (bC false agent) ∧ ρ 2 = .list false (nodes.map intC)) ∧ Sep H n [] []) (by refine ⟨?_, sp⟩ <;> simp ) ?_
  rintro ρ H n1 ⟨hh, sp⟩
  refine zE fun k' hk' => ?_
  simp [hh]
  apply hk'
  refine Runs.cut (fun ρ H n => (ρ 2 = .list false (nodes.map intC) ∧ ρ 3 = pA n1 3 ∧ ρ 4 = pA (n1 + 1) 4) ∧ H (n1, 3) = some ⟨6, [bC false redex]⟩ ∧ H (n1 + 1, 4) = some ⟨6, [bC false agent]⟩ ∧ Sep H n [] [(n1 + 1, 4), (n1, 3)]) (by refine ⟨?_, ?_, ?_, sp.var.var⟩ <;> simp [hh]) ?_
  clear hh
  rintro ρ H n4 ⟨hh, m3_1, m4_2, sp⟩
  refine zE fun k' hk' => ?_
  simp [hh, m3_1, m4_2]
  apply hk'
  refine Runs.cut (fun ρ H n => ∃ (v6 : AVal), (ρ 2 = .list false (nodes.map intC) ∧ ρ 3 = pA n1 3 ∧ ρ 4 = pA (n1 + 1) 4 ∧ ρ 7 = v6) ∧ H (n1, 3) = some ⟨6, [bC false redex]⟩ ∧ H (n1 + 1, 4) = some ⟨6, [bC false agent]⟩ ∧ Sep H n [oI v6 ([] : List Int)] [(n1 + 1, 4), (n1, 3)]) (by refine ⟨.arr (n4, 9) 0 0 0, ?_, ?_, ?_, (Sep.addEmpty (l := [.c]) sp)⟩ <;> simp [hh, m3_1, m4_2]) ?_
  clear hh m3_1 m4_2
  rintro ρ H n7 ⟨v6, hh, m3_1, m4_2, sp⟩
  refine Runs.seq ?_
  refine zE fun k' hk' => ?_
  simp [hh, m3_1, m4_2]
  apply hk'
  refine Runs.block ?_
  refine Runs.loopW h (fun (sJ : Int × (List Int)) ρ H n => match sJ with | (r15, l16) => ∃ (v17 : AVal), (ρ 2 = .list false (nodes.map intC) ∧ ρ 3 = pA n1 3 ∧ ρ 4 = pA (n1 + 1) 4 ∧ ρ 7 = v17 ∧ ρ 8 = int r15) ∧ H (n1, 3) = some ⟨6, [bC false redex]⟩ ∧ H (n1 + 1, 4) = some ⟨6, [bC false agent]⟩ ∧ Sep H n [oI v17 l16] [(n1 + 1, 4), (n1, 3)]) (by refine ⟨v6, ?_, ?_, ?_, sp⟩ <;> simp [hh, m3_1, m4_2]) ?_
  clear hh m3_1 m4_2
  rintro ⟨r15, l16⟩ ρ H n18 K h ⟨v17, hh, m3_1, m4_2, sp⟩ IH19
  refine Runs.seq ?_
  refine zE fun k' hk' => ?_
  obtain ⟨c21, ec21, h⟩ := atm h
  have f22 := ib_lss (k := .i64) ec21
  simp [hh, m3_1, m4_2, f22, -intBin]
  apply hk'
  refine Runs.ite (b := c21) (by simp [hh, m3_1, m4_2]) (fun dc21 => ?_) (fun dc21 => ?_)
  · replace h := h.1 dc21
    refine Runs.skip ?_
    refine Runs.seq ?_
    refine Runs.block ?_
    refine Runs.evalDE Ty_ok kindOp_ok draws (by decide) (by kernel_rfl) fun k' hk' => ?_
    obtain ⟨hb23, h⟩ := h
    obtain ⟨v24, ev24, h⟩ := atm h
    have f25 := ib_sub hb23 ev24
    obtain ⟨hb26, h⟩ := h
    obtain ⟨r27, er27, h⟩ := atm h
    simp [hh, m3_1, m4_2, f25, dc21, -intBin]
    refine RunDK.callA Ty_ok kindOp_ok ((l2Kids_ok redex v24 hb26).pure) e160 (.cons (argB false redex) (.cons (.v _ _ _) .nil)) (by decide) rfl (by simp [hh, m3_1, m4_2, f25, dc21, -intBin]) ?_
    rw [← er27]
    obtain ⟨hb28, h⟩ := h
    obtain ⟨x29, ex29, h⟩ := atm h
    have f30 := fun H => ix_list (H := H) (fr := true) (f := intC) (k := .i64) kd_24 (fun _ => rfl) hb28 ex29
    obtain ⟨hb31, h⟩ := h
    obtain ⟨x32, ex32, h⟩ := atm h
    have f33 := fun H => ix_list (H := H) (fr := false) (f := intC) (k := .i64) kd_24 (fun _ => rfl) hb31 ex32
    obtain ⟨hb34, h⟩ := h
    obtain ⟨x35, ex35, h⟩ := atm h
    have f36 := fun H => ix_list (H := H) (fr := false) (f := (GNode.cells false)) (k := .i64) kd_44 (fun _ => rfl) hb34 ex35
    obtain ⟨hb37, h⟩ := h
    obtain ⟨l38, el38, h⟩ := atm h
    simp [hh, m3_1, m4_2, f25, f30, f33, f36, dc21, -indexAddrF, -intBin, -appendF]
    refine bindD_append [] [] [[int x35.parent]] [intC x35.parent] sp kd_24 (by simp) (by simp) (by simp) (by simp [-one1, o1x]) (rows_one (Fill.v _ Fill.nil)) (by simp) (by simpa using hb37) ?_
    rintro v39 H40 n41 sp hfr42 hle43
    replace sp : Sep H40 n41 [oI v39 l38] [(n1 + 1, 4), (n1, 3)] := Sep.ap el38 sp
    have m3_1 : H40 (n1, 3) = some ⟨6, [bC false redex]⟩ := (hfr42 _ (by simp)).trans (by simp [hh, m3_1, m4_2, Heap.get_set])
    have m4_2 : H40 (n1 + 1, 4) = some ⟨6, [bC false agent]⟩ := (hfr42 _ (by simp)).trans (by simp [hh, m3_1, m4_2, Heap.get_set])
    simp [hh, m3_1, m4_2, f25, f30, f33, f36, dc21, -indexAddrF, -intBin]
    apply hk'
    refine Runs.cut (fun ρ H n => ∃ (v45 : AVal), (ρ 2 = .list false (nodes.map intC) ∧ ρ 3 = pA n1 3 ∧ ρ 4 = pA (n1 + 1) 4 ∧ ρ 7 = v45 ∧ ρ 8 = int r15) ∧ H (n1, 3) = some ⟨6, [bC false redex]⟩ ∧ H (n1 + 1, 4) = some ⟨6, [bC false agent]⟩ ∧ Sep H n [oI v45 l38] [(n1 + 1, 4), (n1, 3)]) (by refine ⟨v39, ?_, ?_, ?_, sp⟩ <;> simp [hh, m3_1, m4_2, f25, f30, f33, f36, dc21, -indexAddrF, -intBin]) ?_
    clear hh m3_1 m4_2
    rintro ρ H n46 ⟨v45, hh, m3_1, m4_2, sp⟩
    refine Runs.inBlock ?_
    refine zF fun k' hk' => ?_
    obtain ⟨hb47, h⟩ := h
    obtain ⟨v48, ev48, h⟩ := atm h
    have f49 := ib_add hb47 ev48
    simp [hh, m3_1, m4_2, f49, -intBin]
    apply hk'
    refine IH19 (v48, l38) _ _ _ h (by refine ⟨v45, ?_, ?_, ?_, sp⟩ <;> simp [hh, m3_1, m4_2])
  replace h := h.2 dc21
  refine Runs.exit rfl ?_
  refine zE fun k' hk' => ?_
  simp [hh, m3_1, m4_2, dc21]
  apply hk'
  exact Runs.ret1 (v := v17) Tryz.func113 Tryz.results113 (by simp [hh, m3_1, m4_2, dc21]) (hQ _ _ _ _ (Sep.sub (ids' := []) sp (by simp)) ⟨l16, h, rfl⟩)
theorem l8Roots_ok (redex : Big) (agent : Big) (nodes : List Int) (hp : l8Roots_pre redex agent nodes) : OwnS Tryz.prog 113 [.agg (bC false redex), .agg (bC false agent), .list false (nodes.map intC)] (.s [.c]) (fun r => r = .list true ((l8Roots redex agent nodes).map intC)) := (l8Roots_walk redex agent nodes _ (l8Roots_vc redex agent nodes hp)).mono (by rintro _ ⟨_, rfl, rfl⟩; rfl)
theorem e114 : Ent Tryz.prog 114 := Ent.of Tryz.func114 (by kernel_rfl) rfl
theorem l8Can_walk (redex : Big) (agent : Big) (nodes : List Int) (x : Int) (Z : Bool → Prop) (h : l8Can_wp redex agent nodes x Z) : PureC Tryz.prog 114 [.agg (bC false redex), .agg (bC false agent), .list false (nodes.map intC), int x] (fun r => ∃ y : Bool, Z y ∧ r = bool y) := by
  unfold l8Can_wp at h
  refine PureC.of Tryz.func114 rfl Tryz.ntmps114 (by simp) fun Q hQ => ?_
  refine Runs.cut (fun ρ H n => (ρ 0 = .agg (bC false redex) ∧ ρ 1 = .agg (bC false agent) ∧ ρ 2 = .list false (nodes.map intC) ∧ ρ 3 = int x)) (by simp) ?_
  rintro ρ H n1 hh
  refine zE fun k' hk' => ?_
  simp [hh]
  apply hk'
  refine Runs.cut (fun ρ H n => (ρ 2 = .list false (nodes.map intC) ∧ ρ 3 = int x ∧ ρ 4 = pA n1 4 ∧ ρ 5 = pA (n1 + 1) 5) ∧ H (n1, 4) = some ⟨6, [bC false redex]⟩ ∧ H (n1 + 1, 5) = some ⟨6, [bC false agent]⟩) (by refine ⟨?_, ?_, ?_⟩ <;> simp [hh]) ?_
  clear hh
  rintro ρ H n4 ⟨hh, m4_1, m5_2⟩
  refine zE fun k' hk' => ?_
  obtain ⟨len5, elen5, h⟩ := atm h
  have f6 := fun H => len_list (H := H) (fr := false) (f := intC) kd_24 elen5
  simp [hh, m4_1, m5_2, f6, -lenF]
  apply hk'
  refine Runs.seq ?_
  refine Runs.seqD Ty_ok kindOp_ok draws (by decide) (by kernel_rfl) fun k' hk' => ?_
  obtain ⟨J7, hJ8, hr9⟩ := h
  have fin11 : ∀ (sJ : Bool) (ρ : Env) (H : Heap) (n : Nat), J7 sJ → (match sJ with | b10 => (ρ 2 = .list false (nodes.map intC) ∧ ρ 3 = int x ∧ ρ 4 = pA n1 4 ∧ ρ 5 = pA (n1 + 1) 5 ∧ ρ 9 = int len5 ∧ ρ 30 = bool b10) ∧ H (n1, 4) = some ⟨6, [bC false redex]⟩ ∧ H (n1 + 1, 5) = some ⟨6, [bC false agent]⟩) → Runs Tryz.prog 114 52 k' ρ H n Q := by
    rintro b10 ρ H n12 h ⟨hh, m4_1, m5_2⟩
    replace h := hr9 _ h
    apply hk'
    refine Runs.ite (b := b10) (by simp [hh, m4_1, m5_2]) (fun db10 => ?_) (fun db10 => ?_)
    · replace h := h.1 db10
      refine zE fun k' hk' => ?_
      simp [hh, m4_1, m5_2, db10]
      apply hk'
      exact Runs.ret1 (v := bool false) Tryz.func114 Tryz.results114 (by simp [hh, m4_1, m5_2, db10]) (hQ _ _ _ _ (.of (.v _)) ⟨false, h, rfl⟩)
    replace h := h.2 db10
    refine Runs.skip ?_
    refine zE fun k' hk' => ?_
    obtain ⟨hb13, h⟩ := h
    obtain ⟨x14, ex14, h⟩ := atm h
    have f15 := fun H => ix_list (H := H) (fr := false) (f := (GNode.cells false)) (k := .i64) kd_44 (fun _ => rfl) hb13 ex14
    simp [hh, m4_1, m5_2, f15, db10, -indexAddrF]
    apply hk'
    refine Runs.seqD Ty_ok kindOp_ok draws (by decide) (by kernel_rfl) fun k' hk' => ?_
    obtain ⟨J16, hJ17, hr18⟩ := h
    have fin20 : ∀ (sJ : Bool) (ρ : Env) (H : Heap) (n : Nat), J16 sJ → (match sJ with | b19 => ρ 8 = bool b19) → Runs Tryz.prog 114 52 k' ρ H n Q := by
      rintro b19 ρ H n21 h hh
      replace h := hr18 _ h
      apply hk'
      exact Runs.ret1 (v := bool b19) Tryz.func114 Tryz.results114 (by simp [hh]) (hQ _ _ _ _ (.of (.v _)) ⟨b19, h, rfl⟩)
    replace h := hJ17
    obtain ⟨c22, ec22, h⟩ := atm h
    have f23 := ib_lss (k := .i64) ec22
    rcases Bool.eq_false_or_eq_true c22 with dc22 | dc22
    · replace h := h.1 dc22
      simp [hh, m4_1, m5_2, f23, db10, dc22, -intBin]
      exact fin20 (true) _ _ _ h (by simp [hh, m4_1, m5_2, f23, db10, dc22, -intBin])
    replace h := h.2 dc22
    obtain ⟨hb24, h⟩ := h
    obtain ⟨x25, ex25, h⟩ := atm h
    have f26 := fun H => ix_list (H := H) (fr := false) (f := (GNode.cells false)) (k := .i64) kd_44 (fun _ => rfl) hb24 ex25
    obtain ⟨hb27, h⟩ := h
    obtain ⟨x28, ex28, h⟩ := atm h
    have f29 := fun H => ix_list (H := H) (fr := false) (f := intC) (k := .i64) kd_24 (fun _ => rfl) hb27 ex28
    obtain ⟨c30, ec30, h⟩ := atm h
    have f31 := ib_eql (k := .i64) ec30
    simp [hh, m4_1, m5_2, f23, f26, f29, f31, db10, dc22, -indexAddrF, -intBin]
    exact fin20 (c30) _ _ _ h (by simp [hh, m4_1, m5_2, f23, f26, f29, f31, db10, dc22, -indexAddrF, -intBin])
  replace h := hJ8
  obtain ⟨hb32, h⟩ := h
  obtain ⟨x33, ex33, h⟩ := atm h
  have f34 := fun H => ix_list (H := H) (fr := false) (f := (GNode.cells false)) (k := .i64) kd_44 (fun _ => rfl) hb32 ex33
  obtain ⟨hb35, h⟩ := h
  obtain ⟨x36, ex36, h⟩ := atm h
  have f37 := fun H => ix_list (H := H) (fr := false) (f := (GNode.cells false)) (k := .i64) kd_44 (fun _ => rfl) hb35 ex36
  obtain ⟨c38, ec38, h⟩ := atm h
  have f39 := ib_neq (k := .i64) ec38
  rcases Bool.eq_false_or_eq_true c38 with dc38 | dc38
  · replace h := h.1 dc38
    simp [hh, m4_1, m5_2, f34, f37, f39, dc38, -indexAddrF, -intBin]
    exact fin11 (true) _ _ _ h (by refine ⟨?_, ?_, ?_⟩ <;> simp [hh, m4_1, m5_2, f34, f37, f39, dc38, -indexAddrF, -intBin])
  replace h := h.2 dc38
  obtain ⟨hb40, h⟩ := h
  obtain ⟨r41, er41, h⟩ := atm h
  simp [hh, m4_1, m5_2, f34, f37, f39, dc38, -indexAddrF, -intBin]
  refine RunDK.callA Ty_ok kindOp_ok (l1HasI_ok nodes x hb40) e163 (.cons (argI false nodes) (.cons (.v _ _ _) .nil)) (by decide) rfl (by simp [hh, m4_1, m5_2, f34, f37, f39, dc38, -indexAddrF, -intBin]) ?_
  rw [← er41]
  simp [hh, m4_1, m5_2, f34, f37, f39, dc38, -indexAddrF, -intBin]
  exact fin11 (r41) _ _ _ h (by refine ⟨?_, ?_, ?_⟩ <;> simp [hh, m4_1, m5_2, f34, f37, f39, dc38, -indexAddrF, -intBin])
theorem l8Can_ok (redex : Big) (agent : Big) (nodes : List Int) (x : Int) (hp : l8Can_pre redex agent nodes x) : PureC Tryz.prog 114 [.agg (bC false redex), .agg (bC false agent), .list false (nodes.map intC), int x] (fun r => r = bool (l8Can redex agent nodes x)) := (l8Can_walk redex agent nodes x _ (l8Can_vc redex agent nodes x hp)).mono (by rintro _ ⟨_, rfl, rfl⟩; rfl)
end Go.Ab.Vg
/- What walks by program lean on: the text of a mark, and nested slices handed over. -/
namespace Go.Ab.Vg
open Go.Proofs
end Go.Ab.Vg
