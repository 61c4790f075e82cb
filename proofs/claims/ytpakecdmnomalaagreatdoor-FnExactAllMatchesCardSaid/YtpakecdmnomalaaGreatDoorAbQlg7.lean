/- Merged texts (7 of 14) of the proof that ends in Lgy: Mb Mc Mk Mn Uj Uk Lm Nm. -/
import Derived.Test.YtpakecdmnomalaaGreatDoorAbQlg6
import Derived.Laws.BytesString
/- Matches: pure conditions of the functions of program and reference. -/
namespace Go.Ab.Vg
set_option linter.unusedSimpArgs false
set_option linter.unusedVariables false
def hasI (l : List Int) (x : Int) : Bool := l.any fun y => x == y
theorem hasI_iff {l : List Int} {x : Int} : hasI l x = true ↔ x ∈ l := by simp [hasI]
theorem hasI_no {l : List Int} {x : Int} : hasI l x = false ↔ x ∉ l := by rw [← hasI_iff]; simp
def underF (b : Big) (nodes : List Int) : Nat → Int → Bool
 | 0, _ => false
 | m + 1, p => if p < 0 then false else if p ∈ nodes then true else underF b nodes m (at' b.nodes p).parent
def underB (b : Big) (nodes : List Int) (p : Int) : Bool := underF b nodes (p + 1).toNat p
theorem underF_fuel {b : Big} (hd : ∀ i : Int, 0 ≤ i → i < b.nodes.length → (at' b.nodes i).parent < i) (nodes : List Int) : ∀ (m m' : Nat) (p : Int), p < b.nodes.length → p + 1 ≤ m → p + 1 ≤ m' → underF b nodes m p = underF b nodes m' p
 | 0, 0, _, _, _, _ => rfl
 | 0, m' + 1, p, _, h, _ => by rw [underF, underF, if_pos (by omega)]
 | m + 1, 0, p, _, _, h => by rw [underF, underF, if_pos (by omega)]
 | m + 1, m' + 1, p, h, h1, h2 => by
  rw [underF, underF]
  split
  ·rfl
  ·split
   ·rfl
   ·have := hd p (by omega) h
    exact underF_fuel hd nodes m m' _ (by omega) (by omega) (by omega)
theorem underB_neg {b : Big} {nodes : List Int} {p : Int} (h : p < 0) : underB b nodes p = false := by
 rw [underB, show (p + 1).toNat = 0 by omega]; rfl
theorem underB_in {b : Big} {nodes : List Int} {p : Int} (h : 0 ≤ p) (hm : p ∈ nodes) : underB b nodes p = true := by
 rw [underB, show (p + 1).toNat = p.toNat + 1 by omega, underF, if_neg (by omega), if_pos hm]
theorem underB_up {b : Big} (hd : ∀ i : Int, 0 ≤ i → i < b.nodes.length → (at' b.nodes i).parent < i) {nodes : List Int} {p : Int} (h : 0 ≤ p) (hl : p < b.nodes.length) (hm : p ∉ nodes) : underB b nodes p = underB b nodes (at' b.nodes p).parent := by
 have := hd p h hl
 rw [underB, show (p + 1).toNat = p.toNat + 1 by omega, underF, if_neg (by omega), if_neg hm, underB]
 exact underF_fuel hd nodes _ _ _ (by omega) (by omega) (by omega)
abbrev DownB (b : Big) : Prop := b.nodes.length ≤ 1048576 ∧ ∀ i : Int, 0 ≤ i → i < b.nodes.length → (at' b.nodes i).parent < i
theorem ValidB.downB {sig : Sig} {b : Big} (h : ValidB sig b) : DownB b := ⟨by have := h.len; omega, fun i h0 h1 => (h.parAt ⟨h0, h1⟩).2⟩
abbrev isUnder_pre (b : Big) (p : Int) (nodes : List Int) : Prop := DownB b ∧ p < b.nodes.length ∧ nodes.length ≤ 1048576
abbrev isUnder (b : Big) (p : Int) (nodes : List Int) : Bool := underB b nodes p
def isUnder_wp (b : Big) (place : Int) (nodes : List Int) (Z : Bool → Prop) : Prop :=
 loopW (σ := Int) (fun placeV6 K9 => ∀ c10 : Bool, c10 = decide (0 ≤ placeV6) → ((c10 = true → (nodes.length ≤ 1048576) ∧ ∀ r13 : Bool, r13 = hasI nodes placeV6 → ((r13 = true → Z true) ∧ (r13 = false → (0 ≤ placeV6 ∧ placeV6 < b.nodes.length) ∧ ∀ x15 : GNode, x15 = at' b.nodes placeV6 → K9 (x15.parent)))) ∧ (c10 = false → Z false))) (place)
theorem isUnder_vc (b : Big) (p : Int) (nodes : List Int) (h : isUnder_pre b p nodes) : isUnder_wp b p nodes (fun y => y = isUnder b p nodes) := by
 unfold isUnder_wp
 obtain ⟨⟨hn, hd⟩, hp, hl⟩ := h
 simp only [forall_eq, decide_eq_true_eq, decide_eq_false_iff_not]
 refine loopW.byM (fun q => q < b.nodes.length ∧ underB b nodes q = underB b nodes p) (fun q => (q + 1).toNat) ⟨hp, rfl⟩ ?_
 rintro q ⟨h1, h2⟩
 refine ⟨fun h3 => ⟨hl, fun h4 => ?_, fun h4 => ⟨⟨h3, h1⟩, ⟨?_, ?_⟩, ?_⟩⟩, fun h3 => ?_⟩
 ·rw [isUnder, ← h2, underB_in h3 (hasI_iff.1 h4)]
 ·have := hd q h3 h1; omega
 ·rw [← h2, underB_up hd h3 h1 (hasI_no.1 h4)]
 ·have := hd q h3 h1; omega
 ·rw [isUnder, ← h2, underB_neg (by omega)]
abbrev l8Inside_pre (b : Big) (m : Match) (p : Int) : Prop := DownB b ∧ p < b.nodes.length ∧ m.nodes.length ≤ 1048576
abbrev l8Inside (b : Big) (m : Match) (p : Int) : Bool := underB b m.nodes p
def l8Inside_wp (agent : Big) (m : Match) (place : Int) (Z : Bool → Prop) : Prop :=
 loopW (σ := Int) (fun placeV7 K10 => ∀ c11 : Bool, c11 = decide (0 ≤ placeV7) → ((c11 = true → (m.nodes.length ≤ 1048576) ∧ ∀ r14 : Bool, r14 = hasI m.nodes placeV7 → ((r14 = true → Z true) ∧ (r14 = false → (0 ≤ placeV7 ∧ placeV7 < agent.nodes.length) ∧ ∀ x16 : GNode, x16 = at' agent.nodes placeV7 → K10 (x16.parent)))) ∧ (c11 = false → Z false))) (place)
theorem l8Inside_vc (b : Big) (m : Match) (p : Int) (h : l8Inside_pre b m p) : l8Inside_wp b m p (fun y => y = l8Inside b m p) := by
 unfold l8Inside_wp
 obtain ⟨⟨hn, hd⟩, hp, hl⟩ := h
 simp only [forall_eq, decide_eq_true_eq, decide_eq_false_iff_not]
 refine loopW.byM (fun q => q < b.nodes.length ∧ underB b m.nodes q = underB b m.nodes p) (fun q => (q + 1).toNat) ⟨hp, rfl⟩ ?_
 rintro q ⟨h1, h2⟩
 refine ⟨fun h3 => ⟨hl, fun h4 => ?_, fun h4 => ⟨⟨h3, h1⟩, ⟨?_, ?_⟩, ?_⟩⟩, fun h3 => ?_⟩
 ·rw [l8Inside, ← h2, underB_in h3 (hasI_iff.1 h4)]
 ·have := hd q h3 h1; omega
 ·rw [← h2, underB_up hd h3 h1 (hasI_no.1 h4)]
 ·have := hd q h3 h1; omega
 ·rw [l8Inside, ← h2, underB_neg (by omega)]
def imgAt (agent : Big) (nodes : List Int) (p : Int × Int) : Int := at' (at' agent.nodes (at' nodes p.1)).links p.2
def firstOf (agent : Big) (nodes : List Int) (l : List (Int × Int)) : Int := match l with | [] => -1 | p :: _ => imgAt agent nodes p
abbrev firstL (redex agent : Big) (nodes : List Int) (l : Int) : Int := firstOf agent nodes (portsB redex l)
def LinkOk (redex agent : Big) (nodes : List Int) (l : Int) : Prop := (∀ p ∈ portsB redex l, imgAt agent nodes p = firstL redex agent nodes l) ∧ (l < redex.edges → firstL redex agent nodes l < agent.edges ∧ (portsB agent (firstL redex agent nodes l)).length = (portsB redex l).length)
def LinksP (redex agent : Big) (nodes : List Int) : Prop := ∀ l : Int, 0 ≤ l → l < redex.edges + redex.outer.length → LinkOk redex agent nodes l
open Classical in
noncomputable def linksR (redex agent : Big) (nodes : List Int) : List Int × Bool :=
 if LinksP redex agent nodes then ((List.range (redex.edges + redex.outer.length).toNat).map fun l : Nat => firstL redex agent nodes (l : Int), true) else ([], false)
def parentImg (redex : Big) (m : Match) (k : Int) : Int := if 0 ≤ (at' redex.nodes k).parent then at' m.nodes (at' redex.nodes k).parent else at' m.roots (-1 - (at' redex.nodes k).parent)
def ImgOk (redex agent : Big) (m : Match) (k : Int) : Prop :=
 (at' agent.nodes (at' m.nodes k)).control = (at' redex.nodes k).control ∧ (at' agent.nodes (at' m.nodes k)).parent = parentImg redex m k ∧ ((holesB redex k).length = 0 → ∀ c ∈ kidsB agent (at' m.nodes k), c ∈ m.nodes)
def NodesOk (redex agent : Big) (nodes : List Int) : Prop := nodes.length = redex.nodes.length ∧ ∀ i : Nat, i < nodes.length → isNodeB agent (at' nodes (i : Int)) = true ∧ at' nodes (i : Int) ∉ nodes.take i
def RootsOk (redex agent : Big) (m : Match) : Prop := (m.roots.length : Int) = redex.roots ∧ ∀ p ∈ m.roots, -agent.roots ≤ p ∧ p < agent.nodes.length ∧ underB agent m.nodes p = false
def MatchP (redex agent : Big) (m : Match) : Prop := NodesOk redex agent m.nodes ∧ RootsOk redex agent m ∧ (∀ k : Nat, k < redex.nodes.length → ImgOk redex agent m (k : Int)) ∧ LinksP redex agent m.nodes
open Classical in
noncomputable def matchB (redex agent : Big) (m : Match) : Bool := decide (MatchP redex agent m)
theorem matchB_iff {redex agent : Big} {m : Match} : matchB redex agent m = true ↔ MatchP redex agent m := by simp [matchB]
theorem matchB_no {redex agent : Big} {m : Match} (h : ¬ MatchP redex agent m) : matchB redex agent m = false := by simp [matchB, h]
abbrev MSz (m : Match) : Prop := m.nodes.length ≤ 1048576 ∧ m.roots.length ≤ 1048576
structure Pair (sig : Sig) (redex agent : Big) : Prop where
 r : ValidB sig redex
 a : ValidB sig agent
 red : RedexP redex
def areImages1_wp (c : Int) (v_ : Match) (Z : Bool → Prop) : Prop :=
 (v_.nodes.length ≤ 1048576) ∧ ∀ r3 : Bool, r3 = hasI v_.nodes c → Z (!r3)
abbrev areImages1 (c : Int) (m : Match) : Bool := !(hasI m.nodes c)
abbrev areImages1_pre (c : Int) (m : Match) : Prop := m.nodes.length ≤ 1048576
theorem areImages1_vc (c : Int) (m : Match) (h : areImages1_pre c m) : areImages1_wp c m (fun y => y = areImages1 c m) := by
 unfold areImages1_wp
 exact ⟨h, by rintro _ rfl; rfl⟩
def ImgsOk (redex agent : Big) (m : Match) : Prop := ∀ k : Nat, k < redex.nodes.length → ImgOk redex agent m (k : Int)
open Classical in
noncomputable def areImages (redex agent : Big) (m : Match) : Bool := decide (ImgsOk redex agent m)
theorem areImages_no {redex agent : Big} {m : Match} (h : ¬ ImgsOk redex agent m) : areImages redex agent m = false := by simp [areImages, h]
theorem areImages_yes {redex agent : Big} {m : Match} (h : ImgsOk redex agent m) : areImages redex agent m = true := by simp [areImages, h]
theorem areImages_iff {redex agent : Big} {m : Match} : areImages redex agent m = true ↔ ImgsOk redex agent m := by simp [areImages]
abbrev InNodes (agent : Big) (nodes : List Int) (n : Nat) : Prop := nodes.length = n ∧ ∀ i : Nat, i < nodes.length → 0 ≤ at' nodes (i : Int) ∧ at' nodes (i : Int) < agent.nodes.length
abbrev areImages_pre (redex agent : Big) (m : Match) : Prop := (∃ sig, Pair sig redex agent) ∧ InNodes agent m.nodes redex.nodes.length ∧ (m.roots.length : Int) = redex.roots
def areImages_wp (redex : Big) (agent : Big) (m : Match) (Z : Bool → Prop) : Prop :=
 ∀ len6 : Int, len6 = (redex.nodes.length : Int) → loopW (σ := Int) (fun v10 K13 => ∀ c14 : Bool, c14 = decide (v10 < len6) → ((c14 = true → (0 ≤ v10 ∧ v10 < redex.nodes.length) ∧ ∀ x17 : GNode, x17 = at' redex.nodes v10 → (0 ≤ v10 ∧ v10 < m.nodes.length) ∧ ∀ x22 : Int, x22 = at' m.nodes v10 → (0 ≤ x22 ∧ x22 < agent.nodes.length) ∧ ∀ x25 : GNode, x25 = at' agent.nodes x22 → ∀ c29 : Bool, c29 = decide (0 ≤ x17.parent) → ((c29 = true → (0 ≤ x17.parent ∧ x17.parent < m.nodes.length) ∧ ∀ x32 : Int, x32 = at' m.nodes x17.parent → joinW (fun (J34 : Bool → Prop) => ∀ c60 : Bool, c60 = decide (x25.control ≠ x17.control) → ((c60 = true → J34 (true)) ∧ (c60 = false → ∀ c62 : Bool, c62 = decide (x25.parent ≠ x32) → J34 (c62)))) (fun b37 => ((b37 = true → Z false) ∧ (b37 = false → (childrenOf_pre redex v10) ∧ ∀ r41 : (List Int) × (List Int), r41 = childrenOf redex v10 → ∀ len42 : Int, len42 = (r41.2.length : Int) → ∀ c44 : Bool, c44 = decide (0 < len42) → ((c44 = true → (I64 (v10 + 1)) ∧ ∀ v47 : Int, v47 = v10 + 1 → K13 (v47)) ∧ (c44 = false → (0 ≤ v10 ∧ v10 < m.nodes.length) ∧ ∀ x50 : Int, x50 = at' m.nodes v10 → (childrenOf_pre agent x50) ∧ ∀ r53 : (List Int) × (List Int), r53 = childrenOf agent x50 → (r53.1.length ≤ 1048576 ∧ ∀ z ∈ r53.1, areImages1_pre z m) ∧ ∀ r56 : Bool, r56 = r53.1.any (fun z => areImages1 z m) → ((r56 = true → Z false) ∧ (r56 = false → (I64 (v10 + 1)) ∧ ∀ v58 : Int, v58 = v10 + 1 → K13 (v58))))))))) ∧ (c29 = false → (I64 ((-1) - x17.parent)) ∧ ∀ v65 : Int, v65 = (-1) - x17.parent → (0 ≤ v65 ∧ v65 < m.roots.length) ∧ ∀ x68 : Int, x68 = at' m.roots v65 → joinW (fun (J70 : Bool → Prop) => ∀ c96 : Bool, c96 = decide (x25.control ≠ x17.control) → ((c96 = true → J70 (true)) ∧ (c96 = false → ∀ c98 : Bool, c98 = decide (x25.parent ≠ x68) → J70 (c98)))) (fun b73 => ((b73 = true → Z false) ∧ (b73 = false → (childrenOf_pre redex v10) ∧ ∀ r77 : (List Int) × (List Int), r77 = childrenOf redex v10 → ∀ len78 : Int, len78 = (r77.2.length : Int) → ∀ c80 : Bool, c80 = decide (0 < len78) → ((c80 = true → (I64 (v10 + 1)) ∧ ∀ v83 : Int, v83 = v10 + 1 → K13 (v83)) ∧ (c80 = false → (0 ≤ v10 ∧ v10 < m.nodes.length) ∧ ∀ x86 : Int, x86 = at' m.nodes v10 → (childrenOf_pre agent x86) ∧ ∀ r89 : (List Int) × (List Int), r89 = childrenOf agent x86 → (r89.1.length ≤ 1048576 ∧ ∀ z ∈ r89.1, areImages1_pre z m) ∧ ∀ r92 : Bool, r92 = r89.1.any (fun z => areImages1 z m) → ((r92 = true → Z false) ∧ (r92 = false → (I64 (v10 + 1)) ∧ ∀ v94 : Int, v94 = v10 + 1 → K13 (v94))))))))))) ∧ (c14 = false → Z true))) (0)
theorem areImages_vc (redex agent : Big) (m : Match) (h : areImages_pre redex agent m) : areImages_wp redex agent m (fun y => y = areImages redex agent m) := by
 unfold areImages_wp
 obtain ⟨⟨sig, hP⟩, ⟨hlen, hin⟩, hroots⟩ := h
 have hr8 := hP.r.len
 have ha8 := hP.a.len
 have hrr := hP.r.roots
 have hcr : childrenOf_pre redex 0 := ⟨by omega, by have := hP.r.slen; omega⟩
 have hca : childrenOf_pre agent 0 := ⟨by omega, by have := hP.a.slen; omega⟩
 simp only [forall_eq, decide_eq_true_eq, decide_eq_false_iff_not]
 refine loopW.up1 redex.nodes.length (fun k => ∀ j : Nat, j < k → ImgOk redex agent m j) (fun j hj => by omega) ?_
 rintro k K hk hI IH
 refine ⟨fun hc => ?_, fun hc => (areImages_yes fun j hj => hI j (by omega)).symm⟩
 have hk1 : k < redex.nodes.length := by omega
 have hpar := hP.r.parAt (i := k) ⟨by omega, by omega⟩
 have him := hin k (by omega)
 have hkl : (kidsB agent (at' m.nodes (k : Int))).length ≤ agent.nodes.length := idxs_len _ _ _
 have hnext : ImgOk redex agent m k → ∀ j : Nat, j < k + 1 → ImgOk redex agent m j := fun h j hj => by
  rcases Nat.lt_or_ge j k with h1 | h1
  ·exact hI j h1
  ·rw [show j = k by omega]; exact h
 refine ⟨by omega, by omega, him, fun h1 => ⟨by omega, ?_⟩, fun h1 => ⟨by simp only [I64]; omega, by omega, ?_⟩⟩
 ·have hx : at' m.nodes (at' redex.nodes (k : Int)).parent = parentImg redex m k := by rw [parentImg, if_pos h1]
  generalize at' m.nodes (at' redex.nodes (k : Int)).parent = x at hx ⊢
  refine ⟨fun c => c = true ↔ ¬ ((at' agent.nodes (at' m.nodes (k : Int))).control = (at' redex.nodes (k : Int)).control ∧ (at' agent.nodes (at' m.nodes (k : Int))).parent = x), ⟨fun h2 => iff_of_true rfl (fun h3 => h2 h3.1), fun h2 => by simp only [decide_eq_true_eq]; exact ⟨fun h3 h4 => h3 h4.2, fun h3 h4 => h3 ⟨Classical.not_not.1 h2, h4⟩⟩⟩, fun c hc => ⟨fun h3 => (areImages_no fun hA => ?_).symm, fun h3 => ?_⟩⟩
  ·have := hA k hk1
   exact hc.1 h3 ⟨this.1, by rw [hx]; exact this.2.1⟩
  have hcp := Classical.not_not.1 (fun h => by rw [hc.2 h] at h3; cases h3)
  refine ⟨hcr, fun h4 => ⟨by simp only [I64]; omega, IH hk1 fun j hj => hnext ⟨hcp.1, by rw [← hx]; exact hcp.2, fun h0 => by omega⟩ j hj⟩, fun h4 => ⟨by omega, hca, ⟨by omega, fun z _ => by simp only [areImages1_pre]; omega⟩, fun h5 => (areImages_no fun hA => ?_).symm, fun h5 => ⟨by simp only [I64]; omega, IH hk1 fun j hj => hnext ⟨hcp.1, by rw [← hx]; exact hcp.2, fun _ c hcm => ?_⟩ j hj⟩⟩⟩
  ·obtain ⟨z, hz, hz2⟩ := List.any_eq_true.1 h5
   have := (hA k hk1).2.2 (by omega) z hz
   rw [areImages1, hasI_iff.2 this] at hz2
   cases hz2
  ·have := List.any_eq_false.1 h5 c hcm
   rw [areImages1] at this
   simpa using hasI_iff.1 (by simpa using this)
 ·have hx : at' m.roots (-1 - (at' redex.nodes (k : Int)).parent) = parentImg redex m k := by rw [parentImg, if_neg h1]
  generalize at' m.roots (-1 - (at' redex.nodes (k : Int)).parent) = x at hx ⊢
  refine ⟨fun c => c = true ↔ ¬ ((at' agent.nodes (at' m.nodes (k : Int))).control = (at' redex.nodes (k : Int)).control ∧ (at' agent.nodes (at' m.nodes (k : Int))).parent = x), ⟨fun h2 => iff_of_true rfl (fun h3 => h2 h3.1), fun h2 => by simp only [decide_eq_true_eq]; exact ⟨fun h3 h4 => h3 h4.2, fun h3 h4 => h3 ⟨Classical.not_not.1 h2, h4⟩⟩⟩, fun c hc => ⟨fun h3 => (areImages_no fun hA => ?_).symm, fun h3 => ?_⟩⟩
  ·have := hA k hk1
   exact hc.1 h3 ⟨this.1, by rw [hx]; exact this.2.1⟩
  have hcp := Classical.not_not.1 (fun h => by rw [hc.2 h] at h3; cases h3)
  refine ⟨hcr, fun h4 => ⟨by simp only [I64]; omega, IH hk1 fun j hj => hnext ⟨hcp.1, by rw [← hx]; exact hcp.2, fun h0 => by omega⟩ j hj⟩, fun h4 => ⟨by omega, hca, ⟨by omega, fun z _ => by simp only [areImages1_pre]; omega⟩, fun h5 => (areImages_no fun hA => ?_).symm, fun h5 => ⟨by simp only [I64]; omega, IH hk1 fun j hj => hnext ⟨hcp.1, by rw [← hx]; exact hcp.2, fun _ c hcm => ?_⟩ j hj⟩⟩⟩
  ·obtain ⟨z, hz, hz2⟩ := List.any_eq_true.1 h5
   have := (hA k hk1).2.2 (by omega) z hz
   rw [areImages1, hasI_iff.2 this] at hz2
   cases hz2
  ·have := List.any_eq_false.1 h5 c hcm
   rw [areImages1] at this
   simpa using hasI_iff.1 (by simpa using this)
theorem idxs_prefix {α : Type} [Inhabited α] (l : List α) (p : α → Bool) {k k' : Nat} (h : k ≤ k') : idxs l p k <+: idxs l p k' := by
 induction h with
 | refl => exact List.prefix_refl _
 | @step q _ ih =>
  refine ih.trans ?_
  rcases Bool.eq_false_or_eq_true (p (at' l (q : Int))) with h | h
  ·rw [idxs_yes _ _ h]; exact List.prefix_append _ _
  ·rw [idxs_no _ _ h]; exact List.prefix_refl _
theorem rowP_prefix (b : Big) (l : Int) (i : Nat) {k k' : Nat} (h : k ≤ k') : rowP b l i k <+: rowP b l i k' := List.IsPrefix.map _ (idxs_prefix _ _ h)
theorem portsTo_prefix (b : Big) (l : Int) {i i' : Nat} (h : i ≤ i') : portsTo b l i <+: portsTo b l i' := by
 induction h with
 | refl => exact List.prefix_refl _
 | step _ ih => exact ih.trans (by rw [portsTo_succ]; exact List.prefix_append _ _)
def ptTo (b : Big) (l : Int) (i k : Nat) : List (Int × Int) := portsTo b l i ++ rowP b l i k
theorem ptTo_prefix {b : Big} (l : Int) {i k : Nat} (hi : i < b.nodes.length) (hk : k ≤ (at' b.nodes (i : Int)).links.length) : ptTo b l i k <+: portsB b l := by
 have h1 : ptTo b l i k <+: portsTo b l (i + 1) := by
  rw [ptTo, portsTo_succ]
  exact (List.prefix_append_right_inj _).2 (rowP_prefix _ _ _ hk)
 exact h1.trans (portsTo_prefix _ _ (by omega))
theorem firstOf_prefix {agent : Big} {nodes : List Int} {P Q : List (Int × Int)} (h : P <+: Q) (hne : P ≠ []) : firstOf agent nodes P = firstOf agent nodes Q := by
 obtain ⟨t, rfl⟩ := h
 cases P with
 | nil => exact absurd rfl hne
 | cons a P => rfl
theorem firstOf_snoc {agent : Big} {nodes : List Int} (P : List (Int × Int)) (p : Int × Int) : firstOf agent nodes (P ++ [p]) = if P = [] then imgAt agent nodes p else firstOf agent nodes P := by
 cases P <;> simp [firstOf]
theorem linksR_no {redex agent : Big} {nodes : List Int} (h : ¬ LinksP redex agent nodes) : linksR redex agent nodes = ([], false) := by rw [linksR, if_neg h]
theorem linksR_yes {redex agent : Big} {nodes : List Int} (h : LinksP redex agent nodes) : linksR redex agent nodes = ((List.range (redex.edges + redex.outer.length).toNat).map fun l : Nat => firstL redex agent nodes (l : Int), true) := by rw [linksR, if_pos h]
def outTo (redex agent : Big) (nodes : List Int) (i k : Nat) : List Int := (List.range (redex.edges + redex.outer.length).toNat).map fun l : Nat => firstOf agent nodes (ptTo redex (l : Int) i k)
theorem outTo_at {redex agent : Big} {nodes : List Int} {i k : Nat} {l : Int} (h0 : 0 ≤ l) (h : l < redex.edges + redex.outer.length) : at' (outTo redex agent nodes i k) l = firstOf agent nodes (ptTo redex l i k) := by
 obtain ⟨q, rfl⟩ : ∃ q : Nat, l = q := ⟨l.toNat, by omega⟩
 rw [at_lt (by simp [outTo]; omega)]
 simp [outTo]
theorem outTo_len (redex agent : Big) (nodes : List Int) (i k : Nat) : (outTo redex agent nodes i k).length = (redex.edges + redex.outer.length).toNat := by simp [outTo]
theorem outTo_set {redex agent : Big} {nodes : List Int} {i k : Nat} {l : Int} (h0 : 0 ≤ l) (hl : at' (at' redex.nodes (i : Int)).links (k : Int) = l) (hx : ptTo redex l i k = [] ∨ imgAt agent nodes ((i : Int), (k : Int)) = firstOf agent nodes (ptTo redex l i k)) :
  (outTo redex agent nodes i k).set l.toNat (imgAt agent nodes ((i : Int), (k : Int))) = outTo redex agent nodes i (k + 1) := by
 refine List.ext_getElem (by simp [outTo]) fun q h1 h2 => ?_
 simp only [outTo, List.getElem_set, List.getElem_map, List.getElem_range]
 split
 ·rename_i hq
  have hq2 : ((q : Nat) : Int) = l := by omega
  rw [hq2, ptTo, rowP_yes hl, ← List.append_assoc, firstOf_snoc]
  split
  ·rfl
  ·rename_i hne
   exact hx.resolve_left hne
 ·rename_i hq
  rw [ptTo, ptTo, rowP_no (by rw [hl]; omega)]
theorem ptTo_next (b : Big) (l : Int) (i : Nat) : ptTo b l i (at' b.nodes (i : Int)).links.length = ptTo b l (i + 1) 0 := by simp [ptTo, portsTo_succ, rowP_zero]
theorem ptTo_end (b : Big) (l : Int) : ptTo b l b.nodes.length 0 = portsB b l := by simp [ptTo, portsB, rowP_zero]
theorem ptTo_zero (b : Big) (l : Int) : ptTo b l 0 0 = [] := by simp [ptTo, portsTo, rowP_zero]
abbrev matchLinks_pre (redex agent : Big) (nodes : List Int) : Prop := (∃ sig, Pair sig redex agent) ∧ InNodes agent nodes redex.nodes.length ∧ ∀ k : Nat, k < redex.nodes.length → (at' agent.nodes (at' nodes (k : Int))).control = (at' redex.nodes (k : Int)).control
theorem img_in {redex agent : Big} {nodes : List Int} (h : matchLinks_pre redex agent nodes) {l : Int} {p : Int × Int} (hp : p ∈ portsB redex l) :
  (0 ≤ p.1 ∧ p.1 < nodes.length) ∧ (0 ≤ at' nodes p.1 ∧ at' nodes p.1 < agent.nodes.length) ∧ (0 ≤ p.2 ∧ p.2 < (at' agent.nodes (at' nodes p.1)).links.length) ∧ 0 ≤ imgAt agent nodes p := by
 obtain ⟨⟨sig, hP⟩, ⟨hlen, hin⟩, hctl⟩ := h
 obtain ⟨j, hj, h1, h2, h3, _⟩ := mem_portsTo.1 hp
 have hi := hin j (by omega)
 have e1 := hP.r.portsAt (i := j) ⟨by omega, by omega⟩
 have e2 := hP.a.portsAt hi
 rw [hctl j hj] at e2
 have h4 : p.2 < (at' agent.nodes (at' nodes p.1)).links.length := by rw [h1]; omega
 rw [← h1] at hi
 exact ⟨by omega, hi, ⟨h2, h4⟩, (hP.a.linksAt hi _ (at_mem ⟨h2, h4⟩)).1⟩
noncomputable abbrev matchLinks (redex agent : Big) (nodes : List Int) := linksR redex agent nodes
def matchLinks_wp (redex : Big) (agent : Big) (nodes : List Int) (Z : ((List Int) × Bool) → Prop) : Prop :=
 ∀ len5 : Int, len5 = (redex.outer.length : Int) → (I64 (redex.edges + len5)) ∧ ∀ v8 : Int, v8 = redex.edges + len5 → (repeatI_pre [(-1)] v8) ∧ ∀ r11 : List Int, r11 = repeatI [(-1)] v8 → ∀ len21 : Int, len21 = (redex.nodes.length : Int) → loopW (σ := Int × (List Int)) (fun (v30, l31) K35 => ∀ c36 : Bool, c36 = decide (v30 < len21) → ((c36 = true → (0 ≤ v30 ∧ v30 < redex.nodes.length) ∧ ∀ x39 : GNode, x39 = at' redex.nodes v30 → ∀ len44 : Int, len44 = (x39.links.length : Int) → loopW (σ := Int × (List Int)) (fun (v53, l54) K58 => ∀ c59 : Bool, c59 = decide (v53 < len44) → ((c59 = true → (0 ≤ v53 ∧ v53 < x39.links.length) ∧ ∀ x62 : Int, x62 = at' x39.links v53 → (0 ≤ v30 ∧ v30 < nodes.length) ∧ ∀ x65 : Int, x65 = at' nodes v30 → (0 ≤ x65 ∧ x65 < agent.nodes.length) ∧ ∀ x68 : GNode, x68 = at' agent.nodes x65 → (0 ≤ v53 ∧ v53 < x68.links.length) ∧ ∀ x71 : Int, x71 = at' x68.links v53 → joinW (fun (J75 : Bool → Prop) => (0 ≤ x62 ∧ x62 < l54.length) ∧ ∀ x106 : Int, x106 = at' l54 x62 → ∀ c109 : Bool, c109 = decide (0 ≤ x106) → ((c109 = true → (0 ≤ x62 ∧ x62 < l54.length) ∧ ∀ x112 : Int, x112 = at' l54 x62 → ∀ c116 : Bool, c116 = decide (x106 ≠ x71) → J75 (c116)) ∧ (c109 = false → J75 (false)))) (fun b78 => ((b78 = true → Z ([], false)) ∧ (b78 = false → (0 ≤ x62 ∧ x62 < l54.length) ∧ ∀ x89 : Int, x89 = at' l54 x62 → ∀ l92 : List Int, l92 = l54.set x62.toNat x71 → (I64 (v53 + 1)) ∧ ∀ v99 : Int, v99 = v53 + 1 → K58 (v99, l92))))) ∧ (c59 = false → (I64 (v30 + 1)) ∧ ∀ v119 : Int, v119 = v30 + 1 → K35 (v119, l54)))) (0, l31)) ∧ (c36 = false → loopW (σ := Int) (fun v124 K128 => ∀ c129 : Bool, c129 = decide (v124 < redex.edges) → ((c129 = true → (pointsOf_pre redex v124) ∧ ∀ r132 : (List (Int × Int)) × (List Str), r132 = pointsOf redex v124 → (0 ≤ v124 ∧ v124 < l31.length) ∧ ∀ x153 : Int, x153 = at' l31 v124 → (pointsOf_pre agent x153) ∧ ∀ r157 : (List (Int × Int)) × (List Str), r157 = pointsOf agent x153 → joinW (fun (J158 : Bool → Prop) => (0 ≤ v124 ∧ v124 < l31.length) ∧ ∀ x171 : Int, x171 = at' l31 v124 → ∀ c175 : Bool, c175 = decide (agent.edges ≤ x153) → ((c175 = true → J158 (true)) ∧ (c175 = false → ∀ len177 : Int, len177 = (r157.1.length : Int) → ∀ len179 : Int, len179 = (r132.1.length : Int) → ∀ c181 : Bool, c181 = decide (len177 ≠ len179) → J158 (c181)))) (fun b161 => ((b161 = true → Z ([], false)) ∧ (b161 = false → (I64 (v124 + 1)) ∧ ∀ v168 : Int, v168 = v124 + 1 → K128 (v168))))) ∧ (c129 = false → Z (l31, true)))) (0)))) (0, r11)
theorem matchLinks_vc (redex agent : Big) (nodes : List Int) (h : matchLinks_pre redex agent nodes) : matchLinks_wp redex agent nodes (fun y => y = matchLinks redex agent nodes) := by
 unfold matchLinks_wp
 have hpre := h
 obtain ⟨⟨sig, hP⟩, ⟨hlen, hin⟩, hctl⟩ := h
 have hE := hP.r.edges
 have hO := hP.r.outer
 have hr8 := hP.r.len
 have hLr := hP.r.linkSz
 have hLa := hP.a.linkSz
 simp only [forall_eq, decide_eq_true_eq, decide_eq_false_iff_not, pointsOf]
 have h0 : repeatI [(-1)] (redex.edges + redex.outer.length) = outTo redex agent nodes 0 0 := by
  simp only [repeatI, outTo, ptTo_zero, firstOf, List.headD_cons]
  refine List.ext_getElem (by simp) fun q h1 h2 => by simp
 rw [h0]
 refine ⟨by simp only [I64]; omega, ⟨rfl, by omega, by omega⟩, ?_⟩
 refine loopW.upL redex.nodes.length (fun i out => out = outTo redex agent nodes i 0 ∧ ∀ l, ∀ p ∈ ptTo redex l i 0, imgAt agent nodes p = firstOf agent nodes (ptTo redex l i 0)) _ ⟨rfl, fun l p hp => by rw [ptTo_zero] at hp; cases hp⟩ ?_
 rintro i out K hi ⟨rfl, hg⟩ IH
 dsimp only
 refine ⟨fun hc => ?_, fun hc => ?_⟩
 ·have hi1 : i < redex.nodes.length := by omega
  refine ⟨by omega, loopW.upL (at' redex.nodes (i : Int)).links.length (fun k out => out = outTo redex agent nodes i k ∧ ∀ l, ∀ p ∈ ptTo redex l i k, imgAt agent nodes p = firstOf agent nodes (ptTo redex l i k)) _ ⟨rfl, hg⟩ ?_⟩
  rintro k out K2 hk ⟨rfl, hg2⟩ IH2
  dsimp only
  have hll := hLr.2.1 i hi1
  refine ⟨fun hc2 => ?_, fun hc2 => ⟨by simp only [I64]; omega, IH hi1 _ ⟨?_, ?_⟩⟩⟩
  ·have hk1 : k < (at' redex.nodes (i : Int)).links.length := by omega
   obtain ⟨l0, hl0⟩ : ∃ l0, at' (at' redex.nodes (i : Int)).links (k : Int) = l0 := ⟨_, rfl⟩
   have hl := hP.r.linksAt (i := i) ⟨by omega, by omega⟩ _ (at_mem (l := (at' redex.nodes (i : Int)).links) (i := (k : Int)) ⟨by omega, by omega⟩)
   rw [hl0] at hl ⊢
   have hpf := ptTo_prefix (b := redex) l0 hi1 (k := k + 1) (by omega)
   have hsn : ptTo redex l0 i (k + 1) = ptTo redex l0 i k ++ [((i : Int), (k : Int))] := by rw [ptTo, rowP_yes hl0, ← List.append_assoc]; rfl
   have hmem : ((i : Int), (k : Int)) ∈ portsB redex l0 := hpf.subset (by rw [hsn]; simp)
   obtain ⟨q1, q2, q3, q4⟩ := img_in hpre hmem
   have hpk := ptTo_prefix (b := redex) l0 hi1 (k := k) (by omega)
   have hown : at' (at' agent.nodes (at' nodes (i : Int))).links (k : Int) = imgAt agent nodes ((i : Int), (k : Int)) := rfl
   rw [hown]
   have hol := outTo_len redex agent nodes i k
   refine ⟨by omega, q1, q2, q3, fun c => c = true ↔ (0 ≤ firstOf agent nodes (ptTo redex l0 i k) ∧ firstOf agent nodes (ptTo redex l0 i k) ≠ imgAt agent nodes ((i : Int), (k : Int))), ?_, fun c hJ => ⟨fun h1 => ?_, fun h1 => ⟨by omega, by simp only [I64]; omega, ?_⟩⟩⟩
   ·rw [outTo_at hl.1 hl.2]
    refine ⟨by omega, fun h1 => ⟨by omega, by simp only [decide_eq_true_eq]; exact ⟨fun h2 => ⟨h1, h2⟩, fun h2 => h2.2⟩⟩, fun h1 => iff_of_false (by simp) fun h2 => h1 h2.1⟩
   ·obtain ⟨h2, h3⟩ := hJ.1 h1
    refine (linksR_no fun hL => ?_).symm
    have hne : ptTo redex l0 i k ≠ [] := fun h => by rw [h] at h2; simp [firstOf] at h2
    rw [firstOf_prefix hpk hne] at h3
    exact h3 ((hL l0 hl.1 hl.2).1 _ hmem).symm
   ·have hx : ptTo redex l0 i k = [] ∨ imgAt agent nodes ((i : Int), (k : Int)) = firstOf agent nodes (ptTo redex l0 i k) := by
     by_cases hne : ptTo redex l0 i k = []
     ·exact .inl hne
     ·refine .inr (Classical.byContradiction fun h2 => ?_)
      have : 0 ≤ firstOf agent nodes (ptTo redex l0 i k) := by
       cases hq : ptTo redex l0 i k with
       | nil => exact absurd hq hne
       | cons a P => exact (img_in hpre (hpk.subset (by rw [hq]; simp) : a ∈ portsB redex l0)).2.2.2
      rw [hJ.2 ⟨this, fun h => h2 h.symm⟩] at h1
      cases h1
    rw [outTo_set hl.1 hl0 hx]
    refine IH2 hk1 _ ⟨rfl, fun l p hp => ?_⟩
    by_cases hll0 : l = l0
    ·subst hll0
     rw [hsn] at hp ⊢
     rw [firstOf_snoc]
     rcases List.mem_append.1 hp with hp | hp
     ·rw [if_neg (fun h => by rw [h] at hp; cases hp)]
      exact hg2 _ p hp
     ·simp only [List.mem_singleton] at hp
      subst hp
      split
      ·rfl
      ·rename_i hne
       exact hx.resolve_left hne
    ·have hno : ptTo redex l i (k + 1) = ptTo redex l i k := by rw [ptTo, rowP_no (by rw [hl0]; exact fun h => hll0 h.symm)]; rfl
     rw [hno] at hp ⊢
     exact hg2 l p hp
  ·rw [show k = (at' redex.nodes (i : Int)).links.length by omega]
   simp only [outTo, ptTo_next]
  ·rw [show k = (at' redex.nodes (i : Int)).links.length by omega] at hg2
   simp only [ptTo_next] at hg2
   exact hg2
 ·have hie : i = redex.nodes.length := by omega
  subst hie
  simp only [ptTo_end] at hg
  have hol := outTo_len redex agent nodes redex.nodes.length 0
  have hfl : ∀ l, 0 ≤ l → l < redex.edges + redex.outer.length → at' (outTo redex agent nodes redex.nodes.length 0) l = firstL redex agent nodes l := fun l h1 h2 => by rw [outTo_at h1 h2, ptTo_end]
  refine loopW.up1 redex.edges.toNat (fun q => ∀ l, 0 ≤ l → l < (q : Int) → firstL redex agent nodes l < agent.edges ∧ (portsB agent (firstL redex agent nodes l)).length = (portsB redex l).length) (fun l h1 h2 => by omega) ?_
  rintro q K3 hq hI IH3
  refine ⟨fun h1 => ?_, fun h1 => ?_⟩
  ·rw [hfl q (by omega) (by omega)]
   refine ⟨hLr, by omega, hLa, fun c => c = true ↔ ¬ (firstL redex agent nodes q < agent.edges ∧ (portsB agent (firstL redex agent nodes q)).length = (portsB redex q).length), ⟨by omega, fun h2 => iff_of_true rfl (by omega), fun h2 => by simp only [decide_eq_true_eq]; omega⟩, fun c hJ => ⟨fun h2 => (linksR_no fun hL => hJ.1 h2 ((hL q (by omega) (by omega)).2 h1)).symm, fun h2 => ⟨by simp only [I64]; omega, IH3 (by omega) fun l h3 h4 => ?_⟩⟩⟩
   rcases Int.lt_or_le l q with h5 | h5
   ·exact hI l h3 h5
   ·rw [show l = q by omega]
    exact Classical.not_not.1 fun h => by rw [hJ.2 h] at h2; cases h2
  ·have hL : LinksP redex agent nodes := fun l h2 h3 => ⟨fun p hp => hg l p hp, fun h4 => hI l h2 (by omega)⟩
   rw [matchLinks, linksR_yes hL]
   simp only [outTo, ptTo_end]
def isMatch1_wp (p : Int) (v_ : Big) (v_' : Match) (Z : Bool → Prop) : Prop :=
 joinW (fun (J2 : Bool → Prop) => (I64 (-v_.roots)) ∧ ∀ v9 : Int, v9 = -v_.roots → ∀ len11 : Int, len11 = (v_.nodes.length : Int) → (I64 (len11 - 1)) ∧ ∀ v14 : Int, v14 = len11 - 1 → ∀ r16 : Bool, r16 = within p v9 v14 → ((r16 = true → (isUnder_pre v_ p v_'.nodes) ∧ ∀ r18 : Bool, r18 = isUnder v_ p v_'.nodes → J2 (r18)) ∧ (r16 = false → J2 (true)))) (fun b5 => Z b5)
abbrev isMatch1 (p : Int) (agent : Big) (m : Match) : Bool := !(within p (-agent.roots) (agent.nodes.length - 1)) || underB agent m.nodes p
abbrev isMatch1_pre (p : Int) (agent : Big) (m : Match) : Prop := DownB agent ∧ m.nodes.length ≤ 1048576 ∧ I64 (-agent.roots)
theorem isMatch1_vc (p : Int) (agent : Big) (m : Match) (h : isMatch1_pre p agent m) : isMatch1_wp p agent m (fun y => y = isMatch1 p agent m) := by
 unfold isMatch1_wp
 obtain ⟨hd, hm, hr⟩ := h
 simp only [forall_eq]
 refine ⟨fun c => c = isMatch1 p agent m, ⟨hr, by have := hd.1; simp only [I64]; omega, fun h1 => ⟨?_, ?_⟩, fun h1 => ?_⟩, fun c h => h⟩
 ·simp only [within, Bool.and_eq_true, decide_eq_true_eq] at h1
  exact ⟨hd, by omega, hm⟩
 ·rw [isMatch1, h1]; rfl
 ·rw [isMatch1, h1]; rfl
noncomputable abbrev isMatch (redex agent : Big) (m : Match) : Bool := matchB redex agent m
abbrev isMatch_pre (redex agent : Big) (m : Match) : Prop := (∃ sig, Pair sig redex agent) ∧ MSz m
def isMatch_wp (redex : Big) (agent : Big) (m : Match) (Z : Bool → Prop) : Prop :=
 joinW (fun (J6 : Bool → Prop) => ∀ len48 : Int, len48 = (m.nodes.length : Int) → ∀ len50 : Int, len50 = (redex.nodes.length : Int) → ∀ c52 : Bool, c52 = decide (len48 ≠ len50) → ((c52 = true → J6 (true)) ∧ (c52 = false → ∀ len54 : Int, len54 = (m.roots.length : Int) → ∀ c56 : Bool, c56 = decide (len54 ≠ redex.roots) → J6 (c56)))) (fun b9 => ((b9 = true → Z false) ∧ (b9 = false → ∀ len12 : Int, len12 = (m.nodes.length : Int) → loopW (σ := Int) (fun v16 K19 => ∀ c20 : Bool, c20 = decide (v16 < len12) → ((c20 = true → (0 ≤ v16 ∧ v16 < m.nodes.length) ∧ ∀ x23 : Int, x23 = at' m.nodes v16 → joinW (fun (J25 : Bool → Prop) => (agent.nodes.length ≤ 1048576) ∧ ∀ r35 : Bool, r35 = isNodeB agent x23 → ((r35 = true → ((0 : Int) ≤ 0 ∧ (0 : Int) ≤ v16 ∧ v16 ≤ m.nodes.length) ∧ ∀ l37 : List Int, l37 = (m.nodes.take v16.toNat).drop 0 → (l37.length ≤ 1048576) ∧ ∀ r40 : Bool, r40 = hasI l37 x23 → J25 (r40)) ∧ (r35 = false → J25 (true)))) (fun b28 => ((b28 = true → Z false) ∧ (b28 = false → (I64 (v16 + 1)) ∧ ∀ v32 : Int, v32 = v16 + 1 → K19 (v32))))) ∧ (c20 = false → (m.roots.length ≤ 1048576 ∧ ∀ z ∈ m.roots, isMatch1_pre z agent m) ∧ ∀ r42 : Bool, r42 = m.roots.any (fun z => isMatch1 z agent m) → ((r42 = true → Z false) ∧ (r42 = false → (areImages_pre redex agent m) ∧ ∀ r44 : Bool, r44 = areImages redex agent m → ((r44 = true → (matchLinks_pre redex agent m.nodes) ∧ ∀ r46 : (List Int) × Bool, r46 = matchLinks redex agent m.nodes → Z r46.2) ∧ (r44 = false → Z false))))))) (0))))
theorem isMatch_vc (redex agent : Big) (m : Match) (h : isMatch_pre redex agent m) : isMatch_wp redex agent m (fun y => y = isMatch redex agent m) := by
 unfold isMatch_wp
 obtain ⟨⟨sig, hP⟩, hm1, hm2⟩ := h
 have ha8 := hP.a.len
 have har := hP.a.roots
 simp only [forall_eq, decide_eq_true_eq, decide_eq_false_iff_not, List.drop_zero]
 refine ⟨fun c => c = true ↔ ¬ (m.nodes.length = redex.nodes.length ∧ (m.roots.length : Int) = redex.roots), ⟨fun h1 => iff_of_true rfl (by omega), fun h1 => by simp only [decide_eq_true_eq]; omega⟩, fun c hJ => ⟨fun h1 => (matchB_no fun hM => hJ.1 h1 ⟨hM.1.1, hM.2.1.1⟩).symm, fun h1 => ?_⟩⟩
 have hlr := Classical.not_not.1 fun h => by rw [hJ.2 h] at h1; cases h1
 refine loopW.up1 m.nodes.length (fun k => ∀ i : Nat, i < k → isNodeB agent (at' m.nodes (i : Int)) = true ∧ at' m.nodes (i : Int) ∉ m.nodes.take i) (fun i hi => by omega) ?_
 rintro k K hk hI IH
 refine ⟨fun h2 => ⟨by omega, fun c => c = true ↔ ¬ (isNodeB agent (at' m.nodes (k : Int)) = true ∧ at' m.nodes (k : Int) ∉ m.nodes.take k), ⟨by omega, fun h3 => ⟨by omega, by simp; omega, ?_⟩, fun h3 => iff_of_true rfl (by rw [h3]; simp)⟩, fun c hJ2 => ⟨fun h3 => (matchB_no fun hM => hJ2.1 h3 (hM.1.2 k (by omega))).symm, fun h3 => ⟨by simp only [I64]; omega, IH (by omega) fun i hi => ?_⟩⟩⟩, fun h2 => ?_⟩
 ·rw [Int.toNat_natCast]
  dsimp only
  rw [hasI_iff]
  exact ⟨fun h4 h5 => h5.2 h4, fun h4 => Classical.not_not.1 fun h5 => h4 ⟨h3, h5⟩⟩
 ·rcases Nat.lt_or_ge i k with h5 | h5
  ·exact hI i h5
  ·rw [show i = k by omega]
   exact Classical.not_not.1 fun h => by rw [hJ2.2 h] at h3; cases h3
 ·have hN : NodesOk redex agent m.nodes := ⟨hlr.1, fun i hi => hI i (by omega)⟩
  have hnode : ∀ x, isNodeB agent x = true → 0 ≤ x ∧ x < agent.nodes.length := fun x hx => by
   simp only [isNodeB, within, Bool.and_eq_true, decide_eq_true_eq] at hx; omega
  have hin : InNodes agent m.nodes redex.nodes.length := ⟨hlr.1, fun i hi => hnode _ (hN.2 i hi).1⟩
  refine ⟨⟨hm2, fun z _ => ⟨hP.a.downB, hm1, by simp only [I64]; omega⟩⟩, fun h3 => (matchB_no fun hM => ?_).symm, fun h3 => ?_⟩
  ·obtain ⟨z, hz, hz2⟩ := List.any_eq_true.1 h3
   obtain ⟨q1, q2, q3⟩ := hM.2.1.2 z hz
   rw [isMatch1, q3, Bool.or_false, Bool.not_eq_true'] at hz2
   simp only [within, Bool.and_eq_false_iff, decide_eq_false_iff_not] at hz2
   omega
  ·have hR : RootsOk redex agent m := ⟨hlr.2, fun p hp => by
    have := List.any_eq_false.1 h3 p hp
    simp only [isMatch1, Bool.or_eq_true, Bool.not_eq_true', not_or, Bool.not_eq_false] at this
    obtain ⟨t1, t2⟩ := this
    simp only [within, Bool.and_eq_true, decide_eq_true_eq] at t1
    exact ⟨by omega, by omega, by simpa using t2⟩⟩
   refine ⟨⟨⟨sig, hP⟩, hin, hlr.2⟩, fun h4 => ?_, fun h4 => (matchB_no fun hM => ?_).symm⟩
   ·have hI2 := areImages_iff.1 h4
    refine ⟨⟨⟨sig, hP⟩, hin, fun k hk => (hI2 k hk).1⟩, ?_⟩
    by_cases hL : LinksP redex agent m.nodes
    ·rw [matchLinks, linksR_yes hL]
     exact (matchB_iff.2 ⟨hN, hR, hI2, hL⟩).symm
    ·rw [matchLinks, linksR_no hL]
     exact (matchB_no fun hM => hL hM.2.2.2).symm
   ·rw [areImages_iff.2 hM.2.2.1] at h4
    cases h4
theorem ValidB.redexPre {sig : Sig} {b : Big} (hV : ValidB sig b) : isRedex_pre b := by
 have h2 := hV.slen
 have h3 := hV.roots
 have h4 := hV.edges
 have h5 := hV.outer
 exact ⟨hV.linkSz, by omega, by omega, by omega, by omega, by omega, by omega⟩
noncomputable def matching (sig : Sig) (redex agent : Big) : Bool := goodB sig redex && redexB redex && agentB sig agent
abbrev isMatching_pre (sig : Sig) (redex agent : Big) : Prop := SmallB sig redex ∧ SmallB sig agent
noncomputable abbrev isMatching (sig : Sig) (redex agent : Big) : Bool := matching sig redex agent
def isMatching_wp (sig : List Control) (redex : Big) (agent : Big) (Z : Bool → Prop) : Prop :=
 joinW (fun (J5 : Bool → Prop) => (SmallB sig redex) ∧ ∀ r12 : Bool, r12 = goodB sig redex → ((r12 = true → (isRedex_pre redex) ∧ ∀ r14 : Bool, r14 = isRedex redex → ((r14 = true → (agentB_pre sig agent) ∧ ∀ r16 : Bool, r16 = agentB sig agent → J5 (r16)) ∧ (r14 = false → J5 (false)))) ∧ (r12 = false → J5 (false)))) (fun b8 => Z b8)
theorem isMatching_vc (sig : Sig) (redex agent : Big) (h : isMatching_pre sig redex agent) : isMatching_wp sig redex agent (fun y => y = isMatching sig redex agent) := by
 unfold isMatching_wp
 simp only [forall_eq]
 refine ⟨fun c => c = matching sig redex agent, ⟨h.1, fun h1 => ⟨?_, fun h2 => ⟨h.2, by rw [matching, h1, show redexB redex = true from h2]; rfl⟩, fun h2 => by rw [matching, h1, show redexB redex = false from h2]; rfl⟩, fun h1 => by rw [matching, h1]; rfl⟩, fun c h => h⟩
 have hV := goodB_valid h1
 have h2 := hV.slen
 have h3 := hV.roots
 have h4 := hV.edges
 have h5 := hV.outer
 exact ⟨hV.linkSz, by omega, by omega, by omega, by omega, by omega, by omega⟩
theorem matching_pair {sig : Sig} {redex agent : Big} (h : matching sig redex agent = true) : Pair sig redex agent := by
 simp only [matching, agentB, Bool.and_eq_true] at h
 exact ⟨goodB_valid h.1.1, goodB_valid h.2.1, redexB_iff.1 h.1.2⟩
end Go.Ab.Vg
/- Matches: pure conditions of the reference's functions. -/
namespace Go.Ab.Vg
set_option linter.unusedSimpArgs false
set_option linter.unusedVariables false
noncomputable abbrev l8Redex (sig : Sig) (b : Big) : Bool := goodB sig b && redexB b
abbrev l8Redex_pre (sig : Sig) (b : Big) : Prop := SmallB sig b
def l8Redex_wp (sig : List Control) (b : Big) (Z : Bool → Prop) : Prop :=
 joinW (fun (J4 : Bool → Prop) => (SmallB sig b) ∧ ∀ r11 : Bool, r11 = goodB sig b → ((r11 = true → (l8Solid_pre b) ∧ ∀ r13 : Bool, r13 = l8Solid b → J4 (r13)) ∧ (r11 = false → J4 (false)))) (fun b7 => Z b7)
theorem l8Redex_vc (sig : Sig) (b : Big) (h : l8Redex_pre sig b) : l8Redex_wp sig b (fun y => y = l8Redex sig b) := by
 unfold l8Redex_wp
 simp only [forall_eq]
 refine ⟨fun c => c = l8Redex sig b, ⟨h, fun h1 => ⟨(goodB_valid h1).redexPre, by rw [l8Redex, h1]; rfl⟩, fun h1 => by rw [l8Redex, h1]; rfl⟩, fun c h => h⟩
noncomputable abbrev l8Both (sig : Sig) (redex agent : Big) : Bool := matching sig redex agent
abbrev l8Both_pre (sig : Sig) (redex agent : Big) : Prop := SmallB sig redex ∧ SmallB sig agent
def l8Both_wp (sig : List Control) (redex : Big) (agent : Big) (Z : Bool → Prop) : Prop :=
 joinW (fun (J5 : Bool → Prop) => (l8Redex_pre sig redex) ∧ ∀ r12 : Bool, r12 = l8Redex sig redex → ((r12 = true → (l2Agent_pre sig agent) ∧ ∀ r14 : Bool, r14 = l2Agent sig agent → J5 (r14)) ∧ (r12 = false → J5 (false)))) (fun b8 => Z b8)
theorem l8Both_vc (sig : Sig) (redex agent : Big) (h : l8Both_pre sig redex agent) : l8Both_wp sig redex agent (fun y => y = l8Both sig redex agent) := by
 unfold l8Both_wp
 simp only [forall_eq]
 refine ⟨fun c => c = matching sig redex agent, ⟨h.1, fun h1 => ⟨h.2, ?_⟩, fun h1 => ?_⟩, fun c h => h⟩
 ·rw [matching, show (goodB sig redex && redexB redex) = true from h1]; rfl
 ·rw [matching, show (goodB sig redex && redexB redex) = false from h1]; rfl
def ImagesP (redex agent : Big) (nodes : List Int) : Prop := NodesOk redex agent nodes ∧ ∀ k : Nat, k < redex.nodes.length → (at' agent.nodes (at' nodes (k : Int))).control = (at' redex.nodes (k : Int)).control
open Classical in
noncomputable def l8Images (redex agent : Big) (nodes : List Int) : Bool := decide (ImagesP redex agent nodes)
abbrev l8Images_pre (redex agent : Big) (nodes : List Int) : Prop := nodes.length ≤ 1048576 ∧ agent.nodes.length ≤ 1048576
def l8Images_wp (redex : Big) (agent : Big) (nodes : List Int) (Z : Bool → Prop) : Prop :=
 ∀ len5 : Int, len5 = (nodes.length : Int) → ∀ len7 : Int, len7 = (redex.nodes.length : Int) → ∀ c9 : Bool, c9 = decide (len5 ≠ len7) → ((c9 = true → Z false) ∧ (c9 = false → loopW (σ := Int) (fun i13 K16 => ∀ len17 : Int, len17 = (nodes.length : Int) → ∀ c19 : Bool, c19 = decide (i13 < len17) → ((c19 = true → joinW (fun (J21 : Bool → Prop) => (0 ≤ i13 ∧ i13 < nodes.length) ∧ ∀ x31 : Int, x31 = at' nodes i13 → (agent.nodes.length ≤ 1048576) ∧ ∀ r34 : Bool, r34 = isNodeB agent x31 → ((r34 = true → ((0 : Int) ≤ 0 ∧ (0 : Int) ≤ i13 ∧ i13 ≤ nodes.length) ∧ ∀ l36 : List Int, l36 = (nodes.take i13.toNat).drop 0 → (0 ≤ i13 ∧ i13 < nodes.length) ∧ ∀ x39 : Int, x39 = at' nodes i13 → (l36.length ≤ 1048576) ∧ ∀ r43 : Bool, r43 = hasI l36 x31 → ((r43 = true → J21 (true)) ∧ (r43 = false → (0 ≤ i13 ∧ i13 < nodes.length) ∧ ∀ x45 : Int, x45 = at' nodes i13 → (0 ≤ x31 ∧ x31 < agent.nodes.length) ∧ ∀ x49 : GNode, x49 = at' agent.nodes x31 → (0 ≤ i13 ∧ i13 < redex.nodes.length) ∧ ∀ x52 : GNode, x52 = at' redex.nodes i13 → ∀ c54 : Bool, c54 = decide (x49.control ≠ x52.control) → J21 (c54)))) ∧ (r34 = false → J21 (true)))) (fun b24 => ((b24 = true → Z false) ∧ (b24 = false → (I64 (i13 + 1)) ∧ ∀ v28 : Int, v28 = i13 + 1 → K16 (v28))))) ∧ (c19 = false → Z true))) (0)))
theorem l8Images_vc (redex agent : Big) (nodes : List Int) (h : l8Images_pre redex agent nodes) : l8Images_wp redex agent nodes (fun y => y = l8Images redex agent nodes) := by
 unfold l8Images_wp
 obtain ⟨h1, h2⟩ := h
 have no : ¬ ImagesP redex agent nodes → false = l8Images redex agent nodes := fun h => by simp [l8Images, h]
 simp only [forall_eq, decide_eq_true_eq, decide_eq_false_iff_not, List.drop_zero]
 refine ⟨fun h3 => no fun hI => h3 (by have := hI.1.1; omega), fun h3 => ?_⟩
 have hnode : ∀ x, isNodeB agent x = true → 0 ≤ x ∧ x < agent.nodes.length := fun x hx => by
  simp only [isNodeB, within, Bool.and_eq_true, decide_eq_true_eq] at hx; omega
 refine loopW.up1 nodes.length (fun k => ∀ i : Nat, i < k → (isNodeB agent (at' nodes (i : Int)) = true ∧ at' nodes (i : Int) ∉ nodes.take i) ∧ (at' agent.nodes (at' nodes (i : Int))).control = (at' redex.nodes (i : Int)).control) (fun i hi => by omega) ?_
 rintro k K hk hI IH
 refine ⟨fun h4 => ⟨fun c => c = true ↔ ¬ ((isNodeB agent (at' nodes (k : Int)) = true ∧ at' nodes (k : Int) ∉ nodes.take k) ∧ (at' agent.nodes (at' nodes (k : Int))).control = (at' redex.nodes (k : Int)).control), ⟨by omega, h2, fun h5 => ⟨by omega, by omega, by simp; omega, fun h6 => ?_, fun h6 => ⟨by omega, hnode _ h5, by omega, ?_⟩⟩, fun h5 => iff_of_true rfl (by rw [h5]; simp)⟩, fun c hJ => ⟨fun h5 => no fun hP => hJ.1 h5 ⟨hP.1.2 k (by omega), hP.2 k (by omega)⟩, fun h5 => ⟨by simp only [I64]; omega, IH (by omega) fun i hi => ?_⟩⟩⟩, fun h4 => ?_⟩
 ·rw [Int.toNat_natCast] at h6
  exact iff_of_true rfl fun h7 => h7.1.2 (hasI_iff.1 h6)
 ·rw [Int.toNat_natCast] at h6
  simp only [decide_eq_true_eq]
  exact ⟨fun h7 h8 => h7 h8.2, fun h7 h8 => h7 ⟨⟨h5, hasI_no.1 h6⟩, h8⟩⟩
 ·rcases Nat.lt_or_ge i k with h6 | h6
  ·exact hI i h6
  ·rw [show i = k by omega]
   exact Classical.not_not.1 fun h => by rw [hJ.2 h] at h5; cases h5
 ·have hP : ImagesP redex agent nodes := ⟨⟨by omega, fun i hi => (hI i (by omega)).1⟩, fun i hi => (hI i (by omega)).2⟩
  simp [l8Images, hP]
def ParentsP (redex agent : Big) (m : Match) : Prop := ∀ k : Nat, k < redex.nodes.length → (at' agent.nodes (at' m.nodes (k : Int))).parent = parentImg redex m (k : Int)
open Classical in
noncomputable def l8Parents (redex agent : Big) (m : Match) : Bool := decide (ParentsP redex agent m)
abbrev l8Parents_pre (redex agent : Big) (m : Match) : Prop := (∃ sig, Pair sig redex agent) ∧ InNodes agent m.nodes redex.nodes.length ∧ (m.roots.length : Int) = redex.roots
def l8Parents_wp (redex : Big) (agent : Big) (m : Match) (Z : Bool → Prop) : Prop :=
 loopW (σ := Int) (fun i8 K11 => ∀ len12 : Int, len12 = (m.nodes.length : Int) → ∀ c14 : Bool, c14 = decide (i8 < len12) → ((c14 = true → (0 ≤ i8 ∧ i8 < redex.nodes.length) ∧ ∀ x17 : GNode, x17 = at' redex.nodes i8 → ∀ c19 : Bool, c19 = decide (0 ≤ x17.parent) → ((c19 = true → (0 ≤ x17.parent ∧ x17.parent < m.nodes.length) ∧ ∀ x23 : Int, x23 = at' m.nodes x17.parent → (0 ≤ i8 ∧ i8 < m.nodes.length) ∧ ∀ x26 : Int, x26 = at' m.nodes i8 → (0 ≤ x26 ∧ x26 < agent.nodes.length) ∧ ∀ x29 : GNode, x29 = at' agent.nodes x26 → ∀ c31 : Bool, c31 = decide (x29.parent ≠ x23) → ((c31 = true → Z false) ∧ (c31 = false → (I64 (i8 + 1)) ∧ ∀ v35 : Int, v35 = i8 + 1 → K11 (v35)))) ∧ (c19 = false → (I64 ((-1) - x17.parent)) ∧ ∀ v38 : Int, v38 = (-1) - x17.parent → (0 ≤ v38 ∧ v38 < m.roots.length) ∧ ∀ x41 : Int, x41 = at' m.roots v38 → (0 ≤ i8 ∧ i8 < m.nodes.length) ∧ ∀ x44 : Int, x44 = at' m.nodes i8 → (0 ≤ x44 ∧ x44 < agent.nodes.length) ∧ ∀ x47 : GNode, x47 = at' agent.nodes x44 → ∀ c49 : Bool, c49 = decide (x47.parent ≠ x41) → ((c49 = true → Z false) ∧ (c49 = false → (I64 (i8 + 1)) ∧ ∀ v53 : Int, v53 = i8 + 1 → K11 (v53)))))) ∧ (c14 = false → Z true))) (0)
theorem l8Parents_vc (redex agent : Big) (m : Match) (h : l8Parents_pre redex agent m) : l8Parents_wp redex agent m (fun y => y = l8Parents redex agent m) := by
 unfold l8Parents_wp
 obtain ⟨⟨sig, hP⟩, ⟨hlen, hin⟩, hroots⟩ := h
 have no : ¬ ParentsP redex agent m → false = l8Parents redex agent m := fun h => by simp [l8Parents, h]
 have hr8 := hP.r.len
 have hrr := hP.r.roots
 simp only [forall_eq, decide_eq_true_eq, decide_eq_false_iff_not]
 refine loopW.up1 m.nodes.length (fun k => ∀ j : Nat, j < k → (at' agent.nodes (at' m.nodes (j : Int))).parent = parentImg redex m (j : Int)) (fun j hj => by omega) ?_
 rintro k K hk hI IH
 refine ⟨fun hc => ?_, fun hc => ?_⟩
 ·have hk1 : k < redex.nodes.length := by omega
  have hpar := hP.r.parAt (i := k) ⟨by omega, by omega⟩
  have him := hin k (by omega)
  have hnext : (at' agent.nodes (at' m.nodes (k : Int))).parent = parentImg redex m (k : Int) → ∀ j : Nat, j < k + 1 → (at' agent.nodes (at' m.nodes (j : Int))).parent = parentImg redex m (j : Int) := fun h j hj => by
   rcases Nat.lt_or_ge j k with h1 | h1
   ·exact hI j h1
   ·rw [show j = k by omega]; exact h
  refine ⟨by omega, fun h1 => ?_, fun h1 => ?_⟩
  ·have hx : at' m.nodes (at' redex.nodes (k : Int)).parent = parentImg redex m k := by rw [parentImg, if_pos h1]
   rw [hx]
   exact ⟨by omega, by omega, him, fun h2 => no fun hA => h2 (hA k hk1), fun h2 => ⟨by simp only [I64]; omega, IH (by omega) (hnext (Classical.not_not.1 h2))⟩⟩
  ·have hx : at' m.roots (-1 - (at' redex.nodes (k : Int)).parent) = parentImg redex m k := by rw [parentImg, if_neg h1]
   rw [hx]
   exact ⟨by simp only [I64]; omega, by omega, by omega, him, fun h2 => no fun hA => h2 (hA k hk1), fun h2 => ⟨by simp only [I64]; omega, IH (by omega) (hnext (Classical.not_not.1 h2))⟩⟩
 ·have hA : ParentsP redex agent m := fun j hj => hI j (by omega)
  simp [l8Parents, hA]
def KidsP (redex agent : Big) (m : Match) : Prop := ∀ k : Nat, k < redex.nodes.length → (holesB redex (k : Int)).length = 0 → ∀ c ∈ kidsB agent (at' m.nodes (k : Int)), c ∈ m.nodes
open Classical in
noncomputable def l8Kids (redex agent : Big) (m : Match) : Bool := decide (KidsP redex agent m)
abbrev l8Kids_pre (redex agent : Big) (m : Match) : Prop := l8Parents_pre redex agent m
def l8Kids_wp (redex : Big) (agent : Big) (m : Match) (Z : Bool → Prop) : Prop :=
 loopW (σ := Int) (fun i8 K11 => ∀ len12 : Int, len12 = (m.nodes.length : Int) → ∀ c14 : Bool, c14 = decide (i8 < len12) → ((c14 = true → (0 ≤ i8 ∧ i8 < m.nodes.length) ∧ ∀ x17 : Int, x17 = at' m.nodes i8 → (l2Kids_pre agent x17) ∧ ∀ r20 : List Int, r20 = l2Kids agent x17 → loopW (σ := Int) (fun k23 K26 => joinW (fun (J27 : Bool → Prop) => ∀ len44 : Int, len44 = (r20.length : Int) → ∀ c46 : Bool, c46 = decide (k23 < len44) → ((c46 = true → (l2Holes_pre redex i8) ∧ ∀ r49 : List Int, r49 = l2Holes redex i8 → ∀ len50 : Int, len50 = (r49.length : Int) → ∀ c52 : Bool, c52 = decide (len50 = 0) → J27 (c52)) ∧ (c46 = false → J27 (false)))) (fun b30 => ((b30 = true → (0 ≤ k23 ∧ k23 < r20.length) ∧ ∀ x34 : Int, x34 = at' r20 k23 → (m.nodes.length ≤ 1048576) ∧ ∀ r37 : Bool, r37 = hasI m.nodes x34 → ((r37 = true → (I64 (k23 + 1)) ∧ ∀ v39 : Int, v39 = k23 + 1 → K26 (v39)) ∧ (r37 = false → Z false))) ∧ (b30 = false → (I64 (i8 + 1)) ∧ ∀ v42 : Int, v42 = i8 + 1 → K11 (v42))))) (0)) ∧ (c14 = false → Z true))) (0)
theorem l8Kids_vc (redex agent : Big) (m : Match) (h : l8Kids_pre redex agent m) : l8Kids_wp redex agent m (fun y => y = l8Kids redex agent m) := by
 unfold l8Kids_wp
 obtain ⟨⟨sig, hP⟩, ⟨hlen, hin⟩, hroots⟩ := h
 have no : ¬ KidsP redex agent m → false = l8Kids redex agent m := fun h => by simp [l8Kids, h]
 have hr8 := hP.r.len
 have ha8 := hP.a.len
 have hs4 := hP.r.slen
 simp only [forall_eq, decide_eq_true_eq, decide_eq_false_iff_not, l2Kids, l2Holes]
 refine loopW.up1 m.nodes.length (fun k => ∀ j : Nat, j < k → (holesB redex (j : Int)).length = 0 → ∀ c ∈ kidsB agent (at' m.nodes (j : Int)), c ∈ m.nodes) (fun j hj => by omega) ?_
 rintro k K hk hI IH
 refine ⟨fun hc => ?_, fun hc => ?_⟩
 ·have him := hin k (by omega)
  have hkl : (kidsB agent (at' m.nodes (k : Int))).length ≤ agent.nodes.length := idxs_len _ _ _
  refine ⟨by omega, by simp only [l2Kids_pre]; omega, ?_⟩
  refine loopW.up1 (kidsB agent (at' m.nodes (k : Int))).length (fun q => ∀ j : Nat, j < q → at' (kidsB agent (at' m.nodes (k : Int))) (j : Int) ∈ m.nodes) (fun j hj => by omega) ?_
  rintro q K2 hq hI2 IH2
  refine ⟨fun c => c = true ↔ (q < (kidsB agent (at' m.nodes (k : Int))).length ∧ (holesB redex (k : Int)).length = 0), ⟨fun h1 => ⟨by simp only [l2Holes_pre]; omega, by simp only [decide_eq_true_eq]; omega⟩, fun h1 => iff_of_false (by simp) (by omega)⟩, fun c hJ => ⟨fun h1 => ?_, fun h1 => ⟨by simp only [I64]; omega, IH (by omega) fun j hj h0 c hcm => ?_⟩⟩⟩
  ·have h2 := hJ.1 h1
   refine ⟨by omega, by omega, fun h3 => ⟨by simp only [I64]; omega, IH2 h2.1 fun j hj => ?_⟩, fun h3 => no fun hA => ?_⟩
   ·rcases Nat.lt_or_ge j q with h4 | h4
    ·exact hI2 j h4
    ·rw [show j = q by omega]; exact hasI_iff.1 h3
   ·exact hasI_no.1 h3 (hA k (by omega) h2.2 _ (at_mem ⟨by omega, by omega⟩))
  ·rcases Nat.lt_or_ge j k with h2 | h2
   ·exact hI j h2 h0 c hcm
   ·rw [show j = k by omega] at h0 hcm
    obtain ⟨z, hz, rfl⟩ := List.getElem_of_mem hcm
    have hql : ¬ q < (kidsB agent (at' m.nodes (k : Int))).length := fun h => by rw [hJ.2 ⟨h, h0⟩] at h1; cases h1
    have := hI2 z (by omega)
    rwa [at_lt hz] at this
 ·have hA : KidsP redex agent m := fun j hj => hI j (by omega)
  simp [l8Kids, hA]
abbrev l2Place (b : Big) (p : Int) : Bool := within p (-b.roots) (b.nodes.length - 1)
abbrev l2Place_pre (b : Big) (_ : Int) : Prop := b.nodes.length ≤ 1048576 ∧ I64 (-b.roots)
def l2Place_wp (b : Big) (x : Int) (Z : Bool → Prop) : Prop :=
 (I64 (-b.roots)) ∧ ∀ v5 : Int, v5 = -b.roots → ∀ len7 : Int, len7 = (b.nodes.length : Int) → (I64 (len7 - 1)) ∧ ∀ v10 : Int, v10 = len7 - 1 → ∀ r12 : Bool, r12 = within x v5 v10 → Z r12
theorem l2Place_vc (b : Big) (p : Int) (h : l2Place_pre b p) : l2Place_wp b p (fun y => y = l2Place b p) := by
 unfold l2Place_wp
 simp only [forall_eq]
 exact ⟨h.2, by have := h.1; simp only [I64]; omega, by trivial⟩
open Classical in
noncomputable def l8Places (redex agent : Big) (m : Match) : Bool := decide (RootsOk redex agent m)
abbrev l8Places_pre (redex agent : Big) (m : Match) : Prop := DownB agent ∧ MSz m ∧ I64 (-agent.roots)
def l8Places_wp (redex : Big) (agent : Big) (m : Match) (Z : Bool → Prop) : Prop :=
 loopW (σ := Int) (fun r8 K11 => ∀ len12 : Int, len12 = (m.roots.length : Int) → ∀ c14 : Bool, c14 = decide (r8 < len12) → ((c14 = true → joinW (fun (J16 : Bool → Prop) => (0 ≤ r8 ∧ r8 < m.roots.length) ∧ ∀ x26 : Int, x26 = at' m.roots r8 → (l2Place_pre agent x26) ∧ ∀ r29 : Bool, r29 = l2Place agent x26 → ((r29 = true → (0 ≤ r8 ∧ r8 < m.roots.length) ∧ ∀ x31 : Int, x31 = at' m.roots r8 → (l8Inside_pre agent m x26) ∧ ∀ r35 : Bool, r35 = l8Inside agent m x26 → J16 (r35)) ∧ (r29 = false → J16 (true)))) (fun b19 => ((b19 = true → Z false) ∧ (b19 = false → (I64 (r8 + 1)) ∧ ∀ v23 : Int, v23 = r8 + 1 → K11 (v23))))) ∧ (c14 = false → ∀ len36 : Int, len36 = (m.roots.length : Int) → ∀ c38 : Bool, c38 = decide (len36 = redex.roots) → Z c38))) (0)
theorem l8Places_vc (redex agent : Big) (m : Match) (h : l8Places_pre redex agent m) : l8Places_wp redex agent m (fun y => y = l8Places redex agent m) := by
 unfold l8Places_wp
 obtain ⟨hd, hm, hr⟩ := h
 have hd1 := hd.1
 have no : ¬ RootsOk redex agent m → false = l8Places redex agent m := fun h => by simp [l8Places, h]
 simp only [forall_eq, decide_eq_true_eq, decide_eq_false_iff_not]
 refine loopW.up1 m.roots.length (fun k => ∀ i : Nat, i < k → -agent.roots ≤ at' m.roots (i : Int) ∧ at' m.roots (i : Int) < agent.nodes.length ∧ underB agent m.nodes (at' m.roots (i : Int)) = false) (fun i hi => by omega) ?_
 rintro k K hk hI IH
 refine ⟨fun h1 => ⟨fun c => c = true ↔ ¬ (-agent.roots ≤ at' m.roots (k : Int) ∧ at' m.roots (k : Int) < agent.nodes.length ∧ underB agent m.nodes (at' m.roots (k : Int)) = false), ⟨by omega, ⟨hd1, hr⟩, fun h2 => ?_, fun h2 => iff_of_true rfl fun h3 => ?_⟩, fun c hJ => ⟨fun h2 => no fun hR => hJ.1 h2 (hR.2 _ (at_mem ⟨by omega, by omega⟩)), fun h2 => ⟨by simp only [I64]; omega, IH (by omega) fun i hi => ?_⟩⟩⟩, fun h1 => ?_⟩
 ·simp only [l2Place, within, Bool.and_eq_true, decide_eq_true_eq] at h2
  refine ⟨by omega, ⟨hd, by omega, hm.1⟩, ?_⟩
  cases hu : underB agent m.nodes (at' m.roots (k : Int)) with
  | false => exact iff_of_false (by rw [l8Inside, hu]; simp) fun h => h ⟨by omega, by omega, rfl⟩
  | true => exact iff_of_true (by rw [l8Inside, hu]) fun h => by cases h.2.2
 ·simp only [l2Place, within, Bool.and_eq_false_iff, decide_eq_false_iff_not] at h2
  omega
 ·rcases Nat.lt_or_ge i k with h5 | h5
  ·exact hI i h5
  ·rw [show i = k by omega]
   exact Classical.not_not.1 fun h => by rw [hJ.2 h] at h2; cases h2
 ·have hA : ∀ p ∈ m.roots, -agent.roots ≤ p ∧ p < agent.nodes.length ∧ underB agent m.nodes p = false := fun p hp => by
   obtain ⟨z, hz, rfl⟩ := List.getElem_of_mem hp
   have := hI z (by omega)
   rwa [at_lt hz] at this
  by_cases hl : (m.roots.length : Int) = redex.roots
  ·have hR : RootsOk redex agent m := ⟨hl, hA⟩
   simp [l8Places, hR, hl]
  ·have hR : ¬ RootsOk redex agent m := fun h => hl h.1
   simp [l8Places, hR, hl]
open Classical in
noncomputable def l8Image (redex agent : Big) (m : Match) (l : Int) : Int × Bool := (firstL redex agent m.nodes l, decide (LinkOk redex agent m.nodes l))
abbrev l8Image_pre (redex agent : Big) (m : Match) (l : Int) : Prop := matchLinks_pre redex agent m.nodes ∧ 0 ≤ l ∧ l < redex.edges + redex.outer.length
def l8Image_wp (redex : Big) (agent : Big) (m : Match) (link : Int) (Z : (Int × Bool) → Prop) : Prop :=
 (l2Ports_pre redex link) ∧ ∀ r7 : List (Int × Int), r7 = l2Ports redex link → ((0 : Int) ≤ 0 ∧ (0 : Int) < r7.length) ∧ ∀ x9 : Int × Int, x9 = at' r7 0 → (0 ≤ x9.1 ∧ x9.1 < m.nodes.length) ∧ ∀ x13 : Int, x13 = at' m.nodes x9.1 → (0 ≤ x13 ∧ x13 < agent.nodes.length) ∧ ∀ x16 : GNode, x16 = at' agent.nodes x13 → ((0 : Int) ≤ 0 ∧ (0 : Int) < r7.length) ∧ ∀ x19 : Int × Int, x19 = at' r7 0 → (0 ≤ x9.2 ∧ x9.2 < x16.links.length) ∧ ∀ x24 : Int, x24 = at' x16.links x9.2 → loopW (σ := Int) (fun i29 K32 => ∀ len33 : Int, len33 = (r7.length : Int) → ∀ c35 : Bool, c35 = decide (i29 < len33) → ((c35 = true → (0 ≤ i29 ∧ i29 < r7.length) ∧ ∀ x38 : Int × Int, x38 = at' r7 i29 → (0 ≤ x38.1 ∧ x38.1 < m.nodes.length) ∧ ∀ x42 : Int, x42 = at' m.nodes x38.1 → (0 ≤ x42 ∧ x42 < agent.nodes.length) ∧ ∀ x45 : GNode, x45 = at' agent.nodes x42 → (0 ≤ i29 ∧ i29 < r7.length) ∧ ∀ x48 : Int × Int, x48 = at' r7 i29 → (0 ≤ x38.2 ∧ x38.2 < x45.links.length) ∧ ∀ x53 : Int, x53 = at' x45.links x38.2 → ∀ c55 : Bool, c55 = decide (x53 ≠ x24) → ((c55 = true → Z (x24, false)) ∧ (c55 = false → (I64 (i29 + 1)) ∧ ∀ v59 : Int, v59 = i29 + 1 → K32 (v59)))) ∧ (c35 = false → ∀ c61 : Bool, c61 = decide (link < redex.edges) → ((c61 = true → joinW (fun (J63 : Bool → Prop) => ∀ c69 : Bool, c69 = decide (x24 < agent.edges) → ((c69 = true → (l2Ports_pre agent x24) ∧ ∀ r72 : List (Int × Int), r72 = l2Ports agent x24 → ∀ len73 : Int, len73 = (r72.length : Int) → ∀ len75 : Int, len75 = (r7.length : Int) → ∀ c77 : Bool, c77 = decide (len73 = len75) → J63 (c77)) ∧ (c69 = false → J63 (false)))) (fun b66 => Z (x24, b66))) ∧ (c61 = false → Z (x24, true)))))) (1)
theorem RedexP.port {b : Big} (h : RedexP b) {l : Int} (h0 : 0 ≤ l) (h1 : l < b.edges + b.outer.length) : 0 < (portsB b l).length := by
 have h2 := h.2.2.2 l h0 h1
 have h3 : b.inner = [] := List.eq_nil_of_length_eq_zero h.1
 simp only [isIdle, l2Idle, endsB, h3, List.filter_nil, List.map_nil, List.length_nil, decide_true, Bool.and_true, decide_eq_false_iff_not] at h2
 omega
theorem firstOf_at {agent : Big} {nodes : List Int} {P : List (Int × Int)} (h : 0 < P.length) : firstOf agent nodes P = imgAt agent nodes (at' P 0) := by
 cases P with
 | nil => simp at h
 | cons a P => rfl
theorem l8Image_vc (redex agent : Big) (m : Match) (l : Int) (h : l8Image_pre redex agent m l) : l8Image_wp redex agent m l (fun y => y = l8Image redex agent m l) := by
 unfold l8Image_wp
 obtain ⟨hpre, hl0, hl1⟩ := h
 have hpre2 := hpre
 obtain ⟨⟨sig, hP⟩, _⟩ := hpre2
 have hne := hP.red.port hl0 hl1
 have hLr := hP.r.linkSz
 have hLa := hP.a.linkSz
 have hin : ∀ k : Nat, k < (portsB redex l).length → _ := fun k hk => img_in hpre (l := l) (p := at' (portsB redex l) (k : Int)) (at_mem ⟨by omega, by omega⟩)
 have h0 := hin 0 hne
 have hf : imgAt agent m.nodes (at' (portsB redex l) 0) = firstL redex agent m.nodes l := (firstOf_at hne).symm
 have hpl : (portsB redex l).length ≤ 1024 * 1024 := Nat.le_trans (portsTo_len hLr.2.1 l _ (Nat.le_refl _)) (by have := hLr.1; omega)
 simp only [forall_eq, decide_eq_true_eq, decide_eq_false_iff_not, l2Ports]
 have hun : ∀ p : Int × Int, at' (at' agent.nodes (at' m.nodes p.1)).links p.2 = imgAt agent m.nodes p := fun p => rfl
 simp only [hun, hf]
 refine ⟨hLr, ⟨by omega, by omega⟩, h0.1, h0.2.1, ⟨by omega, by omega⟩, h0.2.2.1, ?_⟩
 have res : ∀ b : Bool, (b = true ↔ LinkOk redex agent m.nodes l) → (firstL redex agent m.nodes l, b) = l8Image redex agent m l := fun b hb => by
  rw [l8Image]
  congr 1
  rw [Bool.eq_iff_iff, hb]
  simp
 refine loopW.byM (fun i => ∃ k : Nat, i = k ∧ k ≤ (portsB redex l).length ∧ ∀ j : Nat, j < k → imgAt agent m.nodes (at' (portsB redex l) (j : Int)) = firstL redex agent m.nodes l) (fun i => ((portsB redex l).length - i).toNat) ⟨1, rfl, by omega, fun j hj => by rw [show j = 0 by omega]; exact hf⟩ ?_
 rintro _ ⟨k, rfl, hk, hI⟩
 refine ⟨fun h1 => ?_, fun h1 => ?_⟩
 ·have hk1 := hin k (by omega)
  refine ⟨by omega, hk1.1, hk1.2.1, by omega, hk1.2.2.1, fun h2 => res _ (iff_of_false (by simp) fun hL => h2 (hL.1 _ (at_mem ⟨by omega, by omega⟩))), fun h2 => ⟨by simp only [I64]; omega, ⟨k + 1, by omega, by omega, fun j hj => ?_⟩, by omega⟩⟩
  rcases Nat.lt_or_ge j k with h3 | h3
  ·exact hI j h3
  ·rw [show j = k by omega]; exact Classical.not_not.1 h2
 ·have hall : ∀ p ∈ portsB redex l, imgAt agent m.nodes p = firstL redex agent m.nodes l := fun p hp => by
   obtain ⟨z, hz, rfl⟩ := List.getElem_of_mem hp
   have := hI z (by omega)
   rwa [at_lt hz] at this
  refine ⟨fun h2 => ⟨fun c => c = true ↔ LinkOk redex agent m.nodes l, ⟨fun h3 => ⟨hLa, ?_⟩, fun h3 => iff_of_false (by simp) fun hL => h3 (hL.2 h2).1⟩, fun c hc => res c hc⟩, fun h2 => res true (iff_of_true rfl ⟨hall, fun h => absurd h h2⟩)⟩
  simp only [decide_eq_true_eq]
  exact ⟨fun h4 => ⟨hall, fun _ => ⟨h3, by omega⟩⟩, fun hL => by have := (hL.2 h2).2; omega⟩
noncomputable abbrev l8Links (redex agent : Big) (m : Match) := linksR redex agent m.nodes
abbrev l8Links_pre (redex agent : Big) (m : Match) : Prop := matchLinks_pre redex agent m.nodes
def l8Links_wp (redex : Big) (agent : Big) (m : Match) (Z : ((List Int) × Bool) → Prop) : Prop :=
 loopW (σ := Int × (List Int)) (fun (link16, l17) K21 => ∀ len22 : Int, len22 = (redex.outer.length : Int) → (I64 (redex.edges + len22)) ∧ ∀ v25 : Int, v25 = redex.edges + len22 → ∀ c27 : Bool, c27 = decide (link16 < v25) → ((c27 = true → (l8Image_pre redex agent m link16) ∧ ∀ r30 : Int × Bool, r30 = l8Image redex agent m link16 → ((r30.2 = true → (l17.length + 1 ≤ 1073741824) ∧ ∀ l38 : List Int, l38 = l17 ++ [r30.1] → (I64 (link16 + 1)) ∧ ∀ v48 : Int, v48 = link16 + 1 → K21 (v48, l38)) ∧ (r30.2 = false → Z (([] : List Int), false)))) ∧ (c27 = false → Z (l17, true)))) (0, ([] : List Int))
theorem l8Links_vc (redex agent : Big) (m : Match) (h : l8Links_pre redex agent m) : l8Links_wp redex agent m (fun y => y = l8Links redex agent m) := by
 unfold l8Links_wp
 have hpre := h
 obtain ⟨⟨sig, hP⟩, _⟩ := h
 have hE := hP.r.edges
 have hO := hP.r.outer
 simp only [forall_eq, decide_eq_true_eq, decide_eq_false_iff_not]
 refine loopW.upL (redex.edges + redex.outer.length).toNat (fun k out => out = (List.range k).map (fun l : Nat => firstL redex agent m.nodes (l : Int)) ∧ ∀ l : Nat, l < k → LinkOk redex agent m.nodes (l : Int)) [] ⟨rfl, fun l hl => by omega⟩ ?_
 rintro k out K hk ⟨rfl, hI⟩ IH
 dsimp only
 refine ⟨by simp only [I64]; omega, fun h1 => ⟨⟨hpre, by omega, h1⟩, fun h2 => ⟨by simp; omega, by simp only [I64]; omega, IH (by omega) _ ⟨?_, fun l hl => ?_⟩⟩, fun h2 => ?_⟩, fun h1 => ?_⟩
 ·simp [List.range_succ, l8Image]
 ·rcases Nat.lt_or_ge l k with h3 | h3
  ·exact hI l h3
  ·rw [show l = k by omega]
   simpa [l8Image] using h2
 ·rw [l8Links, linksR_no fun hL => ?_]
  have := hL k (by omega) h1
  simp [l8Image] at h2
  exact h2 this
 ·rw [l8Links, linksR_yes fun l h2 h3 => ?_, show k = (redex.edges + redex.outer.length).toNat by omega]
  have := hI l.toNat (by omega)
  rwa [show ((l.toNat : Nat) : Int) = l by omega] at this
noncomputable abbrev l8Match (redex agent : Big) (m : Match) : Bool := matchB redex agent m
abbrev l8Match_pre (redex agent : Big) (m : Match) : Prop := isMatch_pre redex agent m
def l8Match_wp (redex : Big) (agent : Big) (m : Match) (Z : Bool → Prop) : Prop :=
 joinW (fun (J6 : Bool → Prop) => (l8Images_pre redex agent m.nodes) ∧ ∀ r15 : Bool, r15 = l8Images redex agent m.nodes → ((r15 = true → (l8Places_pre redex agent m) ∧ ∀ r17 : Bool, r17 = l8Places redex agent m → ((r17 = true → (l8Parents_pre redex agent m) ∧ ∀ r19 : Bool, r19 = l8Parents redex agent m → ((r19 = true → (l8Kids_pre redex agent m) ∧ ∀ r21 : Bool, r21 = l8Kids redex agent m → J6 ((!r21))) ∧ (r19 = false → J6 (true)))) ∧ (r17 = false → J6 (true)))) ∧ (r15 = false → J6 (true)))) (fun b9 => ((b9 = true → Z false) ∧ (b9 = false → (l8Links_pre redex agent m) ∧ ∀ r13 : (List Int) × Bool, r13 = l8Links redex agent m → Z r13.2)))
theorem l8Match_vc (redex agent : Big) (m : Match) (h : l8Match_pre redex agent m) : l8Match_wp redex agent m (fun y => y = l8Match redex agent m) := by
 unfold l8Match_wp
 obtain ⟨⟨sig, hP⟩, hm⟩ := h
 have ha8 := hP.a.len
 have har := hP.a.roots
 simp only [forall_eq]
 have hIm : ∀ b : Bool, l8Images redex agent m.nodes = b → (b = true ↔ ImagesP redex agent m.nodes) := fun b hb => by rw [← hb]; simp [l8Images]
 have hPl : ∀ b : Bool, l8Places redex agent m = b → (b = true ↔ RootsOk redex agent m) := fun b hb => by rw [← hb]; simp [l8Places]
 have hPa : ∀ b : Bool, l8Parents redex agent m = b → (b = true ↔ ParentsP redex agent m) := fun b hb => by rw [← hb]; simp [l8Parents]
 have hKi : ∀ b : Bool, l8Kids redex agent m = b → (b = true ↔ KidsP redex agent m) := fun b hb => by rw [← hb]; simp [l8Kids]
 have hin : ImagesP redex agent m.nodes → InNodes agent m.nodes redex.nodes.length := fun hI => ⟨hI.1.1, fun i hi => by have := (hI.1.2 i hi).1; simp only [isNodeB, within, Bool.and_eq_true, decide_eq_true_eq] at this; omega⟩
 have spl : MatchP redex agent m ↔ (ImagesP redex agent m.nodes ∧ RootsOk redex agent m ∧ ParentsP redex agent m ∧ KidsP redex agent m) ∧ LinksP redex agent m.nodes := by
  constructor
  ·rintro ⟨h1, h2, h3, h4⟩
   exact ⟨⟨⟨h1, fun k hk => (h3 k hk).1⟩, h2, fun k hk => (h3 k hk).2.1, fun k hk => (h3 k hk).2.2⟩, h4⟩
  ·rintro ⟨⟨h1, h2, h3, h4⟩, h5⟩
   exact ⟨h1.1, h2, fun k hk => ⟨h1.2 k hk, h3 k hk, h4 k hk⟩, h5⟩
 refine ⟨fun c => c = true ↔ ¬ (ImagesP redex agent m.nodes ∧ RootsOk redex agent m ∧ ParentsP redex agent m ∧ KidsP redex agent m), ⟨⟨hm.1, by omega⟩, fun h1 => ⟨⟨hP.a.downB, hm, by simp only [I64]; omega⟩, fun h2 => ?_, fun h2 => ?_⟩, fun h1 => ?_⟩, fun c hJ => ⟨fun h1 => (matchB_no fun hM => hJ.1 h1 (spl.1 hM).1).symm, fun h1 => ?_⟩⟩
 ·have i1 := (hIm _ h1).1 rfl
  have i2 := (hPl _ h2).1 rfl
  refine ⟨⟨⟨sig, hP⟩, hin i1, i2.1⟩, fun h3 => ?_, fun h3 => ?_⟩
  ·have i3 := (hPa _ h3).1 rfl
   refine ⟨⟨⟨sig, hP⟩, hin i1, i2.1⟩, ?_⟩
   cases h4 : l8Kids redex agent m with
   | true => exact iff_of_false (by simp) fun h => h ⟨i1, i2, i3, (hKi _ h4).1 rfl⟩
   | false => exact iff_of_true rfl fun h => by have := (hKi _ h4).2 h.2.2.2; cases this
  ·exact iff_of_true rfl fun h => by have := (hPa _ h3).2 h.2.2.1; cases this
 ·exact iff_of_true rfl fun h => by have := (hPl _ h2).2 h.2.1; cases this
 ·exact iff_of_true rfl fun h => by have := (hIm _ h1).2 h.1; cases this
 ·have hA := Classical.not_not.1 fun h => by rw [hJ.2 h] at h1; cases h1
  refine ⟨⟨⟨sig, hP⟩, hin hA.1, hA.1.2⟩, ?_⟩
  by_cases hL : LinksP redex agent m.nodes
  ·rw [l8Links, linksR_yes hL]
   exact (matchB_iff.2 (spl.2 ⟨hA, hL⟩)).symm
  ·rw [l8Links, linksR_no hL]
   exact (matchB_no fun hM => hL hM.2.2.2).symm
end Go.Ab.Vg
/- FirstMatch, AllMatches, CountActive (statements 20, 21, 19): the search for matches, as lists. -/
namespace Go.Ab.Vg
set_option linter.unusedSimpArgs false
set_option linter.unusedVariables false
def rootsB (redex agent : Big) (nodes : List Int) : List Int := (List.range redex.roots.toNat).map fun r : Nat => (at' agent.nodes (at' nodes (at' (kidsB redex (-1 - (r : Int))) 0))).parent
def canB (redex agent : Big) (nodes : List Int) (x : Int) : Bool :=
 decide ((at' agent.nodes x).control = (at' redex.nodes (nodes.length : Int)).control) && !hasI nodes x && (decide ((at' redex.nodes (nodes.length : Int)).parent < 0) || decide ((at' agent.nodes x).parent = at' nodes (at' redex.nodes (nodes.length : Int)).parent))
noncomputable def allM (redex agent : Big) (rs : List Int → List Int) (can : List Int → Int → Bool) : Nat → List Int → List Match
 | 0, nodes => if matchB redex agent ⟨nodes, rs nodes⟩ then [⟨nodes, rs nodes⟩] else []
 | k + 1, nodes => (List.range agent.nodes.length).flatMap fun x : Nat => if can nodes (x : Int) then allM redex agent rs can k (nodes ++ [(x : Int)]) else []
def runY {σ α : Type} (step : σ → α → σ × Bool) : List α → σ → σ × Bool
 | [], s => (s, true)
 | m :: l, s => if (step s m).2 then runY step l (step s m).1 else ((step s m).1, false)
theorem runY_append {σ α : Type} (step : σ → α → σ × Bool) : ∀ (l1 l2 : List α) (s : σ), runY step (l1 ++ l2) s = if (runY step l1 s).2 then runY step l2 (runY step l1 s).1 else runY step l1 s
 | [], l2, s => by simp [runY]
 | m :: l1, l2, s => by
  simp only [List.cons_append, runY]
  split
  ·exact runY_append step l1 l2 _
  ·rename_i h; simp
theorem runY_stop {σ α : Type} (step : σ → α → σ × Bool) (l1 l2 : List α) (s : σ) (h : (runY step l1 s).2 = false) : runY step (l1 ++ l2) s = runY step l1 s := by rw [runY_append, h]; rfl
theorem runY_collect {α : Type} (most : Nat) : ∀ (l : List α) (out : List α), out.length ≤ most → runY (fun (s : List α) (m : α) => (s ++ [m], decide ((s ++ [m]).length ≤ most))) l out = (out ++ l.take (most + 1 - out.length), decide (out.length + l.length ≤ most))
 | [], out, h => by simp [runY, h]
 | m :: l, out, h => by
  have hs : most + 1 - out.length = (most + 1 - (out ++ [m]).length) + 1 := by simp; omega
  simp only [runY]
  split
  ·rename_i h1
   have h1' : (out ++ [m]).length ≤ most := by simpa using h1
   rw [runY_collect most l (out ++ [m]) h1', hs, List.take_succ_cons]
   simp only [List.append_assoc, List.singleton_append, List.length_append, List.length_cons, List.length_nil, Prod.mk.injEq, true_and, decide_eq_decide]
   omega
  ·rename_i h1
   have h1' : ¬ (out ++ [m]).length ≤ most := by simpa using h1
   simp only [List.length_append, List.length_cons, List.length_nil] at h1'
   have : most + 1 - out.length = 1 := by omega
   simp only [this, List.take_succ_cons, List.take_zero, Prod.mk.injEq, true_and]
   symm
   simp
   omega
theorem take_flat {α : Type} (n : Nat) (a b : List α) (h : a.length ≤ n) : (a ++ b).take (n + 1) = a ++ b.take (n - a.length + 1) := by
 rw [List.take_append, List.take_of_length_le (by omega), show n + 1 - a.length = n - a.length + 1 by omega]
theorem range_flat {α : Type} (f : Nat → List α) (k : Nat) : (List.range (k + 1)).flatMap f = (List.range k).flatMap f ++ f k := by simp [List.range_succ]
theorem allM_succ (redex agent : Big) (rs : List Int → List Int) (can : List Int → Int → Bool) (k : Nat) (nodes : List Int) : allM redex agent rs can (k + 1) nodes = (List.range agent.nodes.length).flatMap fun x : Nat => if can nodes (x : Int) then allM redex agent rs can k (nodes ++ [(x : Int)]) else [] := rfl
theorem allM_zero (redex agent : Big) (rs : List Int → List Int) (can : List Int → Int → Bool) (nodes : List Int) : allM redex agent rs can 0 nodes = if matchB redex agent ⟨nodes, rs nodes⟩ then [⟨nodes, rs nodes⟩] else [] := rfl
theorem allM_match {redex agent : Big} {rs : List Int → List Int} {can : List Int → Int → Bool} : ∀ {k : Nat} {nodes : List Int} {m : Match}, m ∈ allM redex agent rs can k nodes → matchB redex agent m = true
 | 0, nodes, m, h => by
  rw [allM_zero] at h
  split at h
  ·rename_i h1
   rw [List.mem_singleton] at h
   rw [h]; exact h1
  ·cases h
 | k + 1, nodes, m, h => by
  rw [allM_succ, List.mem_flatMap] at h
  obtain ⟨x, _, hx⟩ := h
  split at hx
  ·exact allM_match hx
  ·cases hx
end Go.Ab.Vg
/- The search for matches: impl.matches with a function value, and those that use it; the reference's search. -/
namespace Go.Ab.Vg
set_option linter.unusedSimpArgs false
set_option linter.unusedVariables false
abbrev MZ (m : Match) : Prop := m.nodes.length ≤ 1048576 ∧ m.roots.length ≤ 1048576
abbrev cloneI (l : List Int) : List Int := l
abbrev cloneI_pre (l : List Int) : Prop := l.length ≤ 1048576
def cloneI_wp (s : List Int) (Z : (List Int) → Prop) : Prop :=
 ∀ c2 : Bool, (c2 = true → s = []) → ((c2 = true → Z []) ∧ (c2 = false → (([] : List Int).length + s.length ≤ 1073741824) ∧ ∀ l7 : List Int, l7 = ([] : List Int) ++ s → Z l7))
theorem cloneI_vc (l : List Int) (h : cloneI_pre l) : cloneI_wp l (fun y => y = cloneI l) := by
 unfold cloneI_wp
 intro c hc
 refine ⟨fun h1 => (hc h1).symm, fun _ => ⟨by simp; omega, ?_⟩⟩
 rintro _ rfl
 simp
abbrev l1Own (l : List Int) : List Int := l
abbrev l1Own_pre (l : List Int) : Prop := l.length ≤ 1048576
def l1Own_wp (l : List Int) (Z : (List Int) → Prop) : Prop :=
 (([] : List Int).length + l.length ≤ 1073741824) ∧ ∀ l4 : List Int, l4 = ([] : List Int) ++ l → Z l4
theorem l1Own_vc (l : List Int) (h : l1Own_pre l) : l1Own_wp l (fun y => y = l1Own l) := by
 unfold l1Own_wp
 refine ⟨by simp; omega, ?_⟩
 rintro _ rfl
 simp
abbrev ownMatch (m : Match) : Match := m
abbrev ownMatch_pre (m : Match) : Prop := MZ m
def ownMatch_wp (m : Match) (Z : Match → Prop) : Prop :=
 (cloneI_pre m.nodes) ∧ ∀ r7 : List Int, r7 = cloneI m.nodes → (cloneI_pre m.roots) ∧ ∀ r10 : List Int, r10 = cloneI m.roots → Z (Match.mk r7 r10)
theorem ownMatch_vc (m : Match) (h : ownMatch_pre m) : ownMatch_wp m (fun y => y = ownMatch m) := by
 unfold ownMatch_wp
 simp only [forall_eq, cloneI]
 exact ⟨h.1, h.2, trivial⟩
abbrev InA (agent : Big) (nodes : List Int) : Prop := ∀ i : Int, 0 ≤ i → i < nodes.length → 0 ≤ at' nodes i ∧ at' nodes i < agent.nodes.length
theorem InA.snoc {agent : Big} {nodes : List Int} {x : Int} (h : InA agent nodes) (hx : 0 ≤ x ∧ x < agent.nodes.length) : InA agent (nodes ++ [x]) := fun i h0 h1 => by
 obtain ⟨k, rfl⟩ : ∃ k : Nat, i = k := ⟨i.toNat, by omega⟩
 simp only [List.length_append, List.length_cons, List.length_nil] at h1
 rcases Nat.lt_or_ge k nodes.length with hk | hk
 ·have := h k h0 (by omega)
  rw [at_lt hk] at this
  rw [at_lt (by simp; omega), List.getElem_append_left hk]
  exact this
 ·have hk' : k = nodes.length := by omega
  subst hk'
  rw [at_lt (by simp), List.getElem_append_right (Nat.le_refl _)]
  simpa using hx
theorem kid0 {sig : Sig} {redex agent : Big} (hP : Pair sig redex agent) {r : Nat} (hr : (r : Int) < redex.roots) : 0 < (kidsB redex (-1 - (r : Int))).length ∧ 0 ≤ at' (kidsB redex (-1 - (r : Int))) 0 ∧ at' (kidsB redex (-1 - (r : Int))) 0 < redex.nodes.length := by
 have h1 := hP.red.2.2.1 (-1 - (r : Int)) (by omega) (by omega)
 have h2 : 0 < (kidsB redex (-1 - (r : Int))).length := by
  rw [OkPlace] at h1
  omega
 have h3 : at' (kidsB redex (-1 - (r : Int))) 0 ∈ kidsB redex (-1 - (r : Int)) := at_mem ⟨by omega, by omega⟩
 rw [kidsB, mem_idxs] at h3
 exact ⟨h2, h3.1, h3.2.1⟩
abbrev rootsTo (redex agent : Big) (nodes : List Int) (k : Nat) : List Int := (List.range k).map fun r : Nat => (at' agent.nodes (at' nodes (at' (kidsB redex (-1 - (r : Int))) 0))).parent
theorem rootsTo_succ (redex agent : Big) (nodes : List Int) (k : Nat) : rootsTo redex agent nodes (k + 1) = rootsTo redex agent nodes k ++ [(at' agent.nodes (at' nodes (at' (kidsB redex (-1 - (k : Int))) 0))).parent] := by simp [rootsTo, List.range_succ]
theorem rootsB_len (redex agent : Big) (nodes : List Int) : (rootsB redex agent nodes).length = redex.roots.toNat := by simp [rootsB]
noncomputable abbrev restM (redex agent : Big) (nodes : List Int) : List Match := allM redex agent (rootsB redex agent) (canB redex agent) (redex.nodes.length - nodes.length) nodes
noncomputable abbrev nextM (redex agent : Big) (nodes : List Int) (x : Nat) : List Match := if canB redex agent nodes (x : Int) then restM redex agent (nodes ++ [(x : Int)]) else []
theorem restM_end {redex agent : Big} {nodes : List Int} (h : nodes.length = redex.nodes.length) : restM redex agent nodes = if matchB redex agent ⟨nodes, rootsB redex agent nodes⟩ then [⟨nodes, rootsB redex agent nodes⟩] else [] := by
 rw [restM, show redex.nodes.length - nodes.length = 0 by omega]; rfl
theorem restM_next {redex agent : Big} {nodes : List Int} (h : nodes.length < redex.nodes.length) : restM redex agent nodes = (List.range agent.nodes.length).flatMap (nextM redex agent nodes) := by
 obtain ⟨q, hq⟩ : ∃ q, redex.nodes.length - nodes.length = q + 1 := ⟨redex.nodes.length - nodes.length - 1, by omega⟩
 rw [restM, hq, allM_succ]
 congr 1
 funext x
 rw [nextM, restM, show redex.nodes.length - (nodes ++ [(x : Int)]).length = q by simp; omega]
abbrev Giv (redex agent : Big) (nodes : List Int) : Prop := (∃ sig, Pair sig redex agent) ∧ nodes.length ≤ redex.nodes.length ∧ InA agent nodes
abbrev matchesY_pre {σ : Type} (step : σ → Match → σ × Bool) (G : σ → Prop) (redex agent : Big) (nodes : List Int) (s : σ) : Prop := Giv redex agent nodes ∧ G s ∧ ∀ s m, G s → (step s m).2 = true → G (step s m).1
abbrev matchesY_ms (redex agent : Big) (nodes : List Int) : Nat := redex.nodes.length - nodes.length
noncomputable def matchesY {σ : Type} (step : σ → Match → σ × Bool) (redex agent : Big) (nodes : List Int) (s : σ) : σ × Bool := runY step (restM redex agent nodes) s
theorem runY_keep {σ : Type} {step : σ → Match → σ × Bool} {G : σ → Prop} (hG : ∀ s m, G s → (step s m).2 = true → G (step s m).1) : ∀ (l : List Match) (s : σ), G s → (runY step l s).2 = true → G (runY step l s).1
 | [], s, h, _ => h
 | m :: l, s, h, h1 => by
  rw [runY] at h1 ⊢
  split at h1
  ·rename_i h2
   rw [if_pos h2]
   exact runY_keep hG l _ (hG s m h h2) h1
  ·cases h1
def matchesY_wp {σ : Type} (step : σ → Match → σ × Bool) (G : σ → Prop) (redex : Big) (agent : Big) (nodes : List Int) (sG : σ) (Z : σ × Bool → Prop) : Prop :=
 ∀ len7 : Int, len7 = (nodes.length : Int) → ∀ len9 : Int, len9 = (redex.nodes.length : Int) → ∀ c11 : Bool, c11 = decide (len7 = len9) → ((c11 = true → loopW (σ := σ × Int × (List Int)) (fun (sG28, v29, l30) K35 => ∀ c36 : Bool, c36 = decide (v29 < redex.roots) → ((c36 = true → (I64 ((-1) - v29)) ∧ ∀ v39 : Int, v39 = (-1) - v29 → (childrenOf_pre redex v39) ∧ ∀ r42 : (List Int) × (List Int), r42 = childrenOf redex v39 → ((0 : Int) ≤ 0 ∧ (0 : Int) < r42.1.length) ∧ ∀ x64 : Int, x64 = at' r42.1 0 → (0 ≤ x64 ∧ x64 < nodes.length) ∧ ∀ x68 : Int, x68 = at' nodes x64 → (0 ≤ x68 ∧ x68 < agent.nodes.length) ∧ ∀ x71 : GNode, x71 = at' agent.nodes x68 → (l30.length + 1 ≤ 1073741824) ∧ ∀ l74 : List Int, l74 = l30 ++ [x71.parent] → (I64 (v29 + 1)) ∧ ∀ v86 : Int, v86 = v29 + 1 → K35 (sG28, v86, l74)) ∧ (c36 = false → (isMatch_pre redex agent (Match.mk nodes l30)) ∧ ∀ r89 : Bool, r89 = isMatch redex agent (Match.mk nodes l30) → ((r89 = true → (ownMatch_pre (Match.mk nodes l30)) ∧ ∀ r91 : Match, r91 = ownMatch (Match.mk nodes l30) → (G sG28) ∧ ∀ r105 : σ × Bool, r105 = step sG28 r91 → Z (r105.1, r105.2)) ∧ (r89 = false → Z (sG28, true)))))) (sG, 0, ([] : List Int))) ∧ (c11 = false → (0 ≤ len7 ∧ len7 < redex.nodes.length) ∧ ∀ x117 : GNode, x117 = at' redex.nodes len7 → ∀ len122 : Int, len122 = (agent.nodes.length : Int) → loopW (σ := σ × Int) (fun (sG128, v129) K133 => ∀ c134 : Bool, c134 = decide (v129 < len122) → ((c134 = true → (0 ≤ v129 ∧ v129 < agent.nodes.length) ∧ ∀ x137 : GNode, x137 = at' agent.nodes v129 → joinW (fun (J142 : Bool → Prop) => ∀ c176 : Bool, c176 = decide (x137.control ≠ x117.control) → ((c176 = true → J142 (true)) ∧ (c176 = false → (nodes.length ≤ 1048576) ∧ ∀ r179 : Bool, r179 = hasI nodes v129 → ((r179 = true → J142 (true)) ∧ (r179 = false → ∀ c180 : Bool, c180 = decide (0 ≤ x117.parent) → ((c180 = true → (0 ≤ x117.parent ∧ x117.parent < nodes.length) ∧ ∀ x183 : Int, x183 = at' nodes x117.parent → ∀ c185 : Bool, c185 = decide (x137.parent ≠ x183) → J142 (c185)) ∧ (c180 = false → J142 (false)))))))) (fun b145 => ((b145 = true → (I64 (v129 + 1)) ∧ ∀ v150 : Int, v150 = v129 + 1 → K133 (sG128, v150)) ∧ (b145 = false → (nodes.length + 1 ≤ 1073741824) ∧ ∀ l155 : List Int, l155 = nodes ++ [v129] → (matchesY_pre step G redex agent l155 sG128 ∧ matchesY_ms redex agent l155 < matchesY_ms redex agent nodes) ∧ ∀ r157 : σ × Bool, r157 = matchesY step redex agent l155 sG128 → ((r157.2 = true → (I64 (v129 + 1)) ∧ ∀ v174 : Int, v174 = v129 + 1 → K133 (r157.1, v174)) ∧ (r157.2 = false → Z (r157.1, false))))))) ∧ (c134 = false → Z (sG128, true)))) (sG, 0)))
theorem matchesY_vc {σ : Type} (step : σ → Match → σ × Bool) (G : σ → Prop) (redex agent : Big) (nodes : List Int) (sG : σ) (h : matchesY_pre step G redex agent nodes sG) : matchesY_wp step G redex agent nodes sG (fun y => y = matchesY step redex agent nodes sG) := by
 unfold matchesY_wp
 obtain ⟨⟨⟨sig, hP⟩, hl, hin⟩, hG, hGs⟩ := h
 have hr8 := hP.r.len
 have ha8 := hP.a.len
 have hrr := hP.r.roots
 have hrs := hP.r.slen
 simp only [forall_eq, decide_eq_true_eq, decide_eq_false_iff_not]
 refine ⟨fun hc => ?_, fun hc => ?_⟩
 ·refine loopW.up (τ := σ × List Int) redex.roots.toNat (fun s => s.2.1) (fun k t => (t.1, (k : Int), t.2)) (fun _ _ => rfl) (fun k t => t = (sG, rootsTo redex agent nodes k)) (sG, []) rfl rfl ?_
  rintro k _ K hk rfl IH
  dsimp only
  have hrl : (rootsTo redex agent nodes k).length = k := by simp
  refine ⟨fun h1 => ?_, fun h1 => ?_⟩
  ·obtain ⟨k1, k2, k3⟩ := kid0 hP (r := k) h1
   have hx := hin (at' (kidsB redex (-1 - (k : Int))) 0) k2 (by omega)
   refine ⟨by simp only [I64]; omega, ⟨by omega, by omega⟩, ⟨by omega, by omega⟩, ⟨k2, by omega⟩, hx, by omega, by simp only [I64]; omega, ?_⟩
   have := IH (by omega) (sG, rootsTo redex agent nodes (k + 1)) rfl
   rw [rootsTo_succ] at this
   exact this
  ·have hk2 : rootsTo redex agent nodes k = rootsB redex agent nodes := by rw [rootsB, show redex.roots.toNat = k by omega]
   rw [hk2]
   have hMS : MSz ⟨nodes, rootsB redex agent nodes⟩ := ⟨by show nodes.length ≤ _; omega, by show (rootsB redex agent nodes).length ≤ _; rw [rootsB_len]; omega⟩
   refine ⟨⟨⟨sig, hP⟩, hMS⟩, fun h2 => ⟨hMS, hG, ?_⟩, fun h2 => ?_⟩
   ·rw [matchesY, restM_end (by omega), if_pos h2, ownMatch, runY, runY]
    cases h3 : (step sG ⟨nodes, rootsB redex agent nodes⟩).2 <;> simp [h3, Prod.ext_iff]
   ·rw [matchesY, restM_end (by omega), if_neg (by rw [show matchB redex agent ⟨nodes, rootsB redex agent nodes⟩ = false from h2]; simp)]; rfl
 ·have hlt : nodes.length < redex.nodes.length := by omega
  have hpar := (hP.r.parAt (i := (nodes.length : Int)) ⟨by omega, by omega⟩).2
  refine ⟨⟨by omega, by omega⟩, ?_⟩
  refine loopW.upR agent.nodes.length (fun k s => runY step ((List.range k).flatMap (nextM redex agent nodes)) sG = (s, true) ∧ G s) sG ⟨rfl, hG⟩ ?_
  rintro k s K hk ⟨hs, hGk⟩ IH
  refine ⟨fun h1 => ⟨⟨by omega, by omega⟩, ?_⟩, fun h1 => ?_⟩
  ·refine ⟨fun b => b = !canB redex agent nodes (k : Int), ⟨fun h2 => ?_, fun h2 => ⟨by omega, fun h3 => ?_, fun h3 => ⟨fun h4 => ⟨⟨h4, hpar⟩, ?_⟩, fun h4 => ?_⟩⟩⟩, ?_⟩
   ·rw [canB, decide_eq_false h2]; rfl
   ·rw [canB, show hasI nodes (k : Int) = true from h3]; simp
   ·have h2' : (at' agent.nodes (k : Int)).control = (at' redex.nodes (nodes.length : Int)).control := by simpa using h2
    rw [canB, decide_eq_true h2', show hasI nodes (k : Int) = false from h3, decide_eq_false (show ¬ (at' redex.nodes (nodes.length : Int)).parent < 0 by omega)]
    simp
   ·have h2' : (at' agent.nodes (k : Int)).control = (at' redex.nodes (nodes.length : Int)).control := by simpa using h2
    rw [canB, decide_eq_true h2', show hasI nodes (k : Int) = false from h3, decide_eq_true (show (at' redex.nodes (nodes.length : Int)).parent < 0 by omega)]
    simp
   ·rintro b rfl
    refine ⟨fun h2 => ⟨by simp only [I64]; omega, ?_⟩, fun h2 => ?_⟩
    ·have hn : nextM redex agent nodes k = [] := by rw [nextM, if_neg (by simpa using h2)]
     exact IH (by omega) s ⟨by rw [range_flat, hn, List.append_nil]; exact hs, hGk⟩
    ·have hn : nextM redex agent nodes k = restM redex agent (nodes ++ [(k : Int)]) := by rw [nextM, if_pos (by simpa using h2)]
     refine ⟨by omega, ⟨⟨⟨⟨sig, hP⟩, by simp; omega, hin.snoc ⟨by omega, by omega⟩⟩, hGk, hGs⟩, by simp only [matchesY_ms, List.length_append, List.length_cons, List.length_nil]; omega⟩, fun h3 => ⟨by simp only [I64]; omega, ?_⟩, fun h3 => ?_⟩
     ·refine IH (by omega) _ ⟨?_, runY_keep hGs _ s hGk h3⟩
      rw [range_flat, runY_append, hs, hn]
      exact Prod.ext rfl h3
     ·have hst : runY step ((List.range (k + 1)).flatMap (nextM redex agent nodes)) sG = ((matchesY step redex agent (nodes ++ [(k : Int)]) s).1, false) := by
       rw [range_flat, runY_append, hs, hn]
       exact Prod.ext rfl h3
      obtain ⟨d, hd⟩ : ∃ d, agent.nodes.length = (k + 1) + d := ⟨agent.nodes.length - (k + 1), by omega⟩
      have hT : matchesY step redex agent nodes sG = ((matchesY step redex agent (nodes ++ [(k : Int)]) s).1, false) := by
       rw [matchesY, restM_next hlt, hd, List.range_add, List.flatMap_append, runY_stop _ _ _ _ (by rw [hst]), hst]
      exact hT.symm
  ·rw [matchesY, restM_next hlt, show agent.nodes.length = k by omega, hs]
abbrev yldAll_pre (m : Match) (out : List Match) : Prop := out.length ≤ 400
abbrev yldAll (m : Match) (out : List Match) : List Match × Bool := (out ++ [m], decide ((out ++ [m]).length ≤ 400))
def yldAll_wp (m : Match) (v_ : List Match) (Z : ((List Match) × Bool) → Prop) : Prop :=
 (v_.length + 1 ≤ 1073741824) ∧ ∀ l16 : List Match, l16 = v_ ++ [m] → ∀ len26 : Int, len26 = (l16.length : Int) → ∀ c28 : Bool, c28 = decide (len26 ≤ 400) → Z (l16, c28)
theorem yldAll_vc (m : Match) (out : List Match) (h : yldAll_pre m out) : yldAll_wp m out (fun y => y = yldAll m out) := by
 unfold yldAll_wp
 simp only [forall_eq]
 refine ⟨by omega, ?_⟩
 rw [yldAll]
 congr 1
 simp; omega
noncomputable abbrev matchesB (redex agent : Big) : List Match := restM redex agent []
noncomputable def allB (redex agent : Big) : List Match × Bool := if (matchesB redex agent).length ≤ 400 then (matchesB redex agent, true) else ([], false)
abbrev allMatches_pre (redex agent : Big) : Prop := ∃ sig, Pair sig redex agent
noncomputable abbrev allMatches (redex agent : Big) : List Match × Bool := allB redex agent
theorem giv0 {redex agent : Big} (h : ∃ sig, Pair sig redex agent) : Giv redex agent [] := ⟨h, by simp, fun i h0 h1 => by simp at h1; omega⟩
def allMatches_wp (redex : Big) (agent : Big) (Z : ((List Match) × Bool) → Prop) : Prop :=
 (matchesY_pre (fun s m => yldAll m s) (fun s => ∀ m, yldAll_pre m s) redex agent [] ([] : List Match)) ∧ ∀ r11 : (List Match) × Bool, r11 = matchesY (fun s m => yldAll m s) redex agent [] ([] : List Match) → ∀ len20 : Int, len20 = (r11.1.length : Int) → ∀ c22 : Bool, c22 = decide (400 < len20) → ((c22 = true → Z ([], false)) ∧ (c22 = false → Z (r11.1, true)))
theorem allMatches_vc (redex agent : Big) (h : allMatches_pre redex agent) : allMatches_wp redex agent (fun y => y = allMatches redex agent) := by
 unfold allMatches_wp
 have he : matchesY (fun s m => yldAll m s) redex agent [] [] = ((matchesB redex agent).take 401, decide ((matchesB redex agent).length ≤ 400)) := by
  rw [matchesY]
  show runY (fun (s : List Match) (m : Match) => (s ++ [m], decide ((s ++ [m]).length ≤ 400))) (matchesB redex agent) [] = _
  rw [runY_collect 400 _ [] (by simp)]
  simp
 simp only [forall_eq, decide_eq_true_eq, decide_eq_false_iff_not]
 rw [he]
 refine ⟨⟨giv0 h, fun m => by simp [yldAll_pre], fun s m h1 h2 m' => by simpa [yldAll] using h2⟩, fun h1 => ?_, fun h1 => ?_⟩
 ·rw [List.length_take] at h1
  rw [allMatches, allB, if_neg (by omega)]
 ·rw [List.length_take] at h1
  have hl : (matchesB redex agent).length ≤ 400 := by omega
  rw [allMatches, allB, if_pos hl, List.take_of_length_le (by omega)]
noncomputable abbrev AllMatches (sig : List Control) (redex agent : Big) : List Match × Bool := if matching sig redex agent then allB redex agent else ([], false)
abbrev AllMatches_pre (sig : List Control) (redex agent : Big) : Prop := isMatching_pre sig redex agent
def AllMatches_wp (sig : List Control) (redex : Big) (agent : Big) (Z : ((List Match) × Bool) → Prop) : Prop :=
 (isMatching_pre sig redex agent) ∧ ∀ r6 : Bool, r6 = isMatching sig redex agent → ((r6 = true → (allMatches_pre redex agent) ∧ ∀ r10 : (List Match) × Bool, r10 = allMatches redex agent → Z (r10.1, r10.2)) ∧ (r6 = false → Z ([], false)))
theorem AllMatches_vc (sig : List Control) (redex agent : Big) (h : AllMatches_pre sig redex agent) : AllMatches_wp sig redex agent (fun y => y = AllMatches sig redex agent) := by
 unfold AllMatches_wp
 simp only [forall_eq]
 refine ⟨h, fun h1 => ⟨⟨sig, matching_pair h1⟩, ?_⟩, fun h1 => ?_⟩
 ·rw [AllMatches, if_pos h1]
 ·rw [AllMatches, if_neg (by rw [show matching sig redex agent = false from h1]; simp)]
theorem all_match {sig : Sig} {redex agent : Big} {m : Match} (h : m ∈ (AllMatches sig redex agent).1) : matching sig redex agent = true ∧ matchB redex agent m = true := by
 rw [AllMatches] at h
 split at h
 ·rename_i h1
  rw [allB] at h
  split at h
  ·exact ⟨h1, allM_match h⟩
  ·cases h
 ·cases h
theorem match_size {sig : Sig} {redex agent : Big} {m : Match} (hP : Pair sig redex agent) (h : matchB redex agent m = true) : m.nodes.length ≤ 8 ∧ m.roots.length ≤ 4 := by
 have hM := matchB_iff.1 h
 have h1 := hM.1.1
 have h2 := hM.2.1.1
 have := hP.r.len
 have := hP.r.roots
 omega
theorem all_len (sig : Sig) (redex agent : Big) : (AllMatches sig redex agent).1.length ≤ 400 := by
 rw [AllMatches]
 split
 ·rw [allB]
  split
  ·assumption
  ·simp
 ·simp
noncomputable abbrev l8Roots (redex agent : Big) (nodes : List Int) : List Int := rootsB redex agent nodes
abbrev l8Roots_pre (redex agent : Big) (nodes : List Int) : Prop := Giv redex agent nodes ∧ nodes.length = redex.nodes.length
def l8Roots_wp (redex : Big) (agent : Big) (nodes : List Int) (Z : (List Int) → Prop) : Prop :=
 loopW (σ := Int × (List Int)) (fun (r15, l16) K20 => ∀ c21 : Bool, c21 = decide (r15 < redex.roots) → ((c21 = true → (I64 ((-1) - r15)) ∧ ∀ v24 : Int, v24 = (-1) - r15 → (l2Kids_pre redex v24) ∧ ∀ r27 : List Int, r27 = l2Kids redex v24 → ((0 : Int) ≤ 0 ∧ (0 : Int) < r27.length) ∧ ∀ x29 : Int, x29 = at' r27 0 → (0 ≤ x29 ∧ x29 < nodes.length) ∧ ∀ x32 : Int, x32 = at' nodes x29 → (0 ≤ x32 ∧ x32 < agent.nodes.length) ∧ ∀ x35 : GNode, x35 = at' agent.nodes x32 → (l16.length + 1 ≤ 1073741824) ∧ ∀ l38 : List Int, l38 = l16 ++ [x35.parent] → (I64 (r15 + 1)) ∧ ∀ v48 : Int, v48 = r15 + 1 → K20 (v48, l38)) ∧ (c21 = false → Z l16))) (0, ([] : List Int))
theorem l8Roots_vc (redex agent : Big) (nodes : List Int) (h : l8Roots_pre redex agent nodes) : l8Roots_wp redex agent nodes (fun y => y = l8Roots redex agent nodes) := by
 unfold l8Roots_wp
 obtain ⟨⟨⟨sig, hP⟩, hl, hin⟩, he⟩ := h
 have hr8 := hP.r.len
 have ha8 := hP.a.len
 have hrr := hP.r.roots
 simp only [forall_eq, decide_eq_true_eq, decide_eq_false_iff_not]
 refine loopW.upL redex.roots.toNat (fun k t => t = rootsTo redex agent nodes k) [] rfl ?_
 rintro k _ K hk rfl IH
 dsimp only
 have hrl : (rootsTo redex agent nodes k).length = k := by simp
 refine ⟨fun h1 => ?_, fun h1 => ?_⟩
 ·obtain ⟨k1, k2, k3⟩ := kid0 hP (r := k) h1
  have hx := hin (at' (kidsB redex (-1 - (k : Int))) 0) k2 (by omega)
  refine ⟨by simp only [I64]; omega, by simp only [l2Kids_pre]; omega, ⟨by omega, by simp only [l2Kids]; omega⟩, ⟨k2, by simp only [l2Kids]; omega⟩, hx, by omega, by simp only [I64]; omega, ?_⟩
  have := IH (by omega) (rootsTo redex agent nodes (k + 1)) rfl
  rw [rootsTo_succ] at this
  exact this
 ·rw [l8Roots, rootsB, show redex.roots.toNat = k by omega]
abbrev l8Can (redex agent : Big) (nodes : List Int) (x : Int) : Bool := canB redex agent nodes x
abbrev l8Can_pre (redex agent : Big) (nodes : List Int) (x : Int) : Prop := (∃ sig, Pair sig redex agent) ∧ nodes.length < redex.nodes.length ∧ 0 ≤ x ∧ x < agent.nodes.length
def l8Can_wp (redex : Big) (agent : Big) (nodes : List Int) (x : Int) (Z : Bool → Prop) : Prop :=
 ∀ len5 : Int, len5 = (nodes.length : Int) → joinW (fun (J7 : Bool → Prop) => (0 ≤ x ∧ x < agent.nodes.length) ∧ ∀ x33 : GNode, x33 = at' agent.nodes x → (0 ≤ len5 ∧ len5 < redex.nodes.length) ∧ ∀ x36 : GNode, x36 = at' redex.nodes len5 → ∀ c38 : Bool, c38 = decide (x33.control ≠ x36.control) → ((c38 = true → J7 (true)) ∧ (c38 = false → (nodes.length ≤ 1048576) ∧ ∀ r41 : Bool, r41 = hasI nodes x → J7 (r41)))) (fun b10 => ((b10 = true → Z false) ∧ (b10 = false → (0 ≤ len5 ∧ len5 < redex.nodes.length) ∧ ∀ x14 : GNode, x14 = at' redex.nodes len5 → joinW (fun (J16 : Bool → Prop) => ∀ c22 : Bool, c22 = decide (x14.parent < 0) → ((c22 = true → J16 (true)) ∧ (c22 = false → (0 ≤ x ∧ x < agent.nodes.length) ∧ ∀ x25 : GNode, x25 = at' agent.nodes x → (0 ≤ x14.parent ∧ x14.parent < nodes.length) ∧ ∀ x28 : Int, x28 = at' nodes x14.parent → ∀ c30 : Bool, c30 = decide (x25.parent = x28) → J16 (c30)))) (fun b19 => Z b19))))
theorem l8Can_vc (redex agent : Big) (nodes : List Int) (x : Int) (h : l8Can_pre redex agent nodes x) : l8Can_wp redex agent nodes x (fun y => y = l8Can redex agent nodes x) := by
 unfold l8Can_wp
 obtain ⟨⟨sig, hP⟩, hl, hx⟩ := h
 have hr8 := hP.r.len
 have hpar := (hP.r.parAt (i := (nodes.length : Int)) ⟨by omega, by omega⟩).2
 simp only [forall_eq, decide_eq_true_eq, decide_eq_false_iff_not]
 refine ⟨fun b => b = (decide ((at' agent.nodes x).control ≠ (at' redex.nodes (nodes.length : Int)).control) || hasI nodes x), ⟨hx, ⟨by omega, by omega⟩, fun h1 => by simp [h1], fun h1 => ⟨by omega, by
  rw [show decide ((at' agent.nodes x).control ≠ (at' redex.nodes (nodes.length : Int)).control) = false by simpa using h1]; rfl⟩⟩, ?_⟩
 rintro b rfl
 refine ⟨fun h1 => ?_, fun h1 => ⟨⟨by omega, by omega⟩, fun c => c = (decide ((at' redex.nodes (nodes.length : Int)).parent < 0) || decide ((at' agent.nodes x).parent = at' nodes (at' redex.nodes (nodes.length : Int)).parent)), ⟨fun h2 => by simp [h2], fun h2 => ⟨hx, ⟨by omega, hpar⟩, by rw [decide_eq_false h2]; rfl⟩⟩, ?_⟩⟩
 ·simp only [Bool.or_eq_true, decide_eq_true_eq] at h1
  rw [l8Can, canB]
  rcases h1 with h1 | h1
  ·rw [decide_eq_false h1]; rfl
  ·rw [h1]; simp
 ·rintro c rfl
  simp only [Bool.or_eq_false_iff, decide_eq_false_iff_not, Classical.not_not] at h1
  rw [l8Can, canB, decide_eq_true h1.1, h1.2]; rfl
abbrev l8Search_ms (redex agent : Big) (nodes : List Int) (most : Int) : Nat := redex.nodes.length - nodes.length
abbrev l8Search_pre (redex agent : Big) (nodes : List Int) (most : Int) : Prop := Giv redex agent nodes ∧ 0 ≤ most ∧ most ≤ 1000000
noncomputable def l8Search (redex agent : Big) (nodes : List Int) (most : Int) : List Match := (restM redex agent nodes).take (most.toNat + 1)
def l8Search_wp (redex : Big) (agent : Big) (nodes : List Int) (most : Int) (Z : (List Match) → Prop) : Prop :=
 ∀ len8 : Int, len8 = (nodes.length : Int) → ∀ len10 : Int, len10 = (redex.nodes.length : Int) → ∀ c12 : Bool, c12 = decide (len8 = len10) → ((c12 = true → (l1Own_pre nodes) ∧ ∀ r17 : List Int, r17 = l1Own nodes → (l8Roots_pre redex agent nodes) ∧ ∀ r19 : List Int, r19 = l8Roots redex agent nodes → (l8Match_pre redex agent (Match.mk r17 r19)) ∧ ∀ r29 : Bool, r29 = l8Match redex agent (Match.mk r17 r19) → ((r29 = true → (([] : List Match).length + 1 ≤ 1073741824) ∧ ∀ l31 : List Match, l31 = ([] : List Match) ++ [(Match.mk r17 r19)] → Z l31) ∧ (r29 = false → Z ([] : List Match)))) ∧ (c12 = false → loopW (σ := Int × (List Match)) (fun (x47, l48) K52 => joinW (fun (J53 : Bool → Prop) => ∀ len120 : Int, len120 = (agent.nodes.length : Int) → ∀ c122 : Bool, c122 = decide (x47 < len120) → ((c122 = true → ∀ len124 : Int, len124 = (l48.length : Int) → ∀ c126 : Bool, c126 = decide (len124 ≤ most) → J53 (c126)) ∧ (c122 = false → J53 (false)))) (fun b56 => ((b56 = true → (l8Can_pre redex agent nodes x47) ∧ ∀ r61 : Bool, r61 = l8Can redex agent nodes x47 → ((r61 = true → (l1Own_pre nodes) ∧ ∀ r65 : List Int, r65 = l1Own nodes → (r65.length + 1 ≤ 1073741824) ∧ ∀ l68 : List Int, l68 = r65 ++ [x47] → ∀ len69 : Int, len69 = (l48.length : Int) → (I64 (most - len69)) ∧ ∀ v72 : Int, v72 = most - len69 → (l8Search_pre redex agent l68 v72 ∧ l8Search_ms redex agent l68 v72 < l8Search_ms redex agent nodes most) ∧ ∀ r75 : List Match, r75 = l8Search redex agent l68 v72 → (l48.length + r75.length ≤ 1073741824) ∧ ∀ l77 : List Match, l77 = l48 ++ r75 → (I64 (x47 + 1)) ∧ ∀ v115 : Int, v115 = x47 + 1 → K52 (v115, l77)) ∧ (r61 = false → (I64 (x47 + 1)) ∧ ∀ v118 : Int, v118 = x47 + 1 → K52 (v118, l48)))) ∧ (b56 = false → Z l48)))) (0, ([] : List Match))))
theorem l8Search_vc (redex agent : Big) (nodes : List Int) (most : Int) (h : l8Search_pre redex agent nodes most) : l8Search_wp redex agent nodes most (fun y => y = l8Search redex agent nodes most) := by
 unfold l8Search_wp
 obtain ⟨⟨⟨sig, hP⟩, hl, hin⟩, hm0, hm1⟩ := h
 have hr8 := hP.r.len
 have ha8 := hP.a.len
 have hrr := hP.r.roots
 simp only [forall_eq, decide_eq_true_eq, decide_eq_false_iff_not, l1Own]
 refine ⟨fun hc => ?_, fun hc => ?_⟩
 ·have hMS : MSz ⟨nodes, rootsB redex agent nodes⟩ := ⟨by show nodes.length ≤ _; omega, by show (rootsB redex agent nodes).length ≤ _; rw [rootsB_len]; omega⟩
  refine ⟨by omega, ⟨⟨⟨sig, hP⟩, hl, hin⟩, by omega⟩, ⟨⟨sig, hP⟩, hMS⟩, fun h2 => ⟨by simp, ?_⟩, fun h2 => ?_⟩
  ·rw [l8Search, restM_end (by omega), if_pos h2, List.take_of_length_le (by simp)]; rfl
  ·rw [l8Search, restM_end (by omega), if_neg (by rw [show matchB redex agent ⟨nodes, rootsB redex agent nodes⟩ = false from h2]; simp)]; rfl
 ·have hlt : nodes.length < redex.nodes.length := by omega
  refine loopW.upL agent.nodes.length (fun k out => out = ((List.range k).flatMap (nextM redex agent nodes)).take (most.toNat + 1)) [] rfl ?_
  rintro k _ K hk rfl IH
  dsimp only
  have hol := List.length_take_le (most.toNat + 1) ((List.range k).flatMap (nextM redex agent nodes))
  refine ⟨fun b => b = (decide ((k : Int) < agent.nodes.length) && decide ((((List.range k).flatMap (nextM redex agent nodes)).take (most.toNat + 1)).length ≤ most)), ⟨fun h1 => by simp [h1], fun h1 => by simp [h1]⟩, ?_⟩
  rintro b rfl
  refine ⟨fun h1 => ?_, fun h1 => ?_⟩
  ·simp only [Bool.and_eq_true, decide_eq_true_eq] at h1
   obtain ⟨h1, h2⟩ := h1
   rw [List.length_take] at h2
   have hle : ((List.range k).flatMap (nextM redex agent nodes)).length ≤ most.toNat := by omega
   have he : ((List.range k).flatMap (nextM redex agent nodes)).take (most.toNat + 1) = (List.range k).flatMap (nextM redex agent nodes) := List.take_of_length_le (by omega)
   rw [he] at hol ⊢
   have hsucc : ((List.range (k + 1)).flatMap (nextM redex agent nodes)).take (most.toNat + 1) = (List.range k).flatMap (nextM redex agent nodes) ++ (nextM redex agent nodes k).take (most.toNat - ((List.range k).flatMap (nextM redex agent nodes)).length + 1) := by
    rw [range_flat, take_flat _ _ _ hle]
   refine ⟨⟨⟨sig, hP⟩, hlt, by omega, by omega⟩, fun h3 => ⟨by omega, by omega, by simp only [I64]; omega, ⟨⟨⟨⟨sig, hP⟩, by simp; omega, hin.snoc ⟨by omega, by omega⟩⟩, by omega, by omega⟩, by simp only [l8Search_ms, List.length_append, List.length_cons, List.length_nil]; omega⟩, ?_, by simp only [I64]; omega, ?_⟩, fun h3 => ⟨by simp only [I64]; omega, ?_⟩⟩
   ·have := List.length_take_le ((most - ((List.range k).flatMap (nextM redex agent nodes)).length).toNat + 1) (restM redex agent (nodes ++ [(k : Int)]))
    rw [l8Search]
    omega
   ·refine IH (by omega) _ ?_
    rw [hsucc, nextM, if_pos h3, l8Search, show (most - (((List.range k).flatMap (nextM redex agent nodes)).length : Int)).toNat = most.toNat - ((List.range k).flatMap (nextM redex agent nodes)).length by omega]
   ·refine IH (by omega) _ ?_
    rw [hsucc, nextM, if_neg (by rw [show canB redex agent nodes (k : Int) = false from h3]; simp)]
    simp
  ·rw [l8Search, restM_next hlt]
   by_cases hk2 : k = agent.nodes.length
   ·rw [hk2]
   ·simp only [Bool.and_eq_false_iff, decide_eq_false_iff_not] at h1
    have h2 : ¬ ((((List.range k).flatMap (nextM redex agent nodes)).take (most.toNat + 1)).length : Int) ≤ most := h1.resolve_left (by omega)
    rw [List.length_take] at h2
    obtain ⟨d, hd⟩ : ∃ d, agent.nodes.length = k + d := ⟨agent.nodes.length - k, by omega⟩
    rw [hd, List.range_add, List.flatMap_append, List.take_append_of_le_length (by omega)]
noncomputable abbrev l8All (redex agent : Big) : List Match := (matchesB redex agent).take 401
abbrev l8All_pre (redex agent : Big) : Prop := ∃ sig, Pair sig redex agent
def l8All_wp (redex : Big) (agent : Big) (Z : (List Match) → Prop) : Prop :=
 (l8Search_pre redex agent ([] : List Int) 400) ∧ ∀ r7 : List Match, r7 = l8Search redex agent ([] : List Int) 400 → ∀ len9 : Int, len9 = (r7.length : Int) → ∀ c11 : Bool, c11 = decide (400 < len9) → ((c11 = true → ((0 : Int) ≤ 0 ∧ (0 : Int) ≤ 401 ∧ (401 : Int) ≤ r7.length) ∧ ∀ l14 : List Match, l14 = (r7.take 401).drop 0 → Z l14) ∧ (c11 = false → Z r7))
theorem l8All_vc (redex agent : Big) (h : l8All_pre redex agent) : l8All_wp redex agent (fun y => y = l8All redex agent) := by
 unfold l8All_wp
 have he : l8Search redex agent [] 400 = (matchesB redex agent).take 401 := rfl
 simp only [forall_eq, decide_eq_true_eq, decide_eq_false_iff_not]
 rw [he]
 have hl := List.length_take_le 401 (matchesB redex agent)
 refine ⟨⟨giv0 h, by omega, by omega⟩, fun h1 => ⟨⟨by omega, by omega, by omega⟩, ?_⟩, fun _ => rfl⟩
 rw [l8All, List.take_take]; rfl
noncomputable abbrev sAllMatches (sig : List Control) (redex agent : Big) : List Match × Bool := AllMatches sig redex agent
abbrev sAllMatches_pre (sig : List Control) (redex agent : Big) : Prop := isMatching_pre sig redex agent
def sAllMatches_wp (sig : List Control) (redex : Big) (agent : Big) (Z : ((List Match) × Bool) → Prop) : Prop :=
 (l8Both_pre sig redex agent) ∧ ∀ r6 : Bool, r6 = l8Both sig redex agent → ((r6 = true → (l8All_pre redex agent) ∧ ∀ r10 : List Match, r10 = l8All redex agent → ∀ len11 : Int, len11 = (r10.length : Int) → ∀ c13 : Bool, c13 = decide (400 < len11) → ((c13 = true → Z (([] : List Match), false)) ∧ (c13 = false → Z (r10, true)))) ∧ (r6 = false → Z (([] : List Match), false)))
theorem sAllMatches_vc (sig : List Control) (redex agent : Big) (h : sAllMatches_pre sig redex agent) : sAllMatches_wp sig redex agent (fun y => y = sAllMatches sig redex agent) := by
 unfold sAllMatches_wp
 simp only [forall_eq, decide_eq_true_eq, decide_eq_false_iff_not, l8All]
 refine ⟨h, fun h1 => ⟨⟨sig, matching_pair h1⟩, fun h2 => ?_, fun h2 => ?_⟩, fun h1 => ?_⟩
 ·rw [List.length_take] at h2
  rw [sAllMatches, AllMatches, if_pos h1, allB, if_neg (by omega)]
 ·rw [List.length_take] at h2
  have hl : (matchesB redex agent).length ≤ 400 := by omega
  rw [sAllMatches, AllMatches, if_pos h1, allB, if_pos hl, List.take_of_length_le (by omega)]
 ·rw [sAllMatches, AllMatches, if_neg (by rw [show matching sig redex agent = false from h1]; simp)]
end Go.Ab.Vg
/- The conversion of bytes to a string; laws.markText. -/
namespace Go.Ab
set_option linter.unusedSimpArgs false
theorem bytes_fold : ∀ (ns : List Int) (s : Array UInt8), ns.foldl (fun r n => r.push (UInt8.ofNat n.toNat)) (ByteArray.mk s) = ByteArray.mk (s ++ (ns.map fun n => UInt8.ofNat n.toNat).toArray)
 | [], s => by simp
 | n :: ns, s => by
  have h : (ByteArray.mk s).push (UInt8.ofNat n.toNat) = ByteArray.mk (s.push (UInt8.ofNat n.toNat)) := rfl
  rw [List.foldl_cons, h, bytes_fold ns]
  congr 1
  simp
theorem step_convertBytes {P : Program} {N : Nat} {Ty : Types} (hT : TypesOk P Ty) {ρ : Env} {H : Heap} {n : Nat} {d : Option Tmp} {ty : TypeId} {pos : String} {af : Array Edge} {gu : Option (Nat × Bool)} {s t : TypeId} {x : Operand} {j : TI} {els : List (List AVal)} {ns : List Int}
  (hs : kd Ty s = .slice j) (hj : j.desc = .int .u8) (ht : kd Ty t = .string) (hx : srcOf H (ρ.ev x) = some els) (hn : els = ns.map fun n => [.v (.int .u8 n)]) :
  OpSem P N ⟨d, .convert s t x, ty, pos, af, gu⟩ ρ H n fun v1 H1 n1 => v1 = str (ns.map fun n => UInt8.ofNat n.toNat) ∧ H1 = H ∧ n1 = n := by
 refine OpSem.of_value fun c a hH hn' g r => ?_
 subst hH hn'
 obtain ⟨i1, e, hi1, hd1, he⟩ := kd_slice hs
 obtain ⟨i2, hi2, hd2⟩ := kd_string ht
 have d1 := (hT s i1 hi1).1
 rw [hd1] at d1
 have d2 := (hT t i2 hi2).1
 rw [hd2] at d2
 have d3 := (hT e j he).1
 rw [hj] at d3
 have hsrc := srcOf_ok (sz := 1) g (r.ev x) hx (by subst hn; simp)
 refine ⟨_, .string ⟨(ns.map fun n => UInt8.ofNat n.toNat).toArray⟩, c, ?_, ⟨rfl, rfl, rfl⟩, .v _, g, Keeps.refl c⟩
 rcases hsrc with ⟨h1, h2⟩ | ⟨ad, cap, news, h1, h2, h3, h4⟩
 ·have h0 : ns = [] := by rw [h2] at hn; simpa using hn.symm
  subst h0
  have := run_convert_bytes_string (P := P) c.w s t e none 0 0 d1 d3 d2
  simp [execOp, h1, this, Conv.bytesToString, Sem.run_pure]
  rfl
 ·have hnews : news = ns.map (Value.int .u8) := by
   apply List.ext_getElem?
   intro q
   rcases Nat.lt_or_ge q ns.length with hq | hq
   ·have hel : els[q]? = some [.v (.int .u8 ns[q])] := by rw [hn]; simp [hq]
    obtain ⟨_, h5⟩ := h4 q _ hel
    obtain ⟨u, hu, hr⟩ := h5 0 _ rfl
    simp only [Nat.mul_one, Nat.add_zero] at hu
    rw [hu, hr.v_inv]
    simp [hq]
   ·rw [List.getElem?_eq_none (by rw [h2, hn]; simpa using hq), List.getElem?_eq_none (by simpa using hq)]
  have hl := run_loadCells_list (P := P) c.w ad news h3
  have hlen : news.length = els.length := by rw [h2, Nat.mul_one]
  rw [hlen, hnews] at hl
  have h5 := run_bytesToString c.w ad els.length cap ns hl
  have h6 := run_convert_bytes_string (P := P) c.w s t e (some ad) els.length cap d1 d3 d2
  have h7 := bytes_fold ns #[]
  have h8 : (ByteArray.empty : ByteArray) = ByteArray.mk #[] := rfl
  simp [execOp, h1, h6, h5, h8, h7]
end Go.Ab
/- Contract of laws.markText. -/
namespace Go.Ab
open Go.Proofs
set_option linter.unusedSimpArgs false
def digs (k : Nat) (out : Str) : Str := if k = 0 then out else digs (k / 10) (UInt8.ofNat (48 + k % 10) :: out)
 termination_by k
 decreasing_by omega
def markTextL (k : Nat) : Str := if k = 0 then [109, 48] else 109 :: digs k []
theorem wrap_u8 {a : Int} (h : 0 ≤ a) (h2 : a < 256) : IntKind.u8.wrap a = a := by
 unfold IntKind.wrap
 simp [IntKind.min, IntKind.max, IntKind.bits, IntKind.signed]
 omega
theorem e54 : Ent Tryz.prog 54 := Ent.of Tryz.func54 (by kernel_rfl) rfl
set_option maxRecDepth 20000 in
theorem markText_ok (k : Nat) (hk : k ≤ 1152921504606846976) : PureC Tryz.prog 54 [int k] (fun r => r = str (markTextL k)) := by
 refine PureC.of Tryz.func54 rfl Tryz.ntmps54 (by simp) fun Q hQ => ?_
 refine Runs.seqE Ty_ok (by decide) fun k' hk' => ?_
 simp   -- R0
 refine hk' _ _ _ ?_
 refine Runs.seq ?_
 refine Runs.seqE Ty_ok (by decide) fun k' hk' => ?_
 simp   -- R1
 refine hk' _ _ _ ?_
 refine Runs.ite rfl (fun hc1 => ?_) (fun hc1 => ?_)   -- t5
 ·simp at hc1
  refine Runs.seqE Ty_ok (by decide) fun k' hk' => ?_
  simp   -- R2
  refine hk' _ _ _ ?_
  refine Runs.ret Tryz.func54 (RetOk.one Tryz.results54) (hQ _ _ _ _ (.v _ _ _) ?_)
  simp [markTextL, hc1]
 ·simp at hc1
  refine Runs.skip ?_
  refine Runs.seqE Ty_ok (by decide) fun k' hk' => ?_
  simp   -- R3
  refine hk' _ _ _ ?_
  refine Runs.seq ?_
  refine Runs.block (Runs.loopM (fun m ρ H n => ρ 0 = int m ∧ ∃ out : Str, ρ 3 = str out ∧ out.length + m ≤ k ∧ digs m out = digs k []) k ?_ ?_)
  ·simp
  ·rintro m ρ H n ⟨h0, out, h3, hlen, hd⟩ IH
   refine Runs.seq ?_
   refine Runs.seqE Ty_ok (by decide) fun k' hk' => ?_
   simp [h0]   -- R4
   refine hk' _ _ _ ?_
   refine Runs.ite rfl (fun hc2 => ?_) (fun hc2 => ?_)   -- t7
   ·simp at hc2
    refine Runs.skip ?_
    refine Runs.block ?_
    refine Runs.seqE Ty_ok (by decide) fun k' hk' => ?_
    obtain ⟨g, hg⟩ : ∃ g : Nat, g = 48 + m % 10 := ⟨_, rfl⟩
    obtain ⟨q, hq'⟩ : ∃ q : Nat, q = m / 10 := ⟨_, rfl⟩
    have hq : ((m : Int).tdiv 10) = (q : Int) := by rw [Int.tdiv_eq_ediv_of_nonneg (by omega)]; omega
    have hw : IntKind.i64.wrap (48 + ((m : Int).tmod 10)) = (g : Int) := by
     rw [Int.tmod_eq_emod_of_nonneg (by omega), wrap64] <;> omega
    have hw2 : IntKind.i64.wrap (q : Int) = (q : Int) := by rw [wrap64] <;> omega
    have hw3 : IntKind.u8.wrap (g : Int) = (g : Int) := wrap_u8 (by omega) (by omega)
    simp [h0, h3, hw, hw3]   -- R5
    refine RunK.op Ty_ok (by decide) (by decide) rfl (step_convertBytes (ns := [(g : Int)]) (els := [[.v (.int .u8 g)]]) Ty_ok kd_119 (by kernel_rfl) kd_9 (by simp [srcOf]) rfl) ?_
    rintro v H' n' ⟨rfl, rfl, rfl⟩
    simp [h3, show 1 + out.length < 4611686018427387904 by omega]
    refine hk' _ _ _ ?_
    refine Runs.evalE Ty_ok (by decide) fun k' hk' => ?_
    simp [h0, hq, hw2]   -- R6
    refine hk' _ _ _ ?_
    refine Runs.inBlock ?_
    refine IH q _ _ _ (by omega) ⟨by simp, UInt8.ofNat g :: out, by simp, by simp; omega, ?_⟩
    rw [← hd, hg, hq']
    conv => rhs; rw [digs, if_neg (by omega)]
   ·simp at hc2
    subst hc2
    rw [digs, if_pos rfl] at hd
    refine Runs.exit rfl ?_
    refine Runs.seqE Ty_ok (by decide) fun k' hk' => ?_
    simp [h3, show 1 + out.length < 4611686018427387904 by omega]   -- R7
    refine hk' _ _ _ ?_
    refine Runs.ret Tryz.func54 (RetOk.one Tryz.results54) (hQ _ _ _ _ (.v _ _ _) ?_)
    simp [markTextL, hc1, hd, show ¬ k = 0 by omega]
end Go.Ab
/- The laws' own functions on bigraphs' types: copies, marks, and whether marks are held. -/
namespace Go.Ab.Vg
set_option linter.unusedSimpArgs false
set_option linter.unusedVariables false
theorem list_fill {α : Type} [Inhabited α] {a : List α} {k : Nat} (hk : k < a.length) : (a.take k ++ List.replicate (a.length - k) default).set k a[k] = a.take (k + 1) ++ List.replicate (a.length - (k + 1)) default := by
 rw [List.set_append_right _ _ (by simp; omega)]
 rw [List.take_succ_eq_append_getElem hk, List.append_assoc]
 congr 1
 have h1 : a.length - k = (a.length - (k + 1)) + 1 := by omega
 have h2 : k - (a.take k).length = 0 := by simp; omega
 rw [h1, h2, List.replicate_succ]
 rfl
abbrev filled {α : Type} [Inhabited α] (a : List α) (k : Nat) : List α := a.take k ++ List.replicate (a.length - k) default
theorem filled_len {α : Type} [Inhabited α] {a : List α} {k : Nat} (hk : k ≤ a.length) : (filled a k).length = a.length := by simp [filled]; omega
theorem filled_set {α : Type} [Inhabited α] {a : List α} {k : Nat} (hk : k < a.length) : (filled a k).set k (at' a (k : Int)) = filled a (k + 1) := by rw [at_lt hk]; exact list_fill hk
theorem filled_end {α : Type} [Inhabited α] (a : List α) : filled a a.length = a := by simp [filled]
theorem filled_zero {α : Type} [Inhabited α] (a : List α) : filled a 0 = List.replicate a.length default := by simp [filled]
abbrev toIntS (a : List Int) := a
abbrev toIntS_pre (a : List Int) : Prop := a.length ≤ 1048576
def toIntS_wp (a : List Int) (Z : (List Int) → Prop) : Prop :=
 ∀ len2 : Int, len2 = (a.length : Int) → (0 ≤ len2 ∧ len2 ≤ 1073741824) ∧ ∀ l5 : List Int, l5 = List.replicate len2.toNat default → loopW (σ := Int × (List Int)) (fun (i16, l17) K21 => ∀ len22 : Int, len22 = (a.length : Int) → ∀ c24 : Bool, c24 = decide (i16 < len22) → ((c24 = true → (0 ≤ i16 ∧ i16 < a.length) ∧ ∀ x27 : Int, x27 = at' a i16 → (0 ≤ i16 ∧ i16 < l17.length) ∧ ∀ x34 : Int, x34 = at' l17 i16 → ∀ l37 : List Int, l37 = l17.set i16.toNat x27 → (I64 (i16 + 1)) ∧ ∀ v44 : Int, v44 = i16 + 1 → K21 (v44, l37)) ∧ (c24 = false → Z l17))) (0, l5)
theorem toIntS_vc (a : List Int) (h : toIntS_pre a) : toIntS_wp a (fun y => y = toIntS a) := by
 unfold toIntS_wp
 simp only [toIntS_pre] at h
 simp only [forall_eq, Int.toNat_natCast]
 refine ⟨by omega, loopW.upL a.length (fun k out => out = filled a k) _ (filled_zero a).symm ?_⟩
 rintro k out K hk rfl IH
 have hl := filled_len hk
 simp only [decide_eq_true_eq, decide_eq_false_iff_not, I64, Int.toNat_natCast]
 refine ⟨fun h1 => ⟨by omega, by omega, by omega, IH (by omega) _ (filled_set (by omega))⟩, fun h1 => ?_⟩
 rw [show k = a.length by omega]
 exact filled_end a
abbrev toStringS (a : List Str) := a
abbrev toStringS_pre (a : List Str) : Prop := a.length ≤ 1048576
def toStringS_wp (a : List Str) (Z : (List Str) → Prop) : Prop :=
 ∀ len2 : Int, len2 = (a.length : Int) → (0 ≤ len2 ∧ len2 ≤ 1073741824) ∧ ∀ l5 : List Str, l5 = List.replicate len2.toNat default → loopW (σ := Int × (List Str)) (fun (i16, l17) K21 => ∀ len22 : Int, len22 = (a.length : Int) → ∀ c24 : Bool, c24 = decide (i16 < len22) → ((c24 = true → (0 ≤ i16 ∧ i16 < a.length) ∧ ∀ x27 : Str, x27 = at' a i16 → (0 ≤ i16 ∧ i16 < l17.length) ∧ ∀ x34 : Str, x34 = at' l17 i16 → ∀ l37 : List Str, l37 = l17.set i16.toNat x27 → (I64 (i16 + 1)) ∧ ∀ v44 : Int, v44 = i16 + 1 → K21 (v44, l37)) ∧ (c24 = false → Z l17))) (0, l5)
theorem toStringS_vc (a : List Str) (h : toStringS_pre a) : toStringS_wp a (fun y => y = toStringS a) := by
 unfold toStringS_wp
 simp only [toStringS_pre] at h
 simp only [forall_eq, Int.toNat_natCast]
 refine ⟨by omega, loopW.upL a.length (fun k out => out = filled a k) _ (filled_zero a).symm ?_⟩
 rintro k out K hk rfl IH
 have hl := filled_len hk
 simp only [decide_eq_true_eq, decide_eq_false_iff_not, I64, Int.toNat_natCast]
 refine ⟨fun h1 => ⟨by omega, by omega, by omega, IH (by omega) _ (filled_set (by omega))⟩, fun h1 => ?_⟩
 rw [show k = a.length by omega]
 exact filled_end a
abbrev toControl (a : Control) := a
def toControl_wp (a : Control) (Z : Control → Prop) : Prop :=
 Z a
theorem toControl_vc (a : Control) : toControl_wp a (fun y => y = toControl a) := rfl
abbrev toControlS (a : List Control) := a
abbrev toControlS_pre (a : List Control) : Prop := a.length ≤ 1048576
def toControlS_wp (a : List Control) (Z : (List Control) → Prop) : Prop :=
 ∀ len2 : Int, len2 = (a.length : Int) → (0 ≤ len2 ∧ len2 ≤ 1073741824) ∧ ∀ l5 : List Control, l5 = List.replicate len2.toNat default → loopW (σ := Int × (List Control)) (fun (i16, l17) K21 => ∀ len22 : Int, len22 = (a.length : Int) → ∀ c24 : Bool, c24 = decide (i16 < len22) → ((c24 = true → (0 ≤ i16 ∧ i16 < a.length) ∧ ∀ x27 : Control, x27 = at' a i16 → ∀ r29 : Control, r29 = toControl x27 → (0 ≤ i16 ∧ i16 < l17.length) ∧ ∀ x35 : Control, x35 = at' l17 i16 → ∀ l38 : List Control, l38 = l17.set i16.toNat r29 → (I64 (i16 + 1)) ∧ ∀ v45 : Int, v45 = i16 + 1 → K21 (v45, l38)) ∧ (c24 = false → Z l17))) (0, l5)
theorem toControlS_vc (a : List Control) (h : toControlS_pre a) : toControlS_wp a (fun y => y = toControlS a) := by
 unfold toControlS_wp
 simp only [toControlS_pre] at h
 simp only [forall_eq, Int.toNat_natCast]
 refine ⟨by omega, loopW.upL a.length (fun k out => out = filled a k) _ (filled_zero a).symm ?_⟩
 rintro k out K hk rfl IH
 have hl := filled_len hk
 simp only [decide_eq_true_eq, decide_eq_false_iff_not, I64, Int.toNat_natCast]
 refine ⟨fun h1 => ⟨by omega, by omega, by omega, IH (by omega) _ (filled_set (by omega))⟩, fun h1 => ?_⟩
 rw [show k = a.length by omega]
 exact filled_end a
abbrev toWire (a : Wire) := a
def toWire_wp (a : Wire) (Z : Wire → Prop) : Prop :=
 Z a
theorem toWire_vc (a : Wire) : toWire_wp a (fun y => y = toWire a) := rfl
abbrev toWireS (a : List Wire) := a
abbrev toWireS_pre (a : List Wire) : Prop := a.length ≤ 1048576
def toWireS_wp (a : List Wire) (Z : (List Wire) → Prop) : Prop :=
 ∀ len2 : Int, len2 = (a.length : Int) → (0 ≤ len2 ∧ len2 ≤ 1073741824) ∧ ∀ l5 : List Wire, l5 = List.replicate len2.toNat default → loopW (σ := Int × (List Wire)) (fun (i16, l17) K21 => ∀ len22 : Int, len22 = (a.length : Int) → ∀ c24 : Bool, c24 = decide (i16 < len22) → ((c24 = true → (0 ≤ i16 ∧ i16 < a.length) ∧ ∀ x27 : Wire, x27 = at' a i16 → ∀ r29 : Wire, r29 = toWire x27 → (0 ≤ i16 ∧ i16 < l17.length) ∧ ∀ x35 : Wire, x35 = at' l17 i16 → ∀ l38 : List Wire, l38 = l17.set i16.toNat r29 → (I64 (i16 + 1)) ∧ ∀ v45 : Int, v45 = i16 + 1 → K21 (v45, l38)) ∧ (c24 = false → Z l17))) (0, l5)
theorem toWireS_vc (a : List Wire) (h : toWireS_pre a) : toWireS_wp a (fun y => y = toWireS a) := by
 unfold toWireS_wp
 simp only [toWireS_pre] at h
 simp only [forall_eq, Int.toNat_natCast]
 refine ⟨by omega, loopW.upL a.length (fun k out => out = filled a k) _ (filled_zero a).symm ?_⟩
 rintro k out K hk rfl IH
 have hl := filled_len hk
 simp only [decide_eq_true_eq, decide_eq_false_iff_not, I64, Int.toNat_natCast]
 refine ⟨fun h1 => ⟨by omega, by omega, by omega, IH (by omega) _ (filled_set (by omega))⟩, fun h1 => ?_⟩
 rw [show k = a.length by omega]
 exact filled_end a
abbrev toNode (a : GNode) := a
abbrev toNode_pre (a : GNode) : Prop := a.links.length ≤ 1048576
def toNode_wp (a : GNode) (Z : GNode → Prop) : Prop :=
 (toIntS_pre a.links) ∧ ∀ r10 : List Int, r10 = toIntS a.links → Z (GNode.mk a.control a.parent r10)
theorem toNode_vc (a : GNode) (h : toNode_pre a) : toNode_wp a (fun y => y = toNode a) := by
 unfold toNode_wp
 exact ⟨h, by rintro _ rfl; rfl⟩
abbrev toNodeS (a : List GNode) := a
abbrev toNodeS_pre (a : List GNode) : Prop := a.length ≤ 1048576 ∧ ∀ x ∈ a, x.links.length ≤ 1048576
def toNodeS_wp (a : List GNode) (Z : (List GNode) → Prop) : Prop :=
 ∀ len2 : Int, len2 = (a.length : Int) → (0 ≤ len2 ∧ len2 ≤ 1073741824) ∧ ∀ l5 : List GNode, l5 = List.replicate len2.toNat default → loopW (σ := Int × (List GNode)) (fun (i16, l17) K21 => ∀ len22 : Int, len22 = (a.length : Int) → ∀ c24 : Bool, c24 = decide (i16 < len22) → ((c24 = true → (0 ≤ i16 ∧ i16 < a.length) ∧ ∀ x27 : GNode, x27 = at' a i16 → (toNode_pre x27) ∧ ∀ r30 : GNode, r30 = toNode x27 → (0 ≤ i16 ∧ i16 < l17.length) ∧ ∀ x44 : GNode, x44 = at' l17 i16 → ∀ l63 : List GNode, l63 = l17.set i16.toNat r30 → (I64 (i16 + 1)) ∧ ∀ v70 : Int, v70 = i16 + 1 → K21 (v70, l63)) ∧ (c24 = false → Z l17))) (0, l5)
theorem toNodeS_vc (a : List GNode) (h : toNodeS_pre a) : toNodeS_wp a (fun y => y = toNodeS a) := by
 unfold toNodeS_wp
 obtain ⟨h, h'⟩ := h
 simp only [forall_eq, Int.toNat_natCast]
 refine ⟨by omega, loopW.upL a.length (fun k out => out = filled a k) _ (filled_zero a).symm ?_⟩
 rintro k out K hk rfl IH
 have hl := filled_len hk
 simp only [decide_eq_true_eq, decide_eq_false_iff_not, I64, Int.toNat_natCast]
 refine ⟨fun h1 => ⟨by omega, ?_, by omega, by omega, IH (by omega) _ (filled_set (by omega))⟩, fun h1 => ?_⟩
 ·rw [at_lt (show k < a.length by omega)]
  exact h' _ (List.getElem_mem _)
 ·rw [show k = a.length by omega]
  exact filled_end a
abbrev toBigraph (a : Big) := a
abbrev toBigraph_pre (a : Big) : Prop := (a.nodes.length ≤ 1048576 ∧ ∀ x ∈ a.nodes, x.links.length ≤ 1048576) ∧ a.sites.length ≤ 1048576 ∧ a.outer.length ≤ 1048576 ∧ a.inner.length ≤ 1048576
def toBigraph_wp (a : Big) (Z : Big → Prop) : Prop :=
 (toNodeS_pre a.nodes) ∧ ∀ r9 : List GNode, r9 = toNodeS a.nodes → (toIntS_pre a.sites) ∧ ∀ r21 : List Int, r21 = toIntS a.sites → (toStringS_pre a.outer) ∧ ∀ r37 : List Str, r37 = toStringS a.outer → (toWireS_pre a.inner) ∧ ∀ r51 : List Wire, r51 = toWireS a.inner → Z (Big.mk a.roots r9 r21 a.edges r37 r51)
theorem toBigraph_vc (a : Big) (h : toBigraph_pre a) : toBigraph_wp a (fun y => y = toBigraph a) := by
 unfold toBigraph_wp
 simp only [forall_eq]
 exact ⟨h.1, h.2.1, h.2.2.1, h.2.2.2, trivial⟩
def markPre {α : Type} (g : α → Int → α) (c : Int) (l : List α) (k : Int) (i : Nat) : List α := l.mapIdx fun j x => if j < i then g x (k + c * j) else x
def markL {α : Type} (g : α → Int → α) (c : Int) (l : List α) (k : Int) : List α × Int := (markPre g c l k l.length, k + c * l.length)
section
variable {α : Type} (g : α → Int → α) (c : Int) (l : List α) (k : Int)
theorem markPre_zero : markPre g c l k 0 = l := by
 apply List.ext_getElem
 ·simp [markPre]
 ·intro j h1 h2
  simp [markPre]
theorem markPre_len (i : Nat) : (markPre g c l k i).length = l.length := by simp [markPre]
theorem markPre_set {i : Nat} (hi : i < l.length) : (markPre g c l k i).set i (g l[i] (k + c * i)) = markPre g c l k (i + 1) := by
 apply List.ext_getElem
 ·simp [markPre]
 ·intro j h1 h2
  simp only [List.getElem_set, markPre, List.getElem_mapIdx]
  by_cases hj : i = j
  ·subst hj
   simp
  ·rw [if_neg hj]
   by_cases h3 : j < i
   ·rw [if_pos h3, if_pos (by omega)]
   ·rw [if_neg h3, if_neg (by omega)]
end
def markTxt (k : Int) : Str := markTextL k.toNat
abbrev markTxt_pre (k : Int) : Prop := 0 ≤ k ∧ k ≤ 1152921504606846976
abbrev MarkOk (c n k : Int) : Prop := 0 ≤ k ∧ n ≤ 1048576 ∧ k + c * n ≤ 1152921504606846976
abbrev markIntS (l : List Int) (k : Int) := markL (fun _ k => k) 1 l k
abbrev markIntS_pre (l : List Int) (k : Int) : Prop := MarkOk 1 l.length k
def markIntS_wp (a : List Int) (k_ : Int) (Z : ((List Int) × Int) → Prop) : Prop :=
 loopW (σ := Int × Int × (List Int)) (fun (k10, i11, l12) K15 => ∀ len16 : Int, len16 = (l12.length : Int) → ∀ c18 : Bool, c18 = decide (i11 < len16) → ((c18 = true → (0 ≤ i11 ∧ i11 < l12.length) ∧ ∀ x25 : Int, x25 = at' l12 i11 → ∀ l28 : List Int, l28 = l12.set i11.toNat k10 → (I64 (k10 + 1)) ∧ ∀ v34 : Int, v34 = k10 + 1 → (I64 (i11 + 1)) ∧ ∀ v37 : Int, v37 = i11 + 1 → K15 (v34, v37, l28)) ∧ (c18 = false → Z (l12, k10)))) (k_, 0, a)
theorem markIntS_vc (l : List Int) (k : Int) (h : markIntS_pre l k) : markIntS_wp l k (fun y => y = markIntS l k) := by
 unfold markIntS_wp
 obtain ⟨h1, h2, h3⟩ := h
 refine loopW.up l.length (fun s => s.2.1) (fun i t => (k + 1 * i, (i : Int), t)) (fun _ _ => rfl) (fun i out => out = markPre (fun _ k => k) 1 l k i) l (by simp) (markPre_zero _ _ _ _).symm ?_
 rintro i out K hk rfl IH
 have hl := markPre_len (fun _ k => k) 1 l k i
 simp only [forall_eq, decide_eq_true_eq, decide_eq_false_iff_not, I64, Int.toNat_natCast]
 refine ⟨fun h4 => ⟨by omega, by omega, by omega, ?_⟩, fun h4 => ?_⟩
 ·have hi : i < l.length := by omega
  have := IH hi _ rfl
  rw [← markPre_set _ _ _ _ hi] at this
  rw [show k + 1 * (((i + 1 : Nat)) : Int) = k + 1 * i + 1 by omega] at this
  simpa using this
 ·rw [show i = l.length by omega]
  rfl
abbrev markStringS (l : List Str) (k : Int) := markL (fun _ k => markTxt k) 1 l k
abbrev markStringS_pre (l : List Str) (k : Int) : Prop := MarkOk 1 l.length k
def markStringS_wp (a : List Str) (k_ : Int) (Z : ((List Str) × Int) → Prop) : Prop :=
 loopW (σ := Int × Int × (List Str)) (fun (k10, i11, l12) K15 => ∀ len16 : Int, len16 = (l12.length : Int) → ∀ c18 : Bool, c18 = decide (i11 < len16) → ((c18 = true → (markTxt_pre k10) ∧ ∀ r21 : Str, r21 = markTxt k10 → (0 ≤ i11 ∧ i11 < l12.length) ∧ ∀ x27 : Str, x27 = at' l12 i11 → ∀ l30 : List Str, l30 = l12.set i11.toNat r21 → (I64 (k10 + 1)) ∧ ∀ v36 : Int, v36 = k10 + 1 → (I64 (i11 + 1)) ∧ ∀ v39 : Int, v39 = i11 + 1 → K15 (v36, v39, l30)) ∧ (c18 = false → Z (l12, k10)))) (k_, 0, a)
theorem markStringS_vc (l : List Str) (k : Int) (h : markStringS_pre l k) : markStringS_wp l k (fun y => y = markStringS l k) := by
 unfold markStringS_wp
 obtain ⟨h1, h2, h3⟩ := h
 refine loopW.up l.length (fun s => s.2.1) (fun i t => (k + 1 * i, (i : Int), t)) (fun _ _ => rfl) (fun i out => out = markPre (fun _ k => markTxt k) 1 l k i) l (by simp) (markPre_zero _ _ _ _).symm ?_
 rintro i out K hk rfl IH
 have hl := markPre_len (fun _ k => markTxt k) 1 l k i
 simp only [forall_eq, decide_eq_true_eq, decide_eq_false_iff_not, I64, Int.toNat_natCast]
 refine ⟨fun h4 => ⟨by simp only [markTxt_pre]; omega, by omega, by omega, by omega, ?_⟩, fun h4 => ?_⟩
 ·have hi : i < l.length := by omega
  have := IH hi _ rfl
  rw [← markPre_set _ _ _ _ hi] at this
  rw [show k + 1 * (((i + 1 : Nat)) : Int) = k + 1 * i + 1 by omega] at this
  simpa using this
 ·rw [show i = l.length by omega]
  rfl
theorem at_set {α : Type} [Inhabited α] {l : List α} {i : Nat} {x : α} (hi : i < l.length) : at' (l.set i x) (i : Int) = x := by
 rw [at_lt (by simpa using hi)]
 simp
abbrev markWireS (l : List Wire) (k : Int) := markL (fun _ k => (⟨markTxt k, k + 1⟩ : Wire)) 2 l k
abbrev markWireS_pre (l : List Wire) (k : Int) : Prop := MarkOk 2 l.length k
def markWireS_wp (a : List Wire) (k_ : Int) (Z : ((List Wire) × Int) → Prop) : Prop :=
 loopW (σ := Int × Int × (List Wire)) (fun (k10, i11, l12) K15 => ∀ len16 : Int, len16 = (l12.length : Int) → ∀ c18 : Bool, c18 = decide (i11 < len16) → ((c18 = true → (markTxt_pre k10) ∧ ∀ r21 : Str, r21 = markTxt k10 → (0 ≤ i11 ∧ i11 < l12.length) ∧ ∀ x27 : Wire, x27 = at' l12 i11 → ∀ l30 : List Wire, l30 = l12.set i11.toNat (Wire.mk r21 x27.link) → (I64 (k10 + 1)) ∧ ∀ v36 : Int, v36 = k10 + 1 → (0 ≤ i11 ∧ i11 < l30.length) ∧ ∀ x44 : Wire, x44 = at' l30 i11 → ∀ l47 : List Wire, l47 = l30.set i11.toNat (Wire.mk x44.name v36) → (I64 (v36 + 1)) ∧ ∀ v53 : Int, v53 = v36 + 1 → (I64 (i11 + 1)) ∧ ∀ v56 : Int, v56 = i11 + 1 → K15 (v53, v56, l47)) ∧ (c18 = false → Z (l12, k10)))) (k_, 0, a)
theorem markWireS_vc (l : List Wire) (k : Int) (h : markWireS_pre l k) : markWireS_wp l k (fun y => y = markWireS l k) := by
 unfold markWireS_wp
 obtain ⟨h1, h2, h3⟩ := h
 refine loopW.up l.length (fun s => s.2.1) (fun i t => (k + 2 * i, (i : Int), t)) (fun _ _ => rfl) (fun i out => out = markPre (fun _ k => (⟨markTxt k, k + 1⟩ : Wire)) 2 l k i) l (by simp) (markPre_zero _ _ _ _).symm ?_
 rintro i out K hk rfl IH
 have hl := markPre_len (fun _ k => (⟨markTxt k, k + 1⟩ : Wire)) 2 l k i
 simp only [forall_eq, decide_eq_true_eq, decide_eq_false_iff_not, I64, Int.toNat_natCast, List.length_set]
 refine ⟨fun h4 => ⟨by simp only [markTxt_pre]; omega, by omega, by omega, by omega, by omega, by omega, ?_⟩, fun h4 => ?_⟩
 ·have hi : i < l.length := by omega
  rw [at_set (by rw [hl]; exact hi), List.set_set]
  have := IH hi _ rfl
  rw [← markPre_set _ _ _ _ hi] at this
  rw [show k + 2 * (((i + 1 : Nat)) : Int) = k + 2 * i + 1 + 1 by omega] at this
  simpa using this
 ·rw [show i = l.length by omega]
  rfl
abbrev markControlS (l : List Control) (k : Int) := markL (fun _ k => (⟨markTxt k, k + 1, k + 1 + 1⟩ : Control)) 3 l k
abbrev markControlS_pre (l : List Control) (k : Int) : Prop := MarkOk 3 l.length k
def markControlS_wp (a : List Control) (k_ : Int) (Z : ((List Control) × Int) → Prop) : Prop :=
 loopW (σ := Int × Int × (List Control)) (fun (k10, i11, l12) K15 => ∀ len16 : Int, len16 = (l12.length : Int) → ∀ c18 : Bool, c18 = decide (i11 < len16) → ((c18 = true → (markTxt_pre k10) ∧ ∀ r21 : Str, r21 = markTxt k10 → (0 ≤ i11 ∧ i11 < l12.length) ∧ ∀ x27 : Control, x27 = at' l12 i11 → ∀ l30 : List Control, l30 = l12.set i11.toNat (Control.mk r21 x27.ports x27.kind) → (I64 (k10 + 1)) ∧ ∀ v36 : Int, v36 = k10 + 1 → (0 ≤ i11 ∧ i11 < l30.length) ∧ ∀ x44 : Control, x44 = at' l30 i11 → ∀ l47 : List Control, l47 = l30.set i11.toNat (Control.mk x44.name v36 x44.kind) → (I64 (v36 + 1)) ∧ ∀ v53 : Int, v53 = v36 + 1 → (0 ≤ i11 ∧ i11 < l47.length) ∧ ∀ x61 : Control, x61 = at' l47 i11 → ∀ l64 : List Control, l64 = l47.set i11.toNat (Control.mk x61.name x61.ports v53) → (I64 (v53 + 1)) ∧ ∀ v70 : Int, v70 = v53 + 1 → (I64 (i11 + 1)) ∧ ∀ v73 : Int, v73 = i11 + 1 → K15 (v70, v73, l64)) ∧ (c18 = false → Z (l12, k10)))) (k_, 0, a)
theorem markControlS_vc (l : List Control) (k : Int) (h : markControlS_pre l k) : markControlS_wp l k (fun y => y = markControlS l k) := by
 unfold markControlS_wp
 obtain ⟨h1, h2, h3⟩ := h
 refine loopW.up l.length (fun s => s.2.1) (fun i t => (k + 3 * i, (i : Int), t)) (fun _ _ => rfl) (fun i out => out = markPre (fun _ k => (⟨markTxt k, k + 1, k + 1 + 1⟩ : Control)) 3 l k i) l (by simp) (markPre_zero _ _ _ _).symm ?_
 rintro i out K hk rfl IH
 have hl := markPre_len (fun _ k => (⟨markTxt k, k + 1, k + 1 + 1⟩ : Control)) 3 l k i
 simp only [forall_eq, decide_eq_true_eq, decide_eq_false_iff_not, I64, Int.toNat_natCast, List.length_set]
 refine ⟨fun h4 => ⟨by simp only [markTxt_pre]; omega, by omega, by omega, by omega, by omega, by omega, by omega, by omega, ?_⟩, fun h4 => ?_⟩
 ·have hi : i < l.length := by omega
  rw [at_set (by rw [hl]; exact hi), List.set_set, at_set (by simp only [List.length_set, hl]; exact hi), List.set_set]
  have := IH hi _ rfl
  rw [← markPre_set _ _ _ _ hi] at this
  rw [show k + 3 * (((i + 1 : Nat)) : Int) = k + 3 * i + 1 + 1 + 1 by omega] at this
  simpa using this
 ·rw [show i = l.length by omega]
  rfl
def heldIntS (l : List Int) (k : Int) : Int := if (List.range l.length).all (fun i => decide (at' l (i : Int) = k + i)) then k + l.length else -1
abbrev heldIntS_pre (l : List Int) (k : Int) : Prop := MarkOk 1 l.length k
def heldIntS_wp (a : List Int) (k_ : Int) (Z : Int → Prop) : Prop :=
 loopW (σ := Int × Int) (fun (k5, i6) K9 => ∀ len10 : Int, len10 = (a.length : Int) → ∀ c12 : Bool, c12 = decide (i6 < len10) → ((c12 = true → (0 ≤ i6 ∧ i6 < a.length) ∧ ∀ x15 : Int, x15 = at' a i6 → ∀ c17 : Bool, c17 = decide (x15 ≠ k5) → ((c17 = true → Z (-1)) ∧ (c17 = false → (I64 (k5 + 1)) ∧ ∀ v20 : Int, v20 = k5 + 1 → (I64 (i6 + 1)) ∧ ∀ v23 : Int, v23 = i6 + 1 → K9 (v20, v23)))) ∧ (c12 = false → Z k5))) (k_, 0)
theorem heldIntS_vc (l : List Int) (k : Int) (h : heldIntS_pre l k) : heldIntS_wp l k (fun y => y = heldIntS l k) := by
 unfold heldIntS_wp
 obtain ⟨h1, h2, h3⟩ := h
 refine loopW.up (τ := Unit) l.length (fun s => s.2) (fun i _ => (k + i, (i : Int))) (fun _ _ => rfl) (fun i _ => ∀ j < i, at' l (j : Int) = k + j) () (by simp) (by simp) ?_
 rintro i _ K hk hI IH
 simp only [forall_eq, decide_eq_true_eq, decide_eq_false_iff_not, I64]
 refine ⟨fun h4 => ⟨by omega, fun h5 => ?_, fun h5 => ⟨by omega, by omega, ?_⟩⟩, fun h4 => ?_⟩
 ·rw [heldIntS, if_neg]
  rw [List.all_eq_true]
  intro h6
  exact h5 (by simpa using h6 i (List.mem_range.2 (by omega)))
 ·have := IH (by omega) () (fun j hj => by
   rcases Nat.lt_or_ge j i with h6 | h6
   ·exact hI j h6
   ·rw [show j = i by omega]; omega)
  simpa [show k + ((i : Int) + 1) = k + i + 1 by omega] using this
 ·have hi : i = l.length := by omega
  rw [heldIntS, if_pos, hi]
  rw [List.all_eq_true]
  intro j hj
  simpa using hI j (by have := List.mem_range.1 hj; omega)
theorem held_mark (l : List Int) (k : Int) : heldIntS (markIntS l k).1 k = (markIntS l k).2 := by
 have hl : (markIntS l k).1.length = l.length := by simp [markIntS, markL, markPre_len]
 rw [heldIntS, if_pos, hl]
 ·simp [markIntS, markL]
 ·rw [List.all_eq_true]
  intro j hj
  have hj := List.mem_range.1 hj
  rw [at_lt hj]
  rw [hl] at hj
  simp [markIntS, markL, markPre, hj]
theorem marked_len {α : Type} (g : α → Int → α) (c : Int) (l : List α) (k : Int) : (markL g c l k).1.length = l.length := by simp [markL, markPre_len]
end Go.Ab.Vg
/- Marks on nodes and bigraphs, told. -/
namespace Go.Ab.Vg
set_option linter.unusedSimpArgs false
set_option linter.unusedVariables false
section
variable {α : Type} (m : α → Int → α × Int)
def markSeq : List α → Int → List α × Int
 | [], k => ([], k)
 | x :: l, k => ((m x k).1 :: (markSeq l (m x k).2).1, (markSeq l (m x k).2).2)
theorem markSeq_append (l1 l2 : List α) (k : Int) : markSeq m (l1 ++ l2) k = ((markSeq m l1 k).1 ++ (markSeq m l2 (markSeq m l1 k).2).1, (markSeq m l2 (markSeq m l1 k).2).2) := by
 induction l1 generalizing k with
 | nil => rfl
 | cons x l ih => simp [markSeq, ih]
theorem markSeq_len (l : List α) (k : Int) : (markSeq m l k).1.length = l.length := by
 induction l generalizing k with
 | nil => rfl
 | cons x l ih => simp [markSeq, ih]
def markTo (l : List α) (k : Int) (i : Nat) : List α := (markSeq m (l.take i) k).1 ++ l.drop i
def markAt (l : List α) (k : Int) (i : Nat) : Int := (markSeq m (l.take i) k).2
theorem markTo_zero (l : List α) (k : Int) : markTo m l k 0 = l := by simp [markTo, markSeq]
theorem markTo_end (l : List α) (k : Int) : markTo m l k l.length = (markSeq m l k).1 := by simp [markTo]
theorem markAt_end (l : List α) (k : Int) : markAt m l k l.length = (markSeq m l k).2 := by simp [markAt]
theorem markTo_len (l : List α) (k : Int) (i : Nat) : (markTo m l k i).length = l.length := by
 simp only [markTo, List.length_append, markSeq_len, List.length_take, List.length_drop]; omega
theorem markTo_get [Inhabited α] {l : List α} {k : Int} {i : Nat} (hi : i < l.length) : at' (markTo m l k i) (i : Int) = l[i] := by
 rw [at_lt (by rw [markTo_len]; exact hi)]
 have hl : (markSeq m (l.take i) k).1.length = i := by rw [markSeq_len]; simp; omega
 simp only [markTo]
 rw [List.getElem_append_right (by omega)]
 simp [hl]
theorem markTo_set {l : List α} {k : Int} {i : Nat} (hi : i < l.length) : (markTo m l k i).set i (m l[i] (markAt m l k i)).1 = markTo m l k (i + 1) := by
 have hl : (markSeq m (l.take i) k).1.length = i := by rw [markSeq_len]; simp; omega
 simp only [markTo, markAt]
 rw [List.set_append_right _ _ (by omega), hl, Nat.sub_self, List.take_succ_eq_append_getElem hi, markSeq_append, List.drop_eq_getElem_cons hi]
 simp only [List.set_cons_zero, markSeq, List.append_assoc, List.cons_append, List.nil_append]
theorem markAt_succ {l : List α} {k : Int} {i : Nat} (hi : i < l.length) : markAt m l k (i + 1) = (m l[i] (markAt m l k i)).2 := by
 simp only [markAt]
 rw [List.take_succ_eq_append_getElem hi, markSeq_append]
 simp [markSeq]
theorem markAt_size {sz : α → Nat} (hm : ∀ x k, (m x k).2 = k + sz x) (l : List α) (k : Int) (i : Nat) : markAt m l k i = k + ((l.take i).map sz).sum := by
 have : ∀ (l : List α) (k : Int), (markSeq m l k).2 = k + (l.map sz).sum := by
  intro l
  induction l with
  | nil => intro k; simp [markSeq]
  | cons x l ih => intro k; simp only [markSeq, ih, hm, List.map_cons, List.sum_cons]; omega
 exact this _ _
theorem sum_take_le {f : α → Nat} (l : List α) (i : Nat) : ((l.take i).map f).sum ≤ (l.map f).sum := by
 have : l.map f = (l.take i).map f ++ (l.drop i).map f := by rw [← List.map_append, List.take_append_drop]
 rw [this, List.sum_append]; omega
end
def nodeMark (x : GNode) (k : Int) : GNode × Int := (GNode.mk k (k + 1) (markIntS x.links (k + 2)).1, (markIntS x.links (k + 2)).2)
def nodeSize (x : GNode) : Nat := x.links.length + 2
theorem nodeMark_size (x : GNode) (k : Int) : (nodeMark x k).2 = k + nodeSize x := by simp [nodeMark, nodeSize, markIntS, markL]; omega
abbrev markNodeS (l : List GNode) (k : Int) := markSeq nodeMark l k
abbrev markNodeS_pre (l : List GNode) (k : Int) : Prop := 0 ≤ k ∧ l.length ≤ 1048576 ∧ (∀ x ∈ l, x.links.length ≤ 1048576) ∧ k + (l.map nodeSize).sum ≤ 1152921504606846976
def markNodeS_wp (a : List GNode) (k_ : Int) (Z : ((List GNode) × Int) → Prop) : Prop :=
 loopW (σ := Int × Int × (List GNode)) (fun (k10, i11, l12) K15 => ∀ len16 : Int, len16 = (l12.length : Int) → ∀ c18 : Bool, c18 = decide (i11 < len16) → ((c18 = true → (0 ≤ i11 ∧ i11 < l12.length) ∧ ∀ x21 : GNode, x21 = at' l12 i11 → ∀ l40 : List GNode, l40 = l12.set i11.toNat (GNode.mk k10 x21.parent x21.links) → (I64 (k10 + 1)) ∧ ∀ v46 : Int, v46 = k10 + 1 → (0 ≤ i11 ∧ i11 < l40.length) ∧ ∀ x49 : GNode, x49 = at' l40 i11 → ∀ l69 : List GNode, l69 = l40.set i11.toNat (GNode.mk x49.control v46 x49.links) → (I64 (v46 + 1)) ∧ ∀ v75 : Int, v75 = v46 + 1 → (0 ≤ i11 ∧ i11 < l69.length) ∧ ∀ x78 : GNode, x78 = at' l69 i11 → (markIntS_pre x78.links v75) ∧ ∀ r99 : (List Int) × Int, r99 = markIntS x78.links v75 → ∀ l105 : List GNode, l105 = l69.set i11.toNat (GNode.mk x78.control x78.parent r99.1) → (I64 (i11 + 1)) ∧ ∀ v109 : Int, v109 = i11 + 1 → K15 (r99.2, v109, l105)) ∧ (c18 = false → Z (l12, k10)))) (k_, 0, a)
theorem markNodeS_vc (l : List GNode) (k : Int) (h : markNodeS_pre l k) : markNodeS_wp l k (fun y => y = markNodeS l k) := by
 unfold markNodeS_wp
 obtain ⟨h0, h1, h2, h3⟩ := h
 refine loopW.up l.length (fun s => s.2.1) (fun i t => (markAt nodeMark l k i, (i : Int), t)) (fun _ _ => rfl) (fun i out => out = markTo nodeMark l k i) l (by simp [markAt, markSeq]) (markTo_zero _ _ _).symm ?_
 rintro i out K hk rfl IH
 have hl := markTo_len nodeMark l k i
 have hs := markAt_size nodeMark nodeMark_size l k i
 have hs2 := sum_take_le (f := nodeSize) l i
 simp only [forall_eq, decide_eq_true_eq, decide_eq_false_iff_not, I64, Int.toNat_natCast, List.length_set]
 refine ⟨fun h4 => ?_, fun h4 => ?_⟩
 ·have hi : i < l.length := by omega
  have hs3 := markAt_size nodeMark nodeMark_size l k (i + 1)
  have hs4 := sum_take_le (f := nodeSize) l (i + 1)
  have hs5 := markAt_succ nodeMark (k := k) hi
  rw [nodeMark_size] at hs5
  have hz : nodeSize l[i] = l[i].links.length + 2 := rfl
  have hn := h2 _ (List.getElem_mem hi)
  simp only [markTo_get nodeMark hi, List.set_set, at_set (show i < (markTo nodeMark l k i).length by omega)]
  refine ⟨by omega, by omega, by omega, by omega, by omega, ⟨by omega, by omega, by omega⟩, by omega, ?_⟩
  have := IH hi _ rfl
  rw [← markTo_set _ hi, markAt_succ _ hi] at this
  have e2 : markAt nodeMark l k i + 1 + 1 = markAt nodeMark l k i + 2 := by omega
  rw [e2]
  simpa [nodeMark] using this
 ·rw [show i = l.length by omega, markTo_end, markAt_end]
def markBig (b : Big) (k : Int) : Big × Int :=
 let n := markNodeS b.nodes k
 let s := markIntS b.sites n.2
 let o := markStringS b.outer s.2
 let i := markWireS b.inner o.2
 (Big.mk b.roots n.1 s.1 b.edges o.1 i.1, i.2)
def bigSize (b : Big) : Nat := (b.nodes.map nodeSize).sum + b.sites.length + b.outer.length + 2 * b.inner.length
abbrev markBig_pre (b : Big) (k : Int) : Prop := 0 ≤ k ∧ b.nodes.length ≤ 1048576 ∧ (∀ x ∈ b.nodes, x.links.length ≤ 1048576) ∧ b.sites.length ≤ 1048576 ∧ b.outer.length ≤ 1048576 ∧ b.inner.length ≤ 1048576 ∧ k + bigSize b ≤ 1152921504606846976
def markBig_wp (a : Big) (k_ : Int) (Z : (Big × Int) → Prop) : Prop :=
 (markNodeS_pre a.nodes k_) ∧ ∀ r13 : (List GNode) × Int, r13 = markNodeS a.nodes k_ → (markIntS_pre a.sites r13.2) ∧ ∀ r22 : (List Int) × Int, r22 = markIntS a.sites r13.2 → (markStringS_pre a.outer r22.2) ∧ ∀ r31 : (List Str) × Int, r31 = markStringS a.outer r22.2 → (markWireS_pre a.inner r31.2) ∧ ∀ r40 : (List Wire) × Int, r40 = markWireS a.inner r31.2 → Z ((Big.mk a.roots r13.1 r22.1 a.edges r31.1 r40.1), r40.2)
theorem markNodeS_size (l : List GNode) (k : Int) : (markNodeS l k).2 = k + (l.map nodeSize).sum := by
 have := markAt_size nodeMark nodeMark_size l k l.length
 rwa [markAt_end, List.take_length] at this
theorem markBig_vc (b : Big) (k : Int) (h : markBig_pre b k) : markBig_wp b k (fun y => y = markBig b k) := by
 unfold markBig_wp
 obtain ⟨h0, h1, h2, h3, h4, h5, h6⟩ := h
 have hb : bigSize b = (b.nodes.map nodeSize).sum + b.sites.length + b.outer.length + 2 * b.inner.length := rfl
 have hn := markNodeS_size b.nodes k
 simp only [forall_eq]
 refine ⟨⟨h0, h1, h2, by omega⟩, ⟨by omega, by omega, by omega⟩, ⟨?_, by omega, ?_⟩, ⟨?_, by omega, ?_⟩, rfl⟩
 all_goals simp only [markL, hn]; omega
end Go.Ab.Vg
