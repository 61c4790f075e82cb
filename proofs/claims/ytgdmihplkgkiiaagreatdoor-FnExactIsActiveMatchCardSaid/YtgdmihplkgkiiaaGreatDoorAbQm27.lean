/- Merged texts (7 of 15) of the proof that ends in M2y: Mb Mc Uj Uk Lm Nm Gm Gn Go Wb Wc Y. -/
import Derived.Test.YtgdmihplkgkiiaaGreatDoorAbQm26
import Derived.Laws.BytesString
/- Matches: pure conditions of the functions of program and reference. -/
namespace Go.Ab.Vg
set_option linter.unusedSimpArgs false
set_option linter.unusedVariables false
def hasI (l : List Int) (x : Int) : Bool := l.any fun y => x == y
theorem hasI_iff {l : List Int} {x : Int} : hasI l x = true ↔ x ∈ l := by simp [hasI]
theorem hasI_no {l : List Int} {x : Int} : hasI l x = false ↔ x ∉ l := by rw [← hasI_iff]; simp
def underF (b : Big) (nodes : List Int) : Nat → Int → Bool
  | 0, _ => false
  | m + 1, p => if p < 0 then false else if p ∈ nodes then true else underF b nodes m (at' b.nodes p).parent
/-- A place is one of some nodes, or under one. -/
def underB (b : Big) (nodes : List Int) (p : Int) : Bool := underF b nodes (p + 1).toNat p
theorem underF_fuel {b : Big} (hd : ∀ i : Int, 0 ≤ i → i < b.nodes.length → (at' b.nodes i).parent < i) (nodes : List Int) : ∀ (m m' : Nat) (p : Int), p < b.nodes.length → p + 1 ≤ m → p + 1 ≤ m' → underF b nodes m p = underF b nodes m' p
  | 0, 0, _, _, _, _ => rfl
  | 0, m' + 1, p, _, h, _ => by rw [underF, underF, if_pos (by omega)]
  | m + 1, 0, p, _, _, h => by rw [underF, underF, if_pos (by omega)]
  | m + 1, m' + 1, p, h, h1, h2 => by
    rw [underF, underF]
    split
    · rfl
    · split
      · rfl
      · have := hd p (by omega) h
        exact underF_fuel hd nodes m m' _ (by omega) (by omega) (by omega)
theorem underB_neg {b : Big} {nodes : List Int} {p : Int} (h : p < 0) : underB b nodes p = false := by
  rw [underB, show (p + 1).toNat = 0 by omega]; rfl
theorem underB_in {b : Big} {nodes : List Int} {p : Int} (h : 0 ≤ p) (hm : p ∈ nodes) : underB b nodes p = true := by
  rw [underB, show (p + 1).toNat = p.toNat + 1 by omega, underF, if_neg (by omega), if_pos hm]
theorem underB_up {b : Big} (hd : ∀ i : Int, 0 ≤ i → i < b.nodes.length → (at' b.nodes i).parent < i) {nodes : List Int} {p : Int} (h : 0 ≤ p) (hl : p < b.nodes.length) (hm : p ∉ nodes) : underB b nodes p = underB b nodes (at' b.nodes p).parent := by
  have := hd p h hl
  rw [underB, show (p + 1).toNat = p.toNat + 1 by omega, underF, if_neg (by omega), if_neg hm, underB]
  exact underF_fuel hd nodes _ _ _ (by omega) (by omega) (by omega)
abbrev DownB (b : Big) : Prop := b.nodes.length ≤ 1048576 ∧ ∀ i : Int, 0 ≤ i → i < b.nodes.length → (at' b.nodes i).parent < i
theorem ValidB.downB {sig : Sig} {b : Big} (h : ValidB sig b) : DownB b := ⟨by have := h.len; omega, fun i h0 h1 => (h.parAt ⟨h0, h1⟩).2⟩
abbrev isUnder_pre (b : Big) (p : Int) (nodes : List Int) : Prop := DownB b ∧ p < b.nodes.length ∧ nodes.length ≤ 1048576
abbrev isUnder (b : Big) (p : Int) (nodes : List Int) : Bool := underB b nodes p
def isUnder_wp (b : Big) (place : Int) (nodes : List Int) (Z : Bool → Prop) : Prop :=
  loopW (σ := Int) (fun placeV6 K9 => ∀ c10 : Bool, c10 = decide (0 ≤ placeV6) → ((c10 = true → (nodes.length ≤ 1048576) ∧ ∀ r13 : Bool, r13 = hasI nodes placeV6 → ((r13 = true → Z true) ∧ (r13 = false → (0 ≤ placeV6 ∧ placeV6 < b.nodes.length) ∧ ∀ x15 : GNode, x15 = at' b.nodes placeV6 → K9 (x15.parent)))) ∧ (c10 = false → Z false))) (place)
theorem isUnder_vc (b : Big) (p : Int) (nodes : List Int) (h : isUnder_pre b p nodes) : isUnder_wp b p nodes (fun y => y = isUnder b p nodes) := by
  unfold isUnder_wp
  obtain ⟨⟨hn, hd⟩, hp, hl⟩ := h
  simp only [forall_eq, decide_eq_true_eq, decide_eq_false_iff_not]
  refine loopW.byM (fun q => q < b.nodes.length ∧ underB b nodes q = underB b nodes p) (fun q => (q + 1).toNat) ⟨hp, rfl⟩ ?_
  rintro q ⟨h1, h2⟩
  refine ⟨fun h3 => ⟨hl, fun h4 => ?_, fun h4 => ⟨⟨h3, h1⟩, ⟨?_, ?_⟩, ?_⟩⟩, fun h3 => ?_⟩
  · rw [isUnder, ← h2, underB_in h3 (hasI_iff.1 h4)]
  · have := hd q h3 h1; omega
  · rw [← h2, underB_up hd h3 h1 (hasI_no.1 h4)]
  · have := hd q h3 h1; omega
  · rw [isUnder, ← h2, underB_neg (by omega)]
abbrev l8Inside_pre (b : Big) (m : Match) (p : Int) : Prop := DownB b ∧ p < b.nodes.length ∧ m.nodes.length ≤ 1048576
abbrev l8Inside (b : Big) (m : Match) (p : Int) : Bool := underB b m.nodes p
def l8Inside_wp (agent : Big) (m : Match) (place : Int) (Z : Bool → Prop) : Prop :=
  loopW (σ := Int) (fun placeV7 K10 => ∀ c11 : Bool, c11 = decide (0 ≤ placeV7) → ((c11 = true → (m.nodes.length ≤ 1048576) ∧ ∀ r14 : Bool, r14 = hasI m.nodes placeV7 → ((r14 = true → Z true) ∧ (r14 = false → (0 ≤ placeV7 ∧ placeV7 < agent.nodes.length) ∧ ∀ x16 : GNode, x16 = at' agent.nodes placeV7 → K10 (x16.parent)))) ∧ (c11 = false → Z false))) (place)
theorem l8Inside_vc (b : Big) (m : Match) (p : Int) (h : l8Inside_pre b m p) : l8Inside_wp b m p (fun y => y = l8Inside b m p) := by
  unfold l8Inside_wp
  obtain ⟨⟨hn, hd⟩, hp, hl⟩ := h
  simp only [forall_eq, decide_eq_true_eq, decide_eq_false_iff_not]
  refine loopW.byM (fun q => q < b.nodes.length ∧ underB b m.nodes q = underB b m.nodes p) (fun q => (q + 1).toNat) ⟨hp, rfl⟩ ?_
  rintro q ⟨h1, h2⟩
  refine ⟨fun h3 => ⟨hl, fun h4 => ?_, fun h4 => ⟨⟨h3, h1⟩, ⟨?_, ?_⟩, ?_⟩⟩, fun h3 => ?_⟩
  · rw [l8Inside, ← h2, underB_in h3 (hasI_iff.1 h4)]
  · have := hd q h3 h1; omega
  · rw [← h2, underB_up hd h3 h1 (hasI_no.1 h4)]
  · have := hd q h3 h1; omega
  · rw [l8Inside, ← h2, underB_neg (by omega)]
/-- Where a port of the redex lies in the agent. -/
def imgAt (agent : Big) (nodes : List Int) (p : Int × Int) : Int := at' (at' agent.nodes (at' nodes p.1)).links p.2
def firstOf (agent : Big) (nodes : List Int) (l : List (Int × Int)) : Int := match l with | [] => -1 | p :: _ => imgAt agent nodes p
abbrev firstL (redex agent : Big) (nodes : List Int) (l : Int) : Int := firstOf agent nodes (portsB redex l)
def LinkOk (redex agent : Big) (nodes : List Int) (l : Int) : Prop := (∀ p ∈ portsB redex l, imgAt agent nodes p = firstL redex agent nodes l) ∧ (l < redex.edges → firstL redex agent nodes l < agent.edges ∧ (portsB agent (firstL redex agent nodes l)).length = (portsB redex l).length)
def LinksP (redex agent : Big) (nodes : List Int) : Prop := ∀ l : Int, 0 ≤ l → l < redex.edges + redex.outer.length → LinkOk redex agent nodes l
open Classical in
noncomputable def linksR (redex agent : Big) (nodes : List Int) : List Int × Bool :=
  if LinksP redex agent nodes then ((List.range (redex.edges + redex.outer.length).toNat).map fun l : Nat => firstL redex agent nodes (l : Int), true) else ([], false)
/-- An image of a node has its control and its parent, and its children are images if the node has no site. -/
def parentImg (redex : Big) (m : Match) (k : Int) : Int := if 0 ≤ (at' redex.nodes k).parent then at' m.nodes (at' redex.nodes k).parent else at' m.roots (-1 - (at' redex.nodes k).parent)
def ImgOk (redex agent : Big) (m : Match) (k : Int) : Prop :=
  (at' agent.nodes (at' m.nodes k)).control = (at' redex.nodes k).control ∧ (at' agent.nodes (at' m.nodes k)).parent = parentImg redex m k ∧ ((holesB redex k).length = 0 → ∀ c ∈ kidsB agent (at' m.nodes k), c ∈ m.nodes)
def NodesOk (redex agent : Big) (nodes : List Int) : Prop := nodes.length = redex.nodes.length ∧ ∀ i : Nat, i < nodes.length → isNodeB agent (at' nodes (i : Int)) = true ∧ at' nodes (i : Int) ∉ nodes.take i
def RootsOk (redex agent : Big) (m : Match) : Prop := (m.roots.length : Int) = redex.roots ∧ ∀ p ∈ m.roots, -agent.roots ≤ p ∧ p < agent.nodes.length ∧ underB agent m.nodes p = false
def MatchP (redex agent : Big) (m : Match) : Prop := NodesOk redex agent m.nodes ∧ RootsOk redex agent m ∧ (∀ k : Nat, k < redex.nodes.length → ImgOk redex agent m (k : Int)) ∧ LinksP redex agent m.nodes
open Classical in
noncomputable def matchB (redex agent : Big) (m : Match) : Bool := decide (MatchP redex agent m)
theorem matchB_iff {redex agent : Big} {m : Match} : matchB redex agent m = true ↔ MatchP redex agent m := by simp [matchB]
theorem matchB_no {redex agent : Big} {m : Match} (h : ¬ MatchP redex agent m) : matchB redex agent m = false := by simp [matchB, h]
abbrev MSz (m : Match) : Prop := m.nodes.length ≤ 1048576 ∧ m.roots.length ≤ 1048576
/-- What the functions about a redex, an agent and images may take for granted. -/
structure Pair (sig : Sig) (redex agent : Big) : Prop where
  r : ValidB sig redex
  a : ValidB sig agent
  red : RedexP redex
def areImages1_wp (c : Int) (v_ : Match) (Z : Bool → Prop) : Prop :=
  (v_.nodes.length ≤ 1048576) ∧ ∀ r3 : Bool, r3 = hasI v_.nodes c → Z (!r3)
abbrev areImages1 (c : Int) (m : Match) : Bool := !(hasI m.nodes c)
abbrev areImages1_pre (c : Int) (m : Match) : Prop := m.nodes.length ≤ 1048576
theorem areImages1_vc (c : Int) (m : Match) (h : areImages1_pre c m) : areImages1_wp c m (fun y => y = areImages1 c m) := by
  unfold areImages1_wp
  exact ⟨h, by rintro _ rfl; rfl⟩
def ImgsOk (redex agent : Big) (m : Match) : Prop := ∀ k : Nat, k < redex.nodes.length → ImgOk redex agent m (k : Int)
open Classical in
noncomputable def areImages (redex agent : Big) (m : Match) : Bool := decide (ImgsOk redex agent m)
theorem areImages_no {redex agent : Big} {m : Match} (h : ¬ ImgsOk redex agent m) : areImages redex agent m = false := by simp [areImages, h]
theorem areImages_yes {redex agent : Big} {m : Match} (h : ImgsOk redex agent m) : areImages redex agent m = true := by simp [areImages, h]
theorem areImages_iff {redex agent : Big} {m : Match} : areImages redex agent m = true ↔ ImgsOk redex agent m := by simp [areImages]
abbrev InNodes (agent : Big) (nodes : List Int) (n : Nat) : Prop := nodes.length = n ∧ ∀ i : Nat, i < nodes.length → 0 ≤ at' nodes (i : Int) ∧ at' nodes (i : Int) < agent.nodes.length
abbrev areImages_pre (redex agent : Big) (m : Match) : Prop := (∃ sig, Pair sig redex agent) ∧ InNodes agent m.nodes redex.nodes.length ∧ (m.roots.length : Int) = redex.roots
def areImages_wp (redex : Big) (agent : Big) (m : Match) (Z : Bool → Prop) : Prop :=
  ∀ len6 : Int, len6 = (redex.nodes.length : Int) → loopW (σ := Int) (fun v10 K13 => ∀ c14 : Bool, c14 = decide (v10 < len6) → ((c14 = true → (0 ≤ v10 ∧ v10 < redex.nodes.length) ∧ ∀ x17 : GNode, x17 = at' redex.nodes v10 → (0 ≤ v10 ∧ v10 < m.nodes.length) ∧ ∀ x22 : Int, x22 = at' m.nodes v10 → (0 ≤ x22 ∧ x22 < agent.nodes.length) ∧ ∀ x25 : GNode, x25 = at' agent.nodes x22 → ∀ c29 : Bool, c29 = decide (0 ≤ x17.parent) → ((c29 = true → (0 ≤ x17.parent ∧ x17.parent < m.nodes.length) ∧ ∀ x32 : Int, x32 = at' m.nodes x17.parent → joinW (fun (J34 : Bool → Prop) => ∀ c60 : Bool, c60 = decide (x25.control ≠ x17.control) → ((c60 = true → J34 (true)) ∧ (c60 = false → ∀ c62 : Bool, c62 = decide (x25.parent ≠ x32) → J34 (c62)))) (fun b37 => ((b37 = true → Z false) ∧ (b37 = false → (childrenOf_pre redex v10) ∧ ∀ r41 : (List Int) × (List Int), r41 = childrenOf redex v10 → ∀ len42 : Int, len42 = (r41.2.length : Int) → ∀ c44 : Bool, c44 = decide (0 < len42) → ((c44 = true → (I64 (v10 + 1)) ∧ ∀ v47 : Int, v47 = v10 + 1 → K13 (v47)) ∧ (c44 = false → (0 ≤ v10 ∧ v10 < m.nodes.length) ∧ ∀ x50 : Int, x50 = at' m.nodes v10 → (childrenOf_pre agent x50) ∧ ∀ r53 : (List Int) × (List Int), r53 = childrenOf agent x50 → (r53.1.length ≤ 1048576 ∧ ∀ z ∈ r53.1, areImages1_pre z m) ∧ ∀ r56 : Bool, r56 = r53.1.any (fun z => areImages1 z m) → ((r56 = true → Z false) ∧ (r56 = false → (I64 (v10 + 1)) ∧ ∀ v58 : Int, v58 = v10 + 1 → K13 (v58))))))))) ∧ (c29 = false → (I64 ((-1) - x17.parent)) ∧ ∀ v65 : Int, v65 = (-1) - x17.parent → (0 ≤ v65 ∧ v65 < m.roots.length) ∧ ∀ x68 : Int, x68 = at' m.roots v65 → joinW (fun (J70 : Bool → Prop) => ∀ c96 : Bool, c96 = decide (x25.control ≠ x17.control) → ((c96 = true → J70 (true)) ∧ (c96 = false → ∀ c98 : Bool, c98 = decide (x25.parent ≠ x68) → J70 (c98)))) (fun b73 => ((b73 = true → Z false) ∧ (b73 = false → (childrenOf_pre redex v10) ∧ ∀ r77 : (List Int) × (List Int), r77 = childrenOf redex v10 → ∀ len78 : Int, len78 = (r77.2.length : Int) → ∀ c80 : Bool, c80 = decide (0 < len78) → ((c80 = true → (I64 (v10 + 1)) ∧ ∀ v83 : Int, v83 = v10 + 1 → K13 (v83)) ∧ (c80 = false → (0 ≤ v10 ∧ v10 < m.nodes.length) ∧ ∀ x86 : Int, x86 = at' m.nodes v10 → (childrenOf_pre agent x86) ∧ ∀ r89 : (List Int) × (List Int), r89 = childrenOf agent x86 → (r89.1.length ≤ 1048576 ∧ ∀ z ∈ r89.1, areImages1_pre z m) ∧ ∀ r92 : Bool, r92 = r89.1.any (fun z => areImages1 z m) → ((r92 = true → Z false) ∧ (r92 = false → (I64 (v10 + 1)) ∧ ∀ v94 : Int, v94 = v10 + 1 → K13 (v94))))))))))) ∧ (c14 = false → Z true))) (0)
theorem areImages_vc (redex agent : Big) (m : Match) (h : areImages_pre redex agent m) : areImages_wp redex agent m (fun y => y = areImages redex agent m) := by
  unfold areImages_wp
  obtain ⟨⟨sig, hP⟩, ⟨hlen, hin⟩, hroots⟩ := h
  have hr8 := hP.r.len
  have ha8 := hP.a.len
  have hrr := hP.r.roots
  have hcr : childrenOf_pre redex 0 := ⟨by omega, by have := hP.r.slen; omega⟩
  have hca : childrenOf_pre agent 0 := ⟨by omega, by have := hP.a.slen; omega⟩
  simp only [forall_eq, decide_eq_true_eq, decide_eq_false_iff_not]
  refine loopW.up1 redex.nodes.length (fun k => ∀ j : Nat, j < k → ImgOk redex agent m j) (fun j hj => by omega) ?_
  rintro k K hk hI IH
  refine ⟨fun hc => ?_, fun hc => (areImages_yes fun j hj => hI j (by omega)).symm⟩
  have hk1 : k < redex.nodes.length := by omega
  have hpar := hP.r.parAt (i := k) ⟨by omega, by omega⟩
  have him := hin k (by omega)
  have hkl : (kidsB agent (at' m.nodes (k : Int))).length ≤ agent.nodes.length := idxs_len _ _ _
  have hnext : ImgOk redex agent m k → ∀ j : Nat, j < k + 1 → ImgOk redex agent m j := fun h j hj => by
    rcases Nat.lt_or_ge j k with h1 | h1
    · exact hI j h1
    · rw [show j = k by omega]; exact h
  refine ⟨by omega, by omega, him, fun h1 => ⟨by omega, ?_⟩, fun h1 => ⟨by simp only [I64]; omega, by omega, ?_⟩⟩
  · have hx : at' m.nodes (at' redex.nodes (k : Int)).parent = parentImg redex m k := by rw [parentImg, if_pos h1]
    generalize at' m.nodes (at' redex.nodes (k : Int)).parent = x at hx ⊢
    refine ⟨fun c => c = true ↔ ¬ ((at' agent.nodes (at' m.nodes (k : Int))).control = (at' redex.nodes (k : Int)).control ∧ (at' agent.nodes (at' m.nodes (k : Int))).parent = x), ⟨fun h2 => iff_of_true rfl (fun h3 => h2 h3.1), fun h2 => by simp only [decide_eq_true_eq]; exact ⟨fun h3 h4 => h3 h4.2, fun h3 h4 => h3 ⟨Classical.not_not.1 h2, h4⟩⟩⟩, fun c hc => ⟨fun h3 => (areImages_no fun hA => ?_).symm, fun h3 => ?_⟩⟩
    · have := hA k hk1
      exact hc.1 h3 ⟨this.1, by rw [hx]; exact this.2.1⟩
    have hcp := Classical.not_not.1 (fun h => by rw [hc.2 h] at h3; cases h3)
    refine ⟨hcr, fun h4 => ⟨by simp only [I64]; omega, IH hk1 fun j hj => hnext ⟨hcp.1, by rw [← hx]; exact hcp.2, fun h0 => by omega⟩ j hj⟩, fun h4 => ⟨by omega, hca, ⟨by omega, fun z _ => by simp only [areImages1_pre]; omega⟩, fun h5 => (areImages_no fun hA => ?_).symm, fun h5 => ⟨by simp only [I64]; omega, IH hk1 fun j hj => hnext ⟨hcp.1, by rw [← hx]; exact hcp.2, fun _ c hcm => ?_⟩ j hj⟩⟩⟩
    · obtain ⟨z, hz, hz2⟩ := List.any_eq_true.1 h5
      have := (hA k hk1).2.2 (by omega) z hz
      rw [areImages1, hasI_iff.2 this] at hz2
      cases hz2
    · have := List.any_eq_false.1 h5 c hcm
      rw [areImages1] at this
      simpa using hasI_iff.1 (by simpa using this)
  · have hx : at' m.roots (-1 - (at' redex.nodes (k : Int)).parent) = parentImg redex m k := by rw [parentImg, if_neg h1]
    generalize at' m.roots (-1 - (at' redex.nodes (k : Int)).parent) = x at hx ⊢
    refine ⟨fun c => c = true ↔ ¬ ((at' agent.nodes (at' m.nodes (k : Int))).control = (at' redex.nodes (k : Int)).control ∧ (at' agent.nodes (at' m.nodes (k : Int))).parent = x), ⟨fun h2 => iff_of_true rfl (fun h3 => h2 h3.1), fun h2 => by simp only [decide_eq_true_eq]; exact ⟨fun h3 h4 => h3 h4.2, fun h3 h4 => h3 ⟨Classical.not_not.1 h2, h4⟩⟩⟩, fun c hc => ⟨fun h3 => (areImages_no fun hA => ?_).symm, fun h3 => ?_⟩⟩
    · have := hA k hk1
      exact hc.1 h3 ⟨this.1, by rw [hx]; exact this.2.1⟩
    have hcp := Classical.not_not.1 (fun h => by rw [hc.2 h] at h3; cases h3)
    refine ⟨hcr, fun h4 => ⟨by simp only [I64]; omega, IH hk1 fun j hj => hnext ⟨hcp.1, by rw [← hx]; exact hcp.2, fun h0 => by omega⟩ j hj⟩, fun h4 => ⟨by omega, hca, ⟨by omega, fun z _ => by simp only [areImages1_pre]; omega⟩, fun h5 => (areImages_no fun hA => ?_).symm, fun h5 => ⟨by simp only [I64]; omega, IH hk1 fun j hj => hnext ⟨hcp.1, by rw [← hx]; exact hcp.2, fun _ c hcm => ?_⟩ j hj⟩⟩⟩
    · obtain ⟨z, hz, hz2⟩ := List.any_eq_true.1 h5
      have := (hA k hk1).2.2 (by omega) z hz
      rw [areImages1, hasI_iff.2 this] at hz2
      cases hz2
    · have := List.any_eq_false.1 h5 c hcm
      rw [areImages1] at this
      simpa using hasI_iff.1 (by simpa using this)
theorem idxs_prefix {α : Type} [Inhabited α] (l : List α) (p : α → Bool) {k k' : Nat} (h : k ≤ k') : idxs l p k <+: idxs l p k' := by
  induction h with
  | refl => exact List.prefix_refl _
  | @step q _ ih =>
    refine ih.trans ?_
    rcases Bool.eq_false_or_eq_true (p (at' l (q : Int))) with h | h
    · rw [idxs_yes _ _ h]; exact List.prefix_append _ _
    · rw [idxs_no _ _ h]; exact List.prefix_refl _
theorem rowP_prefix (b : Big) (l : Int) (i : Nat) {k k' : Nat} (h : k ≤ k') : rowP b l i k <+: rowP b l i k' := List.IsPrefix.map _ (idxs_prefix _ _ h)
theorem portsTo_prefix (b : Big) (l : Int) {i i' : Nat} (h : i ≤ i') : portsTo b l i <+: portsTo b l i' := by
  induction h with
  | refl => exact List.prefix_refl _
  | step _ ih => exact ih.trans (by rw [portsTo_succ]; exact List.prefix_append _ _)
/-- The ports of a link up to a port. -/
def ptTo (b : Big) (l : Int) (i k : Nat) : List (Int × Int) := portsTo b l i ++ rowP b l i k
theorem ptTo_prefix {b : Big} (l : Int) {i k : Nat} (hi : i < b.nodes.length) (hk : k ≤ (at' b.nodes (i : Int)).links.length) : ptTo b l i k <+: portsB b l := by
  have h1 : ptTo b l i k <+: portsTo b l (i + 1) := by
    rw [ptTo, portsTo_succ]
    exact (List.prefix_append_right_inj _).2 (rowP_prefix _ _ _ hk)
  exact h1.trans (portsTo_prefix _ _ (by omega))
theorem firstOf_prefix {agent : Big} {nodes : List Int} {P Q : List (Int × Int)} (h : P <+: Q) (hne : P ≠ []) : firstOf agent nodes P = firstOf agent nodes Q := by
  obtain ⟨t, rfl⟩ := h
  cases P with
  | nil => exact absurd rfl hne
  | cons a P => rfl
theorem firstOf_snoc {agent : Big} {nodes : List Int} (P : List (Int × Int)) (p : Int × Int) : firstOf agent nodes (P ++ [p]) = if P = [] then imgAt agent nodes p else firstOf agent nodes P := by
  cases P <;> simp [firstOf]
theorem linksR_no {redex agent : Big} {nodes : List Int} (h : ¬ LinksP redex agent nodes) : linksR redex agent nodes = ([], false) := by rw [linksR, if_neg h]
theorem linksR_yes {redex agent : Big} {nodes : List Int} (h : LinksP redex agent nodes) : linksR redex agent nodes = ((List.range (redex.edges + redex.outer.length).toNat).map fun l : Nat => firstL redex agent nodes (l : Int), true) := by rw [linksR, if_pos h]
/-- What the program holds ahead of a port. -/
def outTo (redex agent : Big) (nodes : List Int) (i k : Nat) : List Int := (List.range (redex.edges + redex.outer.length).toNat).map fun l : Nat => firstOf agent nodes (ptTo redex (l : Int) i k)
theorem outTo_at {redex agent : Big} {nodes : List Int} {i k : Nat} {l : Int} (h0 : 0 ≤ l) (h : l < redex.edges + redex.outer.length) : at' (outTo redex agent nodes i k) l = firstOf agent nodes (ptTo redex l i k) := by
  obtain ⟨q, rfl⟩ : ∃ q : Nat, l = q := ⟨l.toNat, by omega⟩
  rw [at_lt (by simp [outTo]; omega)]
  simp [outTo]
theorem outTo_len (redex agent : Big) (nodes : List Int) (i k : Nat) : (outTo redex agent nodes i k).length = (redex.edges + redex.outer.length).toNat := by simp [outTo]
theorem outTo_set {redex agent : Big} {nodes : List Int} {i k : Nat} {l : Int} (h0 : 0 ≤ l) (hl : at' (at' redex.nodes (i : Int)).links (k : Int) = l) (hx : ptTo redex l i k = [] ∨ imgAt agent nodes ((i : Int), (k : Int)) = firstOf agent nodes (ptTo redex l i k)) :
    (outTo redex agent nodes i k).set l.toNat (imgAt agent nodes ((i : Int), (k : Int))) = outTo redex agent nodes i (k + 1) := by
  refine List.ext_getElem (by simp [outTo]) fun q h1 h2 => ?_
  simp only [outTo, List.getElem_set, List.getElem_map, List.getElem_range]
  split
  · rename_i hq
    have hq2 : ((q : Nat) : Int) = l := by omega
    rw [hq2, ptTo, rowP_yes hl, ← List.append_assoc, firstOf_snoc]
    split
    · rfl
    · rename_i hne
      exact hx.resolve_left hne
  · rename_i hq
    rw [ptTo, ptTo, rowP_no (by rw [hl]; omega)]
theorem ptTo_next (b : Big) (l : Int) (i : Nat) : ptTo b l i (at' b.nodes (i : Int)).links.length = ptTo b l (i + 1) 0 := by simp [ptTo, portsTo_succ, rowP_zero]
theorem ptTo_end (b : Big) (l : Int) : ptTo b l b.nodes.length 0 = portsB b l := by simp [ptTo, portsB, rowP_zero]
theorem ptTo_zero (b : Big) (l : Int) : ptTo b l 0 0 = [] := by simp [ptTo, portsTo, rowP_zero]
abbrev matchLinks_pre (redex agent : Big) (nodes : List Int) : Prop := (∃ sig, Pair sig redex agent) ∧ InNodes agent nodes redex.nodes.length ∧ ∀ k : Nat, k < redex.nodes.length → (at' agent.nodes (at' nodes (k : Int))).control = (at' redex.nodes (k : Int)).control
/-- Where ports of the redex lie. -/
theorem img_in {redex agent : Big} {nodes : List Int} (h : matchLinks_pre redex agent nodes) {l : Int} {p : Int × Int} (hp : p ∈ portsB redex l) :
    (0 ≤ p.1 ∧ p.1 < nodes.length) ∧ (0 ≤ at' nodes p.1 ∧ at' nodes p.1 < agent.nodes.length) ∧ (0 ≤ p.2 ∧ p.2 < (at' agent.nodes (at' nodes p.1)).links.length) ∧ 0 ≤ imgAt agent nodes p := by
  obtain ⟨⟨sig, hP⟩, ⟨hlen, hin⟩, hctl⟩ := h
  obtain ⟨j, hj, h1, h2, h3, _⟩ := mem_portsTo.1 hp
  have hi := hin j (by omega)
  have e1 := hP.r.portsAt (i := j) ⟨by omega, by omega⟩
  have e2 := hP.a.portsAt hi
  rw [hctl j hj] at e2
  have h4 : p.2 < (at' agent.nodes (at' nodes p.1)).links.length := by rw [h1]; omega
  rw [← h1] at hi
  exact ⟨by omega, hi, ⟨h2, h4⟩, (hP.a.linksAt hi _ (at_mem ⟨h2, h4⟩)).1⟩
noncomputable abbrev matchLinks (redex agent : Big) (nodes : List Int) := linksR redex agent nodes
def matchLinks_wp (redex : Big) (agent : Big) (nodes : List Int) (Z : ((List Int) × Bool) → Prop) : Prop :=
  ∀ len5 : Int, len5 = (redex.outer.length : Int) → (I64 (redex.edges + len5)) ∧ ∀ v8 : Int, v8 = redex.edges + len5 → (repeatI_pre [(-1)] v8) ∧ ∀ r11 : List Int, r11 = repeatI [(-1)] v8 → ∀ len21 : Int, len21 = (redex.nodes.length : Int) → loopW (σ := Int × (List Int)) (fun (v30, l31) K35 => ∀ c36 : Bool, c36 = decide (v30 < len21) → ((c36 = true → (0 ≤ v30 ∧ v30 < redex.nodes.length) ∧ ∀ x39 : GNode, x39 = at' redex.nodes v30 → ∀ len44 : Int, len44 = (x39.links.length : Int) → loopW (σ := Int × (List Int)) (fun (v53, l54) K58 => ∀ c59 : Bool, c59 = decide (v53 < len44) → ((c59 = true → (0 ≤ v53 ∧ v53 < x39.links.length) ∧ ∀ x62 : Int, x62 = at' x39.links v53 → (0 ≤ v30 ∧ v30 < nodes.length) ∧ ∀ x65 : Int, x65 = at' nodes v30 → (0 ≤ x65 ∧ x65 < agent.nodes.length) ∧ ∀ x68 : GNode, x68 = at' agent.nodes x65 → (0 ≤ v53 ∧ v53 < x68.links.length) ∧ ∀ x71 : Int, x71 = at' x68.links v53 → joinW (fun (J75 : Bool → Prop) => (0 ≤ x62 ∧ x62 < l54.length) ∧ ∀ x106 : Int, x106 = at' l54 x62 → ∀ c109 : Bool, c109 = decide (0 ≤ x106) → ((c109 = true → (0 ≤ x62 ∧ x62 < l54.length) ∧ ∀ x112 : Int, x112 = at' l54 x62 → ∀ c116 : Bool, c116 = decide (x106 ≠ x71) → J75 (c116)) ∧ (c109 = false → J75 (false)))) (fun b78 => ((b78 = true → Z ([], false)) ∧ (b78 = false → (0 ≤ x62 ∧ x62 < l54.length) ∧ ∀ x89 : Int, x89 = at' l54 x62 → ∀ l92 : List Int, l92 = l54.set x62.toNat x71 → (I64 (v53 + 1)) ∧ ∀ v99 : Int, v99 = v53 + 1 → K58 (v99, l92))))) ∧ (c59 = false → (I64 (v30 + 1)) ∧ ∀ v119 : Int, v119 = v30 + 1 → K35 (v119, l54)))) (0, l31)) ∧ (c36 = false → loopW (σ := Int) (fun v124 K128 => ∀ c129 : Bool, c129 = decide (v124 < redex.edges) → ((c129 = true → (pointsOf_pre redex v124) ∧ ∀ r132 : (List (Int × Int)) × (List Str), r132 = pointsOf redex v124 → (0 ≤ v124 ∧ v124 < l31.length) ∧ ∀ x153 : Int, x153 = at' l31 v124 → (pointsOf_pre agent x153) ∧ ∀ r157 : (List (Int × Int)) × (List Str), r157 = pointsOf agent x153 → joinW (fun (J158 : Bool → Prop) => (0 ≤ v124 ∧ v124 < l31.length) ∧ ∀ x171 : Int, x171 = at' l31 v124 → ∀ c175 : Bool, c175 = decide (agent.edges ≤ x153) → ((c175 = true → J158 (true)) ∧ (c175 = false → ∀ len177 : Int, len177 = (r157.1.length : Int) → ∀ len179 : Int, len179 = (r132.1.length : Int) → ∀ c181 : Bool, c181 = decide (len177 ≠ len179) → J158 (c181)))) (fun b161 => ((b161 = true → Z ([], false)) ∧ (b161 = false → (I64 (v124 + 1)) ∧ ∀ v168 : Int, v168 = v124 + 1 → K128 (v168))))) ∧ (c129 = false → Z (l31, true)))) (0)))) (0, r11)
theorem matchLinks_vc (redex agent : Big) (nodes : List Int) (h : matchLinks_pre redex agent nodes) : matchLinks_wp redex agent nodes (fun y => y = matchLinks redex agent nodes) := by
  unfold matchLinks_wp
  have hpre := h
  obtain ⟨⟨sig, hP⟩, ⟨hlen, hin⟩, hctl⟩ := h
  have hE := hP.r.edges
  have hO := hP.r.outer
  have hr8 := hP.r.len
  have hLr := hP.r.linkSz
  have hLa := hP.a.linkSz
  simp only [forall_eq, decide_eq_true_eq, decide_eq_false_iff_not, pointsOf]
  have h0 : repeatI [(-1)] (redex.edges + redex.outer.length) = outTo redex agent nodes 0 0 := by
    simp only [repeatI, outTo, ptTo_zero, firstOf, List.headD_cons]
    refine List.ext_getElem (by simp) fun q h1 h2 => by simp
  rw [h0]
  refine ⟨by simp only [I64]; omega, ⟨rfl, by omega, by omega⟩, ?_⟩
  refine loopW.upL redex.nodes.length (fun i out => out = outTo redex agent nodes i 0 ∧ ∀ l, ∀ p ∈ ptTo redex l i 0, imgAt agent nodes p = firstOf agent nodes (ptTo redex l i 0)) _ ⟨rfl, fun l p hp => by rw [ptTo_zero] at hp; cases hp⟩ ?_
  rintro i out K hi ⟨rfl, hg⟩ IH
  dsimp only
  refine ⟨fun hc => ?_, fun hc => ?_⟩
  · have hi1 : i < redex.nodes.length := by omega
    refine ⟨by omega, loopW.upL (at' redex.nodes (i : Int)).links.length (fun k out => out = outTo redex agent nodes i k ∧ ∀ l, ∀ p ∈ ptTo redex l i k, imgAt agent nodes p = firstOf agent nodes (ptTo redex l i k)) _ ⟨rfl, hg⟩ ?_⟩
    rintro k out K2 hk ⟨rfl, hg2⟩ IH2
    dsimp only
    have hll := hLr.2.1 i hi1
    refine ⟨fun hc2 => ?_, fun hc2 => ⟨by simp only [I64]; omega, IH hi1 _ ⟨?_, ?_⟩⟩⟩
    · have hk1 : k < (at' redex.nodes (i : Int)).links.length := by omega
      obtain ⟨l0, hl0⟩ : ∃ l0, at' (at' redex.nodes (i : Int)).links (k : Int) = l0 := ⟨_, rfl⟩
      have hl := hP.r.linksAt (i := i) ⟨by omega, by omega⟩ _ (at_mem (l := (at' redex.nodes (i : Int)).links) (i := (k : Int)) ⟨by omega, by omega⟩)
      rw [hl0] at hl ⊢
      have hpf := ptTo_prefix (b := redex) l0 hi1 (k := k + 1) (by omega)
      have hsn : ptTo redex l0 i (k + 1) = ptTo redex l0 i k ++ [((i : Int), (k : Int))] := by rw [ptTo, rowP_yes hl0, ← List.append_assoc]; rfl
      have hmem : ((i : Int), (k : Int)) ∈ portsB redex l0 := hpf.subset (by rw [hsn]; simp)
      obtain ⟨q1, q2, q3, q4⟩ := img_in hpre hmem
      have hpk := ptTo_prefix (b := redex) l0 hi1 (k := k) (by omega)
      have hown : at' (at' agent.nodes (at' nodes (i : Int))).links (k : Int) = imgAt agent nodes ((i : Int), (k : Int)) := rfl
      rw [hown]
      have hol := outTo_len redex agent nodes i k
      refine ⟨by omega, q1, q2, q3, fun c => c = true ↔ (0 ≤ firstOf agent nodes (ptTo redex l0 i k) ∧ firstOf agent nodes (ptTo redex l0 i k) ≠ imgAt agent nodes ((i : Int), (k : Int))), ?_, fun c hJ => ⟨fun h1 => ?_, fun h1 => ⟨by omega, by simp only [I64]; omega, ?_⟩⟩⟩
      · rw [outTo_at hl.1 hl.2]
        refine ⟨by omega, fun h1 => ⟨by omega, by simp only [decide_eq_true_eq]; exact ⟨fun h2 => ⟨h1, h2⟩, fun h2 => h2.2⟩⟩, fun h1 => iff_of_false (by simp) fun h2 => h1 h2.1⟩
      · obtain ⟨h2, h3⟩ := hJ.1 h1
        refine (linksR_no fun hL => ?_).symm
        have hne : ptTo redex l0 i k ≠ [] := fun h => by rw [h] at h2; simp [firstOf] at h2
        rw [firstOf_prefix hpk hne] at h3
        exact h3 ((hL l0 hl.1 hl.2).1 _ hmem).symm
      · have hx : ptTo redex l0 i k = [] ∨ imgAt agent nodes ((i : Int), (k : Int)) = firstOf agent nodes (ptTo redex l0 i k) := by
          by_cases hne : ptTo redex l0 i k = []
          · exact .inl hne
          · refine .inr (Classical.byContradiction fun h2 => ?_)
            have : 0 ≤ firstOf agent nodes (ptTo redex l0 i k) := by
              cases hq : ptTo redex l0 i k with
              | nil => exact absurd hq hne
              | cons a P => exact (img_in hpre (hpk.subset (by rw [hq]; simp) : a ∈ portsB redex l0)).2.2.2
            rw [hJ.2 ⟨this, fun h => h2 h.symm⟩] at h1
            cases h1
        rw [outTo_set hl.1 hl0 hx]
        refine IH2 hk1 _ ⟨rfl, fun l p hp => ?_⟩
        by_cases hll0 : l = l0
        · subst hll0
          rw [hsn] at hp ⊢
          rw [firstOf_snoc]
          rcases List.mem_append.1 hp with hp | hp
          · rw [if_neg (fun h => by rw [h] at hp; cases hp)]
            exact hg2 _ p hp
          · simp only [List.mem_singleton] at hp
            subst hp
            split
            · rfl
            · rename_i hne
              exact hx.resolve_left hne
        · have hno : ptTo redex l i (k + 1) = ptTo redex l i k := by rw [ptTo, rowP_no (by rw [hl0]; exact fun h => hll0 h.symm)]; rfl
          rw [hno] at hp ⊢
          exact hg2 l p hp
    · rw [show k = (at' redex.nodes (i : Int)).links.length by omega]
      simp only [outTo, ptTo_next]
    · rw [show k = (at' redex.nodes (i : Int)).links.length by omega] at hg2
      simp only [ptTo_next] at hg2
      exact hg2
  · have hie : i = redex.nodes.length := by omega
    subst hie
    simp only [ptTo_end] at hg
    have hol := outTo_len redex agent nodes redex.nodes.length 0
    have hfl : ∀ l, 0 ≤ l → l < redex.edges + redex.outer.length → at' (outTo redex agent nodes redex.nodes.length 0) l = firstL redex agent nodes l := fun l h1 h2 => by rw [outTo_at h1 h2, ptTo_end]
    refine loopW.up1 redex.edges.toNat (fun q => ∀ l, 0 ≤ l → l < (q : Int) → firstL redex agent nodes l < agent.edges ∧ (portsB agent (firstL redex agent nodes l)).length = (portsB redex l).length) (fun l h1 h2 => by omega) ?_
    rintro q K3 hq hI IH3
    refine ⟨fun h1 => ?_, fun h1 => ?_⟩
    · rw [hfl q (by omega) (by omega)]
      refine ⟨hLr, by omega, hLa, fun c => c = true ↔ ¬ (firstL redex agent nodes q < agent.edges ∧ (portsB agent (firstL redex agent nodes q)).length = (portsB redex q).length), ⟨by omega, fun h2 => iff_of_true rfl (by omega), fun h2 => by simp only [decide_eq_true_eq]; omega⟩, fun c hJ => ⟨fun h2 => (linksR_no fun hL => hJ.1 h2 ((hL q (by omega) (by omega)).2 h1)).symm, fun h2 => ⟨by simp only [I64]; omega, IH3 (by omega) fun l h3 h4 => ?_⟩⟩⟩
      rcases Int.lt_or_le l q with h5 | h5
      · exact hI l h3 h5
      · rw [show l = q by omega]
        exact Classical.not_not.1 fun h => by rw [hJ.2 h] at h2; cases h2
    · have hL : LinksP redex agent nodes := fun l h2 h3 => ⟨fun p hp => hg l p hp, fun h4 => hI l h2 (by omega)⟩
      rw [matchLinks, linksR_yes hL]
      simp only [outTo, ptTo_end]
def isMatch1_wp (p : Int) (v_ : Big) (v_' : Match) (Z : Bool → Prop) : Prop :=
  joinW (fun (J2 : Bool → Prop) => (I64 (-v_.roots)) ∧ ∀ v9 : Int, v9 = -v_.roots → ∀ len11 : Int, len11 = (v_.nodes.length : Int) → (I64 (len11 - 1)) ∧ ∀ v14 : Int, v14 = len11 - 1 → ∀ r16 : Bool, r16 = within p v9 v14 → ((r16 = true → (isUnder_pre v_ p v_'.nodes) ∧ ∀ r18 : Bool, r18 = isUnder v_ p v_'.nodes → J2 (r18)) ∧ (r16 = false → J2 (true)))) (fun b5 => Z b5)
abbrev isMatch1 (p : Int) (agent : Big) (m : Match) : Bool := !(within p (-agent.roots) (agent.nodes.length - 1)) || underB agent m.nodes p
abbrev isMatch1_pre (p : Int) (agent : Big) (m : Match) : Prop := DownB agent ∧ m.nodes.length ≤ 1048576 ∧ I64 (-agent.roots)
theorem isMatch1_vc (p : Int) (agent : Big) (m : Match) (h : isMatch1_pre p agent m) : isMatch1_wp p agent m (fun y => y = isMatch1 p agent m) := by
  unfold isMatch1_wp
  obtain ⟨hd, hm, hr⟩ := h
  simp only [forall_eq]
  refine ⟨fun c => c = isMatch1 p agent m, ⟨hr, by have := hd.1; simp only [I64]; omega, fun h1 => ⟨?_, ?_⟩, fun h1 => ?_⟩, fun c h => h⟩
  · simp only [within, Bool.and_eq_true, decide_eq_true_eq] at h1
    exact ⟨hd, by omega, hm⟩
  · rw [isMatch1, h1]; rfl
  · rw [isMatch1, h1]; rfl
noncomputable abbrev isMatch (redex agent : Big) (m : Match) : Bool := matchB redex agent m
abbrev isMatch_pre (redex agent : Big) (m : Match) : Prop := (∃ sig, Pair sig redex agent) ∧ MSz m
def isMatch_wp (redex : Big) (agent : Big) (m : Match) (Z : Bool → Prop) : Prop :=
  joinW (fun (J6 : Bool → Prop) => ∀ len48 : Int, len48 = (m.nodes.length : Int) → ∀ len50 : Int, len50 = (redex.nodes.length : Int) → ∀ c52 : Bool, c52 = decide (len48 ≠ len50) → ((c52 = true → J6 (true)) ∧ (c52 = false → ∀ len54 : Int, len54 = (m.roots.length : Int) → ∀ c56 : Bool, c56 = decide (len54 ≠ redex.roots) → J6 (c56)))) (fun b9 => ((b9 = true → Z false) ∧ (b9 = false → ∀ len12 : Int, len12 = (m.nodes.length : Int) → loopW (σ := Int) (fun v16 K19 => ∀ c20 : Bool, c20 = decide (v16 < len12) → ((c20 = true → (0 ≤ v16 ∧ v16 < m.nodes.length) ∧ ∀ x23 : Int, x23 = at' m.nodes v16 → joinW (fun (J25 : Bool → Prop) => (agent.nodes.length ≤ 1048576) ∧ ∀ r35 : Bool, r35 = isNodeB agent x23 → ((r35 = true → ((0 : Int) ≤ 0 ∧ (0 : Int) ≤ v16 ∧ v16 ≤ m.nodes.length) ∧ ∀ l37 : List Int, l37 = (m.nodes.take v16.toNat).drop 0 → (l37.length ≤ 1048576) ∧ ∀ r40 : Bool, r40 = hasI l37 x23 → J25 (r40)) ∧ (r35 = false → J25 (true)))) (fun b28 => ((b28 = true → Z false) ∧ (b28 = false → (I64 (v16 + 1)) ∧ ∀ v32 : Int, v32 = v16 + 1 → K19 (v32))))) ∧ (c20 = false → (m.roots.length ≤ 1048576 ∧ ∀ z ∈ m.roots, isMatch1_pre z agent m) ∧ ∀ r42 : Bool, r42 = m.roots.any (fun z => isMatch1 z agent m) → ((r42 = true → Z false) ∧ (r42 = false → (areImages_pre redex agent m) ∧ ∀ r44 : Bool, r44 = areImages redex agent m → ((r44 = true → (matchLinks_pre redex agent m.nodes) ∧ ∀ r46 : (List Int) × Bool, r46 = matchLinks redex agent m.nodes → Z r46.2) ∧ (r44 = false → Z false))))))) (0))))
theorem isMatch_vc (redex agent : Big) (m : Match) (h : isMatch_pre redex agent m) : isMatch_wp redex agent m (fun y => y = isMatch redex agent m) := by
  unfold isMatch_wp
  obtain ⟨⟨sig, hP⟩, hm1, hm2⟩ := h
  have ha8 := hP.a.len
  have har := hP.a.roots
  simp only [forall_eq, decide_eq_true_eq, decide_eq_false_iff_not, List.drop_zero]
  refine ⟨fun c => c = true ↔ ¬ (m.nodes.length = redex.nodes.length ∧ (m.roots.length : Int) = redex.roots), ⟨fun h1 => iff_of_true rfl (by omega), fun h1 => by simp only [decide_eq_true_eq]; omega⟩, fun c hJ => ⟨fun h1 => (matchB_no fun hM => hJ.1 h1 ⟨hM.1.1, hM.2.1.1⟩).symm, fun h1 => ?_⟩⟩
  have hlr := Classical.not_not.1 fun h => by rw [hJ.2 h] at h1; cases h1
  refine loopW.up1 m.nodes.length (fun k => ∀ i : Nat, i < k → isNodeB agent (at' m.nodes (i : Int)) = true ∧ at' m.nodes (i : Int) ∉ m.nodes.take i) (fun i hi => by omega) ?_
  rintro k K hk hI IH
  refine ⟨fun h2 => ⟨by omega, fun c => c = true ↔ ¬ (isNodeB agent (at' m.nodes (k : Int)) = true ∧ at' m.nodes (k : Int) ∉ m.nodes.take k), ⟨by omega, fun h3 => ⟨by omega, by simp; omega, ?_⟩, fun h3 => iff_of_true rfl (by rw [h3]; simp)⟩, fun c hJ2 => ⟨fun h3 => (matchB_no fun hM => hJ2.1 h3 (hM.1.2 k (by omega))).symm, fun h3 => ⟨by simp only [I64]; omega, IH (by omega) fun i hi => ?_⟩⟩⟩, fun h2 => ?_⟩
  · rw [Int.toNat_natCast]
    dsimp only
    rw [hasI_iff]
    exact ⟨fun h4 h5 => h5.2 h4, fun h4 => Classical.not_not.1 fun h5 => h4 ⟨h3, h5⟩⟩
  · rcases Nat.lt_or_ge i k with h5 | h5
    · exact hI i h5
    · rw [show i = k by omega]
      exact Classical.not_not.1 fun h => by rw [hJ2.2 h] at h3; cases h3
  · have hN : NodesOk redex agent m.nodes := ⟨hlr.1, fun i hi => hI i (by omega)⟩
    have hnode : ∀ x, isNodeB agent x = true → 0 ≤ x ∧ x < agent.nodes.length := fun x hx => by
      simp only [isNodeB, within, Bool.and_eq_true, decide_eq_true_eq] at hx; omega
    have hin : InNodes agent m.nodes redex.nodes.length := ⟨hlr.1, fun i hi => hnode _ (hN.2 i hi).1⟩
    refine ⟨⟨hm2, fun z _ => ⟨hP.a.downB, hm1, by simp only [I64]; omega⟩⟩, fun h3 => (matchB_no fun hM => ?_).symm, fun h3 => ?_⟩
    · obtain ⟨z, hz, hz2⟩ := List.any_eq_true.1 h3
      obtain ⟨q1, q2, q3⟩ := hM.2.1.2 z hz
      rw [isMatch1, q3, Bool.or_false, Bool.not_eq_true'] at hz2
      simp only [within, Bool.and_eq_false_iff, decide_eq_false_iff_not] at hz2
      omega
    · have hR : RootsOk redex agent m := ⟨hlr.2, fun p hp => by
        have := List.any_eq_false.1 h3 p hp
        simp only [isMatch1, Bool.or_eq_true, Bool.not_eq_true', not_or, Bool.not_eq_false] at this
        obtain ⟨t1, t2⟩ := this
        simp only [within, Bool.and_eq_true, decide_eq_true_eq] at t1
        exact ⟨by omega, by omega, by simpa using t2⟩⟩
      refine ⟨⟨⟨sig, hP⟩, hin, hlr.2⟩, fun h4 => ?_, fun h4 => (matchB_no fun hM => ?_).symm⟩
      · have hI2 := areImages_iff.1 h4
        refine ⟨⟨⟨sig, hP⟩, hin, fun k hk => (hI2 k hk).1⟩, ?_⟩
        by_cases hL : LinksP redex agent m.nodes
        · rw [matchLinks, linksR_yes hL]
          exact (matchB_iff.2 ⟨hN, hR, hI2, hL⟩).symm
        · rw [matchLinks, linksR_no hL]
          exact (matchB_no fun hM => hL hM.2.2.2).symm
      · rw [areImages_iff.2 hM.2.2.1] at h4
        cases h4
theorem ValidB.redexPre {sig : Sig} {b : Big} (hV : ValidB sig b) : isRedex_pre b := by
  have h2 := hV.slen
  have h3 := hV.roots
  have h4 := hV.edges
  have h5 := hV.outer
  exact ⟨hV.linkSz, by omega, by omega, by omega, by omega, by omega, by omega⟩
noncomputable def matching (sig : Sig) (redex agent : Big) : Bool := goodB sig redex && redexB redex && agentB sig agent
abbrev isMatching_pre (sig : Sig) (redex agent : Big) : Prop := SmallB sig redex ∧ SmallB sig agent
noncomputable abbrev isMatching (sig : Sig) (redex agent : Big) : Bool := matching sig redex agent
def isMatching_wp (sig : List Control) (redex : Big) (agent : Big) (Z : Bool → Prop) : Prop :=
  joinW (fun (J5 : Bool → Prop) => (SmallB sig redex) ∧ ∀ r12 : Bool, r12 = goodB sig redex → ((r12 = true → (isRedex_pre redex) ∧ ∀ r14 : Bool, r14 = isRedex redex → ((r14 = true → (agentB_pre sig agent) ∧ ∀ r16 : Bool, r16 = agentB sig agent → J5 (r16)) ∧ (r14 = false → J5 (false)))) ∧ (r12 = false → J5 (false)))) (fun b8 => Z b8)
theorem isMatching_vc (sig : Sig) (redex agent : Big) (h : isMatching_pre sig redex agent) : isMatching_wp sig redex agent (fun y => y = isMatching sig redex agent) := by
  unfold isMatching_wp
  simp only [forall_eq]
  refine ⟨fun c => c = matching sig redex agent, ⟨h.1, fun h1 => ⟨?_, fun h2 => ⟨h.2, by rw [matching, h1, show redexB redex = true from h2]; rfl⟩, fun h2 => by rw [matching, h1, show redexB redex = false from h2]; rfl⟩, fun h1 => by rw [matching, h1]; rfl⟩, fun c h => h⟩
  have hV := goodB_valid h1
  have h2 := hV.slen
  have h3 := hV.roots
  have h4 := hV.edges
  have h5 := hV.outer
  exact ⟨hV.linkSz, by omega, by omega, by omega, by omega, by omega, by omega⟩
theorem matching_pair {sig : Sig} {redex agent : Big} (h : matching sig redex agent = true) : Pair sig redex agent := by
  simp only [matching, agentB, Bool.and_eq_true] at h
  exact ⟨goodB_valid h.1.1, goodB_valid h.2.1, redexB_iff.1 h.1.2⟩
abbrev IsMatch_pre (sig : Sig) (redex agent : Big) (m : Match) : Prop := SmallB sig redex ∧ SmallB sig agent ∧ MSz m
noncomputable abbrev isMatched (sig : Sig) (redex agent : Big) (m : Match) : Bool := matching sig redex agent && matchB redex agent m
abbrev isMatched_pre (sig : Sig) (redex agent : Big) (m : Match) : Prop := IsMatch_pre sig redex agent m
def isMatched_wp (sig : List Control) (redex : Big) (agent : Big) (m : Match) (Z : Bool → Prop) : Prop :=
  joinW (fun (J6 : Bool → Prop) => (isMatching_pre sig redex agent) ∧ ∀ r13 : Bool, r13 = isMatching sig redex agent → ((r13 = true → (isMatch_pre redex agent m) ∧ ∀ r15 : Bool, r15 = isMatch redex agent m → J6 (r15)) ∧ (r13 = false → J6 (false)))) (fun b9 => Z b9)
theorem isMatched_vc (sig : Sig) (redex agent : Big) (m : Match) (h : isMatched_pre sig redex agent m) : isMatched_wp sig redex agent m (fun y => y = isMatched sig redex agent m) := by
  unfold isMatched_wp
  simp only [forall_eq]
  refine ⟨fun c => c = isMatched sig redex agent m, ⟨⟨h.1, h.2.1⟩, fun h1 => ⟨⟨⟨sig, matching_pair h1⟩, h.2.2⟩, ?_⟩, fun h1 => ?_⟩, fun c h => h⟩
  · rw [isMatched, show matching sig redex agent = true from h1]; rfl
  · rw [isMatched, show matching sig redex agent = false from h1]; rfl
/-- Passive nodes. -/
def passives (sig : Sig) (agent : Big) : List Int := idxs agent.nodes (fun x => decide ((at' sig x.control).kind = 1)) agent.nodes.length
def activeB (sig : Sig) (agent : Big) (m : Match) : Bool := !(m.roots.any fun p => underB agent (passives sig agent) p)
def isActive1_wp (p : Int) (v_ : Big) (v_' : List Int) (Z : Bool → Prop) : Prop :=
  (isUnder_pre v_ p v_') ∧ ∀ r3 : Bool, r3 = isUnder v_ p v_' → Z r3
abbrev isActive1 (p : Int) (agent : Big) (passive : List Int) : Bool := underB agent passive p
abbrev isActive1_pre (p : Int) (agent : Big) (passive : List Int) : Prop := DownB agent ∧ passive.length ≤ 1048576 ∧ p < agent.nodes.length
theorem isActive1_vc (p : Int) (agent : Big) (passive : List Int) (h : isActive1_pre p agent passive) : isActive1_wp p agent passive (fun y => y = isActive1 p agent passive) := by
  unfold isActive1_wp
  exact ⟨⟨h.1, h.2.2, h.2.1⟩, by rintro _ rfl; rfl⟩
abbrev isActive_pre (sig : Sig) (agent : Big) (m : Match) : Prop := ValidB sig agent ∧ MSz m ∧ ∀ p ∈ m.roots, p < agent.nodes.length
abbrev isActive (sig : Sig) (agent : Big) (m : Match) : Bool := activeB sig agent m
def isActive_wp (sig : List Control) (agent : Big) (m : Match) (Z : Bool → Prop) : Prop :=
  ∀ len8 : Int, len8 = (agent.nodes.length : Int) → loopW (σ := Int × (List Int)) (fun (v15, l16) K19 => ∀ c20 : Bool, c20 = decide (v15 < len8) → ((c20 = true → (0 ≤ v15 ∧ v15 < agent.nodes.length) ∧ ∀ x23 : GNode, x23 = at' agent.nodes v15 → (0 ≤ x23.control ∧ x23.control < sig.length) ∧ ∀ x28 : Control, x28 = at' sig x23.control → ∀ c30 : Bool, c30 = decide (x28.kind = 1) → ((c30 = true → (l16.length ≤ 1073741823) ∧ ∀ l33 : List Int, l33 = l16 ++ [v15] → (I64 (v15 + 1)) ∧ ∀ v36 : Int, v36 = v15 + 1 → K19 (v36, l33)) ∧ (c30 = false → (I64 (v15 + 1)) ∧ ∀ v39 : Int, v39 = v15 + 1 → K19 (v39, l16)))) ∧ (c20 = false → (m.roots.length ≤ 1048576 ∧ ∀ z ∈ m.roots, isActive1_pre z agent l16) ∧ ∀ r42 : Bool, r42 = m.roots.any (fun z => isActive1 z agent l16) → Z (!r42)))) (0, ([] : List Int))
theorem isActive_vc (sig : Sig) (agent : Big) (m : Match) (h : isActive_pre sig agent m) : isActive_wp sig agent m (fun y => y = isActive sig agent m) := by
  unfold isActive_wp
  obtain ⟨hV, hM, hp⟩ := h
  have ha8 := hV.len
  rintro _ rfl
  refine loopW.upL agent.nodes.length (fun k out => out = idxs agent.nodes (fun x => decide ((at' sig x.control).kind = 1)) k) [] rfl ?_
  rintro k out K hk rfl IH
  have hl := idxs_len agent.nodes (fun x => decide ((at' sig x.control).kind = 1)) k
  simp only [forall_eq, decide_eq_true_eq, decide_eq_false_iff_not]
  refine ⟨fun h1 => ⟨by omega, hV.ctlAt ⟨by omega, by omega⟩, fun h2 => ⟨by omega, by simp only [I64]; omega, ?_⟩, fun h2 => ⟨by simp only [I64]; omega, ?_⟩⟩, fun h1 => ?_⟩
  · exact IH (by omega) _ (idxs_yes _ _ (by simpa using h2)).symm
  · exact IH (by omega) _ (idxs_no _ _ (by simpa using h2)).symm
  · rw [show k = agent.nodes.length by omega] at hl ⊢
    exact ⟨⟨hM.2, fun z hz => ⟨hV.downB, by omega, hp z hz⟩⟩, rfl⟩
noncomputable def IsActiveMatch (sig : Sig) (redex agent : Big) (m : Match) : Bool × Bool := if matching sig redex agent && matchB redex agent m then (activeB sig agent m, true) else (false, false)
theorem matched_active {sig : Sig} {redex agent : Big} {m : Match} (hs : MSz m) (h : (matching sig redex agent && matchB redex agent m) = true) : isActive_pre sig agent m := by
  simp only [Bool.and_eq_true] at h
  have hM := matchB_iff.1 h.2
  exact ⟨(matching_pair h.1).a, hs, fun p hp => (hM.2.1.2 p hp).2.1⟩
abbrev IsActiveMatch_pre (sig : Sig) (redex agent : Big) (m : Match) : Prop := IsMatch_pre sig redex agent m
def IsActiveMatch_wp (sig : List Control) (redex : Big) (agent : Big) (m : Match) (Z : (Bool × Bool) → Prop) : Prop :=
  (isMatched_pre sig redex agent m) ∧ ∀ r7 : Bool, r7 = isMatched sig redex agent m → ((r7 = true → (isActive_pre sig agent m) ∧ ∀ r9 : Bool, r9 = isActive sig agent m → Z (r9, true)) ∧ (r7 = false → Z (false, false)))
theorem IsActiveMatch_vc (sig : Sig) (redex agent : Big) (m : Match) (h : IsActiveMatch_pre sig redex agent m) : IsActiveMatch_wp sig redex agent m (fun y => y = IsActiveMatch sig redex agent m) := by
  unfold IsActiveMatch_wp
  simp only [forall_eq]
  refine ⟨h, fun h1 => ⟨matched_active h.2.2 h1, ?_⟩, fun h1 => ?_⟩
  · rw [IsActiveMatch, if_pos h1]
  · rw [IsActiveMatch, if_neg (by rw [show (matching sig redex agent && matchB redex agent m) = false from h1]; simp)]
end Go.Ab.Vg

/- Matches: pure conditions of the reference's functions. -/
namespace Go.Ab.Vg
set_option linter.unusedSimpArgs false
set_option linter.unusedVariables false
noncomputable abbrev l8Redex (sig : Sig) (b : Big) : Bool := goodB sig b && redexB b
abbrev l8Redex_pre (sig : Sig) (b : Big) : Prop := SmallB sig b
def l8Redex_wp (sig : List Control) (b : Big) (Z : Bool → Prop) : Prop :=
  joinW (fun (J4 : Bool → Prop) => (SmallB sig b) ∧ ∀ r11 : Bool, r11 = goodB sig b → ((r11 = true → (l8Solid_pre b) ∧ ∀ r13 : Bool, r13 = l8Solid b → J4 (r13)) ∧ (r11 = false → J4 (false)))) (fun b7 => Z b7)
theorem l8Redex_vc (sig : Sig) (b : Big) (h : l8Redex_pre sig b) : l8Redex_wp sig b (fun y => y = l8Redex sig b) := by
  unfold l8Redex_wp
  simp only [forall_eq]
  refine ⟨fun c => c = l8Redex sig b, ⟨h, fun h1 => ⟨(goodB_valid h1).redexPre, by rw [l8Redex, h1]; rfl⟩, fun h1 => by rw [l8Redex, h1]; rfl⟩, fun c h => h⟩
noncomputable abbrev l8Both (sig : Sig) (redex agent : Big) : Bool := matching sig redex agent
abbrev l8Both_pre (sig : Sig) (redex agent : Big) : Prop := SmallB sig redex ∧ SmallB sig agent
def l8Both_wp (sig : List Control) (redex : Big) (agent : Big) (Z : Bool → Prop) : Prop :=
  joinW (fun (J5 : Bool → Prop) => (l8Redex_pre sig redex) ∧ ∀ r12 : Bool, r12 = l8Redex sig redex → ((r12 = true → (l2Agent_pre sig agent) ∧ ∀ r14 : Bool, r14 = l2Agent sig agent → J5 (r14)) ∧ (r12 = false → J5 (false)))) (fun b8 => Z b8)
theorem l8Both_vc (sig : Sig) (redex agent : Big) (h : l8Both_pre sig redex agent) : l8Both_wp sig redex agent (fun y => y = l8Both sig redex agent) := by
  unfold l8Both_wp
  simp only [forall_eq]
  refine ⟨fun c => c = matching sig redex agent, ⟨h.1, fun h1 => ⟨h.2, ?_⟩, fun h1 => ?_⟩, fun c h => h⟩
  · rw [matching, show (goodB sig redex && redexB redex) = true from h1]; rfl
  · rw [matching, show (goodB sig redex && redexB redex) = false from h1]; rfl
def ImagesP (redex agent : Big) (nodes : List Int) : Prop := NodesOk redex agent nodes ∧ ∀ k : Nat, k < redex.nodes.length → (at' agent.nodes (at' nodes (k : Int))).control = (at' redex.nodes (k : Int)).control
open Classical in
noncomputable def l8Images (redex agent : Big) (nodes : List Int) : Bool := decide (ImagesP redex agent nodes)
abbrev l8Images_pre (redex agent : Big) (nodes : List Int) : Prop := nodes.length ≤ 1048576 ∧ agent.nodes.length ≤ 1048576
def l8Images_wp (redex : Big) (agent : Big) (nodes : List Int) (Z : Bool → Prop) : Prop :=
  ∀ len5 : Int, len5 = (nodes.length : Int) → ∀ len7 : Int, len7 = (redex.nodes.length : Int) → ∀ c9 : Bool, c9 = decide (len5 ≠ len7) → ((c9 = true → Z false) ∧ (c9 = false → loopW (σ := Int) (fun i13 K16 => ∀ len17 : Int, len17 = (nodes.length : Int) → ∀ c19 : Bool, c19 = decide (i13 < len17) → ((c19 = true → joinW (fun (J21 : Bool → Prop) => (0 ≤ i13 ∧ i13 < nodes.length) ∧ ∀ x31 : Int, x31 = at' nodes i13 → (agent.nodes.length ≤ 1048576) ∧ ∀ r34 : Bool, r34 = isNodeB agent x31 → ((r34 = true → ((0 : Int) ≤ 0 ∧ (0 : Int) ≤ i13 ∧ i13 ≤ nodes.length) ∧ ∀ l36 : List Int, l36 = (nodes.take i13.toNat).drop 0 → (0 ≤ i13 ∧ i13 < nodes.length) ∧ ∀ x39 : Int, x39 = at' nodes i13 → (l36.length ≤ 1048576) ∧ ∀ r43 : Bool, r43 = hasI l36 x31 → ((r43 = true → J21 (true)) ∧ (r43 = false → (0 ≤ i13 ∧ i13 < nodes.length) ∧ ∀ x45 : Int, x45 = at' nodes i13 → (0 ≤ x31 ∧ x31 < agent.nodes.length) ∧ ∀ x49 : GNode, x49 = at' agent.nodes x31 → (0 ≤ i13 ∧ i13 < redex.nodes.length) ∧ ∀ x52 : GNode, x52 = at' redex.nodes i13 → ∀ c54 : Bool, c54 = decide (x49.control ≠ x52.control) → J21 (c54)))) ∧ (r34 = false → J21 (true)))) (fun b24 => ((b24 = true → Z false) ∧ (b24 = false → (I64 (i13 + 1)) ∧ ∀ v28 : Int, v28 = i13 + 1 → K16 (v28))))) ∧ (c19 = false → Z true))) (0)))
theorem l8Images_vc (redex agent : Big) (nodes : List Int) (h : l8Images_pre redex agent nodes) : l8Images_wp redex agent nodes (fun y => y = l8Images redex agent nodes) := by
  unfold l8Images_wp
  obtain ⟨h1, h2⟩ := h
  have no : ¬ ImagesP redex agent nodes → false = l8Images redex agent nodes := fun h => by simp [l8Images, h]
  simp only [forall_eq, decide_eq_true_eq, decide_eq_false_iff_not, List.drop_zero]
  refine ⟨fun h3 => no fun hI => h3 (by have := hI.1.1; omega), fun h3 => ?_⟩
  have hnode : ∀ x, isNodeB agent x = true → 0 ≤ x ∧ x < agent.nodes.length := fun x hx => by
    simp only [isNodeB, within, Bool.and_eq_true, decide_eq_true_eq] at hx; omega
  refine loopW.up1 nodes.length (fun k => ∀ i : Nat, i < k → (isNodeB agent (at' nodes (i : Int)) = true ∧ at' nodes (i : Int) ∉ nodes.take i) ∧ (at' agent.nodes (at' nodes (i : Int))).control = (at' redex.nodes (i : Int)).control) (fun i hi => by omega) ?_
  rintro k K hk hI IH
  refine ⟨fun h4 => ⟨fun c => c = true ↔ ¬ ((isNodeB agent (at' nodes (k : Int)) = true ∧ at' nodes (k : Int) ∉ nodes.take k) ∧ (at' agent.nodes (at' nodes (k : Int))).control = (at' redex.nodes (k : Int)).control), ⟨by omega, h2, fun h5 => ⟨by omega, by omega, by simp; omega, fun h6 => ?_, fun h6 => ⟨by omega, hnode _ h5, by omega, ?_⟩⟩, fun h5 => iff_of_true rfl (by rw [h5]; simp)⟩, fun c hJ => ⟨fun h5 => no fun hP => hJ.1 h5 ⟨hP.1.2 k (by omega), hP.2 k (by omega)⟩, fun h5 => ⟨by simp only [I64]; omega, IH (by omega) fun i hi => ?_⟩⟩⟩, fun h4 => ?_⟩
  · rw [Int.toNat_natCast] at h6
    exact iff_of_true rfl fun h7 => h7.1.2 (hasI_iff.1 h6)
  · rw [Int.toNat_natCast] at h6
    simp only [decide_eq_true_eq]
    exact ⟨fun h7 h8 => h7 h8.2, fun h7 h8 => h7 ⟨⟨h5, hasI_no.1 h6⟩, h8⟩⟩
  · rcases Nat.lt_or_ge i k with h6 | h6
    · exact hI i h6
    · rw [show i = k by omega]
      exact Classical.not_not.1 fun h => by rw [hJ.2 h] at h5; cases h5
  · have hP : ImagesP redex agent nodes := ⟨⟨by omega, fun i hi => (hI i (by omega)).1⟩, fun i hi => (hI i (by omega)).2⟩
    simp [l8Images, hP]
def ParentsP (redex agent : Big) (m : Match) : Prop := ∀ k : Nat, k < redex.nodes.length → (at' agent.nodes (at' m.nodes (k : Int))).parent = parentImg redex m (k : Int)
open Classical in
noncomputable def l8Parents (redex agent : Big) (m : Match) : Bool := decide (ParentsP redex agent m)
abbrev l8Parents_pre (redex agent : Big) (m : Match) : Prop := (∃ sig, Pair sig redex agent) ∧ InNodes agent m.nodes redex.nodes.length ∧ (m.roots.length : Int) = redex.roots
def l8Parents_wp (redex : Big) (agent : Big) (m : Match) (Z : Bool → Prop) : Prop :=
  loopW (σ := Int) (fun i8 K11 => ∀ len12 : Int, len12 = (m.nodes.length : Int) → ∀ c14 : Bool, c14 = decide (i8 < len12) → ((c14 = true → (0 ≤ i8 ∧ i8 < redex.nodes.length) ∧ ∀ x17 : GNode, x17 = at' redex.nodes i8 → ∀ c19 : Bool, c19 = decide (0 ≤ x17.parent) → ((c19 = true → (0 ≤ x17.parent ∧ x17.parent < m.nodes.length) ∧ ∀ x23 : Int, x23 = at' m.nodes x17.parent → (0 ≤ i8 ∧ i8 < m.nodes.length) ∧ ∀ x26 : Int, x26 = at' m.nodes i8 → (0 ≤ x26 ∧ x26 < agent.nodes.length) ∧ ∀ x29 : GNode, x29 = at' agent.nodes x26 → ∀ c31 : Bool, c31 = decide (x29.parent ≠ x23) → ((c31 = true → Z false) ∧ (c31 = false → (I64 (i8 + 1)) ∧ ∀ v35 : Int, v35 = i8 + 1 → K11 (v35)))) ∧ (c19 = false → (I64 ((-1) - x17.parent)) ∧ ∀ v38 : Int, v38 = (-1) - x17.parent → (0 ≤ v38 ∧ v38 < m.roots.length) ∧ ∀ x41 : Int, x41 = at' m.roots v38 → (0 ≤ i8 ∧ i8 < m.nodes.length) ∧ ∀ x44 : Int, x44 = at' m.nodes i8 → (0 ≤ x44 ∧ x44 < agent.nodes.length) ∧ ∀ x47 : GNode, x47 = at' agent.nodes x44 → ∀ c49 : Bool, c49 = decide (x47.parent ≠ x41) → ((c49 = true → Z false) ∧ (c49 = false → (I64 (i8 + 1)) ∧ ∀ v53 : Int, v53 = i8 + 1 → K11 (v53)))))) ∧ (c14 = false → Z true))) (0)
theorem l8Parents_vc (redex agent : Big) (m : Match) (h : l8Parents_pre redex agent m) : l8Parents_wp redex agent m (fun y => y = l8Parents redex agent m) := by
  unfold l8Parents_wp
  obtain ⟨⟨sig, hP⟩, ⟨hlen, hin⟩, hroots⟩ := h
  have no : ¬ ParentsP redex agent m → false = l8Parents redex agent m := fun h => by simp [l8Parents, h]
  have hr8 := hP.r.len
  have hrr := hP.r.roots
  simp only [forall_eq, decide_eq_true_eq, decide_eq_false_iff_not]
  refine loopW.up1 m.nodes.length (fun k => ∀ j : Nat, j < k → (at' agent.nodes (at' m.nodes (j : Int))).parent = parentImg redex m (j : Int)) (fun j hj => by omega) ?_
  rintro k K hk hI IH
  refine ⟨fun hc => ?_, fun hc => ?_⟩
  · have hk1 : k < redex.nodes.length := by omega
    have hpar := hP.r.parAt (i := k) ⟨by omega, by omega⟩
    have him := hin k (by omega)
    have hnext : (at' agent.nodes (at' m.nodes (k : Int))).parent = parentImg redex m (k : Int) → ∀ j : Nat, j < k + 1 → (at' agent.nodes (at' m.nodes (j : Int))).parent = parentImg redex m (j : Int) := fun h j hj => by
      rcases Nat.lt_or_ge j k with h1 | h1
      · exact hI j h1
      · rw [show j = k by omega]; exact h
    refine ⟨by omega, fun h1 => ?_, fun h1 => ?_⟩
    · have hx : at' m.nodes (at' redex.nodes (k : Int)).parent = parentImg redex m k := by rw [parentImg, if_pos h1]
      rw [hx]
      exact ⟨by omega, by omega, him, fun h2 => no fun hA => h2 (hA k hk1), fun h2 => ⟨by simp only [I64]; omega, IH (by omega) (hnext (Classical.not_not.1 h2))⟩⟩
    · have hx : at' m.roots (-1 - (at' redex.nodes (k : Int)).parent) = parentImg redex m k := by rw [parentImg, if_neg h1]
      rw [hx]
      exact ⟨by simp only [I64]; omega, by omega, by omega, him, fun h2 => no fun hA => h2 (hA k hk1), fun h2 => ⟨by simp only [I64]; omega, IH (by omega) (hnext (Classical.not_not.1 h2))⟩⟩
  · have hA : ParentsP redex agent m := fun j hj => hI j (by omega)
    simp [l8Parents, hA]
def KidsP (redex agent : Big) (m : Match) : Prop := ∀ k : Nat, k < redex.nodes.length → (holesB redex (k : Int)).length = 0 → ∀ c ∈ kidsB agent (at' m.nodes (k : Int)), c ∈ m.nodes
open Classical in
noncomputable def l8Kids (redex agent : Big) (m : Match) : Bool := decide (KidsP redex agent m)
abbrev l8Kids_pre (redex agent : Big) (m : Match) : Prop := l8Parents_pre redex agent m
def l8Kids_wp (redex : Big) (agent : Big) (m : Match) (Z : Bool → Prop) : Prop :=
  loopW (σ := Int) (fun i8 K11 => ∀ len12 : Int, len12 = (m.nodes.length : Int) → ∀ c14 : Bool, c14 = decide (i8 < len12) → ((c14 = true → (0 ≤ i8 ∧ i8 < m.nodes.length) ∧ ∀ x17 : Int, x17 = at' m.nodes i8 → (l2Kids_pre agent x17) ∧ ∀ r20 : List Int, r20 = l2Kids agent x17 → loopW (σ := Int) (fun k23 K26 => joinW (fun (J27 : Bool → Prop) => ∀ len44 : Int, len44 = (r20.length : Int) → ∀ c46 : Bool, c46 = decide (k23 < len44) → ((c46 = true → (l2Holes_pre redex i8) ∧ ∀ r49 : List Int, r49 = l2Holes redex i8 → ∀ len50 : Int, len50 = (r49.length : Int) → ∀ c52 : Bool, c52 = decide (len50 = 0) → J27 (c52)) ∧ (c46 = false → J27 (false)))) (fun b30 => ((b30 = true → (0 ≤ k23 ∧ k23 < r20.length) ∧ ∀ x34 : Int, x34 = at' r20 k23 → (m.nodes.length ≤ 1048576) ∧ ∀ r37 : Bool, r37 = hasI m.nodes x34 → ((r37 = true → (I64 (k23 + 1)) ∧ ∀ v39 : Int, v39 = k23 + 1 → K26 (v39)) ∧ (r37 = false → Z false))) ∧ (b30 = false → (I64 (i8 + 1)) ∧ ∀ v42 : Int, v42 = i8 + 1 → K11 (v42))))) (0)) ∧ (c14 = false → Z true))) (0)
theorem l8Kids_vc (redex agent : Big) (m : Match) (h : l8Kids_pre redex agent m) : l8Kids_wp redex agent m (fun y => y = l8Kids redex agent m) := by
  unfold l8Kids_wp
  obtain ⟨⟨sig, hP⟩, ⟨hlen, hin⟩, hroots⟩ := h
  have no : ¬ KidsP redex agent m → false = l8Kids redex agent m := fun h => by simp [l8Kids, h]
  have hr8 := hP.r.len
  have ha8 := hP.a.len
  have hs4 := hP.r.slen
  simp only [forall_eq, decide_eq_true_eq, decide_eq_false_iff_not, l2Kids, l2Holes]
  refine loopW.up1 m.nodes.length (fun k => ∀ j : Nat, j < k → (holesB redex (j : Int)).length = 0 → ∀ c ∈ kidsB agent (at' m.nodes (j : Int)), c ∈ m.nodes) (fun j hj => by omega) ?_
  rintro k K hk hI IH
  refine ⟨fun hc => ?_, fun hc => ?_⟩
  · have him := hin k (by omega)
    have hkl : (kidsB agent (at' m.nodes (k : Int))).length ≤ agent.nodes.length := idxs_len _ _ _
    refine ⟨by omega, by simp only [l2Kids_pre]; omega, ?_⟩
    refine loopW.up1 (kidsB agent (at' m.nodes (k : Int))).length (fun q => ∀ j : Nat, j < q → at' (kidsB agent (at' m.nodes (k : Int))) (j : Int) ∈ m.nodes) (fun j hj => by omega) ?_
    rintro q K2 hq hI2 IH2
    refine ⟨fun c => c = true ↔ (q < (kidsB agent (at' m.nodes (k : Int))).length ∧ (holesB redex (k : Int)).length = 0), ⟨fun h1 => ⟨by simp only [l2Holes_pre]; omega, by simp only [decide_eq_true_eq]; omega⟩, fun h1 => iff_of_false (by simp) (by omega)⟩, fun c hJ => ⟨fun h1 => ?_, fun h1 => ⟨by simp only [I64]; omega, IH (by omega) fun j hj h0 c hcm => ?_⟩⟩⟩
    · have h2 := hJ.1 h1
      refine ⟨by omega, by omega, fun h3 => ⟨by simp only [I64]; omega, IH2 h2.1 fun j hj => ?_⟩, fun h3 => no fun hA => ?_⟩
      · rcases Nat.lt_or_ge j q with h4 | h4
        · exact hI2 j h4
        · rw [show j = q by omega]; exact hasI_iff.1 h3
      · exact hasI_no.1 h3 (hA k (by omega) h2.2 _ (at_mem ⟨by omega, by omega⟩))
    · rcases Nat.lt_or_ge j k with h2 | h2
      · exact hI j h2 h0 c hcm
      · rw [show j = k by omega] at h0 hcm
        obtain ⟨z, hz, rfl⟩ := List.getElem_of_mem hcm
        have hql : ¬ q < (kidsB agent (at' m.nodes (k : Int))).length := fun h => by rw [hJ.2 ⟨h, h0⟩] at h1; cases h1
        have := hI2 z (by omega)
        rwa [at_lt hz] at this
  · have hA : KidsP redex agent m := fun j hj => hI j (by omega)
    simp [l8Kids, hA]
abbrev l2Place (b : Big) (p : Int) : Bool := within p (-b.roots) (b.nodes.length - 1)
abbrev l2Place_pre (b : Big) (_ : Int) : Prop := b.nodes.length ≤ 1048576 ∧ I64 (-b.roots)
def l2Place_wp (b : Big) (x : Int) (Z : Bool → Prop) : Prop :=
  (I64 (-b.roots)) ∧ ∀ v5 : Int, v5 = -b.roots → ∀ len7 : Int, len7 = (b.nodes.length : Int) → (I64 (len7 - 1)) ∧ ∀ v10 : Int, v10 = len7 - 1 → ∀ r12 : Bool, r12 = within x v5 v10 → Z r12
theorem l2Place_vc (b : Big) (p : Int) (h : l2Place_pre b p) : l2Place_wp b p (fun y => y = l2Place b p) := by
  unfold l2Place_wp
  simp only [forall_eq]
  exact ⟨h.2, by have := h.1; simp only [I64]; omega, by trivial⟩
open Classical in
noncomputable def l8Places (redex agent : Big) (m : Match) : Bool := decide (RootsOk redex agent m)
abbrev l8Places_pre (redex agent : Big) (m : Match) : Prop := DownB agent ∧ MSz m ∧ I64 (-agent.roots)
def l8Places_wp (redex : Big) (agent : Big) (m : Match) (Z : Bool → Prop) : Prop :=
  loopW (σ := Int) (fun r8 K11 => ∀ len12 : Int, len12 = (m.roots.length : Int) → ∀ c14 : Bool, c14 = decide (r8 < len12) → ((c14 = true → joinW (fun (J16 : Bool → Prop) => (0 ≤ r8 ∧ r8 < m.roots.length) ∧ ∀ x26 : Int, x26 = at' m.roots r8 → (l2Place_pre agent x26) ∧ ∀ r29 : Bool, r29 = l2Place agent x26 → ((r29 = true → (0 ≤ r8 ∧ r8 < m.roots.length) ∧ ∀ x31 : Int, x31 = at' m.roots r8 → (l8Inside_pre agent m x26) ∧ ∀ r35 : Bool, r35 = l8Inside agent m x26 → J16 (r35)) ∧ (r29 = false → J16 (true)))) (fun b19 => ((b19 = true → Z false) ∧ (b19 = false → (I64 (r8 + 1)) ∧ ∀ v23 : Int, v23 = r8 + 1 → K11 (v23))))) ∧ (c14 = false → ∀ len36 : Int, len36 = (m.roots.length : Int) → ∀ c38 : Bool, c38 = decide (len36 = redex.roots) → Z c38))) (0)
theorem l8Places_vc (redex agent : Big) (m : Match) (h : l8Places_pre redex agent m) : l8Places_wp redex agent m (fun y => y = l8Places redex agent m) := by
  unfold l8Places_wp
  obtain ⟨hd, hm, hr⟩ := h
  have hd1 := hd.1
  have no : ¬ RootsOk redex agent m → false = l8Places redex agent m := fun h => by simp [l8Places, h]
  simp only [forall_eq, decide_eq_true_eq, decide_eq_false_iff_not]
  refine loopW.up1 m.roots.length (fun k => ∀ i : Nat, i < k → -agent.roots ≤ at' m.roots (i : Int) ∧ at' m.roots (i : Int) < agent.nodes.length ∧ underB agent m.nodes (at' m.roots (i : Int)) = false) (fun i hi => by omega) ?_
  rintro k K hk hI IH
  refine ⟨fun h1 => ⟨fun c => c = true ↔ ¬ (-agent.roots ≤ at' m.roots (k : Int) ∧ at' m.roots (k : Int) < agent.nodes.length ∧ underB agent m.nodes (at' m.roots (k : Int)) = false), ⟨by omega, ⟨hd1, hr⟩, fun h2 => ?_, fun h2 => iff_of_true rfl fun h3 => ?_⟩, fun c hJ => ⟨fun h2 => no fun hR => hJ.1 h2 (hR.2 _ (at_mem ⟨by omega, by omega⟩)), fun h2 => ⟨by simp only [I64]; omega, IH (by omega) fun i hi => ?_⟩⟩⟩, fun h1 => ?_⟩
  · simp only [l2Place, within, Bool.and_eq_true, decide_eq_true_eq] at h2
    refine ⟨by omega, ⟨hd, by omega, hm.1⟩, ?_⟩
    cases hu : underB agent m.nodes (at' m.roots (k : Int)) with
    | false => exact iff_of_false (by rw [l8Inside, hu]; simp) fun h => h ⟨by omega, by omega, rfl⟩
    | true => exact iff_of_true (by rw [l8Inside, hu]) fun h => by cases h.2.2
  · simp only [l2Place, within, Bool.and_eq_false_iff, decide_eq_false_iff_not] at h2
    omega
  · rcases Nat.lt_or_ge i k with h5 | h5
    · exact hI i h5
    · rw [show i = k by omega]
      exact Classical.not_not.1 fun h => by rw [hJ.2 h] at h2; cases h2
  · have hA : ∀ p ∈ m.roots, -agent.roots ≤ p ∧ p < agent.nodes.length ∧ underB agent m.nodes p = false := fun p hp => by
      obtain ⟨z, hz, rfl⟩ := List.getElem_of_mem hp
      have := hI z (by omega)
      rwa [at_lt hz] at this
    by_cases hl : (m.roots.length : Int) = redex.roots
    · have hR : RootsOk redex agent m := ⟨hl, hA⟩
      simp [l8Places, hR, hl]
    · have hR : ¬ RootsOk redex agent m := fun h => hl h.1
      simp [l8Places, hR, hl]
open Classical in
noncomputable def l8Image (redex agent : Big) (m : Match) (l : Int) : Int × Bool := (firstL redex agent m.nodes l, decide (LinkOk redex agent m.nodes l))
abbrev l8Image_pre (redex agent : Big) (m : Match) (l : Int) : Prop := matchLinks_pre redex agent m.nodes ∧ 0 ≤ l ∧ l < redex.edges + redex.outer.length
def l8Image_wp (redex : Big) (agent : Big) (m : Match) (link : Int) (Z : (Int × Bool) → Prop) : Prop :=
  (l2Ports_pre redex link) ∧ ∀ r7 : List (Int × Int), r7 = l2Ports redex link → ((0 : Int) ≤ 0 ∧ (0 : Int) < r7.length) ∧ ∀ x9 : Int × Int, x9 = at' r7 0 → (0 ≤ x9.1 ∧ x9.1 < m.nodes.length) ∧ ∀ x13 : Int, x13 = at' m.nodes x9.1 → (0 ≤ x13 ∧ x13 < agent.nodes.length) ∧ ∀ x16 : GNode, x16 = at' agent.nodes x13 → ((0 : Int) ≤ 0 ∧ (0 : Int) < r7.length) ∧ ∀ x19 : Int × Int, x19 = at' r7 0 → (0 ≤ x9.2 ∧ x9.2 < x16.links.length) ∧ ∀ x24 : Int, x24 = at' x16.links x9.2 → loopW (σ := Int) (fun i29 K32 => ∀ len33 : Int, len33 = (r7.length : Int) → ∀ c35 : Bool, c35 = decide (i29 < len33) → ((c35 = true → (0 ≤ i29 ∧ i29 < r7.length) ∧ ∀ x38 : Int × Int, x38 = at' r7 i29 → (0 ≤ x38.1 ∧ x38.1 < m.nodes.length) ∧ ∀ x42 : Int, x42 = at' m.nodes x38.1 → (0 ≤ x42 ∧ x42 < agent.nodes.length) ∧ ∀ x45 : GNode, x45 = at' agent.nodes x42 → (0 ≤ i29 ∧ i29 < r7.length) ∧ ∀ x48 : Int × Int, x48 = at' r7 i29 → (0 ≤ x38.2 ∧ x38.2 < x45.links.length) ∧ ∀ x53 : Int, x53 = at' x45.links x38.2 → ∀ c55 : Bool, c55 = decide (x53 ≠ x24) → ((c55 = true → Z (x24, false)) ∧ (c55 = false → (I64 (i29 + 1)) ∧ ∀ v59 : Int, v59 = i29 + 1 → K32 (v59)))) ∧ (c35 = false → ∀ c61 : Bool, c61 = decide (link < redex.edges) → ((c61 = true → joinW (fun (J63 : Bool → Prop) => ∀ c69 : Bool, c69 = decide (x24 < agent.edges) → ((c69 = true → (l2Ports_pre agent x24) ∧ ∀ r72 : List (Int × Int), r72 = l2Ports agent x24 → ∀ len73 : Int, len73 = (r72.length : Int) → ∀ len75 : Int, len75 = (r7.length : Int) → ∀ c77 : Bool, c77 = decide (len73 = len75) → J63 (c77)) ∧ (c69 = false → J63 (false)))) (fun b66 => Z (x24, b66))) ∧ (c61 = false → Z (x24, true)))))) (1)
theorem RedexP.port {b : Big} (h : RedexP b) {l : Int} (h0 : 0 ≤ l) (h1 : l < b.edges + b.outer.length) : 0 < (portsB b l).length := by
  have h2 := h.2.2.2 l h0 h1
  have h3 : b.inner = [] := List.eq_nil_of_length_eq_zero h.1
  simp only [isIdle, l2Idle, endsB, h3, List.filter_nil, List.map_nil, List.length_nil, decide_true, Bool.and_true, decide_eq_false_iff_not] at h2
  omega
theorem firstOf_at {agent : Big} {nodes : List Int} {P : List (Int × Int)} (h : 0 < P.length) : firstOf agent nodes P = imgAt agent nodes (at' P 0) := by
  cases P with
  | nil => simp at h
  | cons a P => rfl
theorem l8Image_vc (redex agent : Big) (m : Match) (l : Int) (h : l8Image_pre redex agent m l) : l8Image_wp redex agent m l (fun y => y = l8Image redex agent m l) := by
  unfold l8Image_wp
  obtain ⟨hpre, hl0, hl1⟩ := h
  have hpre2 := hpre
  obtain ⟨⟨sig, hP⟩, _⟩ := hpre2
  have hne := hP.red.port hl0 hl1
  have hLr := hP.r.linkSz
  have hLa := hP.a.linkSz
  have hin : ∀ k : Nat, k < (portsB redex l).length → _ := fun k hk => img_in hpre (l := l) (p := at' (portsB redex l) (k : Int)) (at_mem ⟨by omega, by omega⟩)
  have h0 := hin 0 hne
  have hf : imgAt agent m.nodes (at' (portsB redex l) 0) = firstL redex agent m.nodes l := (firstOf_at hne).symm
  have hpl : (portsB redex l).length ≤ 1024 * 1024 := Nat.le_trans (portsTo_len hLr.2.1 l _ (Nat.le_refl _)) (by have := hLr.1; omega)
  simp only [forall_eq, decide_eq_true_eq, decide_eq_false_iff_not, l2Ports]
  have hun : ∀ p : Int × Int, at' (at' agent.nodes (at' m.nodes p.1)).links p.2 = imgAt agent m.nodes p := fun p => rfl
  simp only [hun, hf]
  refine ⟨hLr, ⟨by omega, by omega⟩, h0.1, h0.2.1, ⟨by omega, by omega⟩, h0.2.2.1, ?_⟩
  have res : ∀ b : Bool, (b = true ↔ LinkOk redex agent m.nodes l) → (firstL redex agent m.nodes l, b) = l8Image redex agent m l := fun b hb => by
    rw [l8Image]
    congr 1
    rw [Bool.eq_iff_iff, hb]
    simp
  refine loopW.byM (fun i => ∃ k : Nat, i = k ∧ k ≤ (portsB redex l).length ∧ ∀ j : Nat, j < k → imgAt agent m.nodes (at' (portsB redex l) (j : Int)) = firstL redex agent m.nodes l) (fun i => ((portsB redex l).length - i).toNat) ⟨1, rfl, by omega, fun j hj => by rw [show j = 0 by omega]; exact hf⟩ ?_
  rintro _ ⟨k, rfl, hk, hI⟩
  refine ⟨fun h1 => ?_, fun h1 => ?_⟩
  · have hk1 := hin k (by omega)
    refine ⟨by omega, hk1.1, hk1.2.1, by omega, hk1.2.2.1, fun h2 => res _ (iff_of_false (by simp) fun hL => h2 (hL.1 _ (at_mem ⟨by omega, by omega⟩))), fun h2 => ⟨by simp only [I64]; omega, ⟨k + 1, by omega, by omega, fun j hj => ?_⟩, by omega⟩⟩
    rcases Nat.lt_or_ge j k with h3 | h3
    · exact hI j h3
    · rw [show j = k by omega]; exact Classical.not_not.1 h2
  · have hall : ∀ p ∈ portsB redex l, imgAt agent m.nodes p = firstL redex agent m.nodes l := fun p hp => by
      obtain ⟨z, hz, rfl⟩ := List.getElem_of_mem hp
      have := hI z (by omega)
      rwa [at_lt hz] at this
    refine ⟨fun h2 => ⟨fun c => c = true ↔ LinkOk redex agent m.nodes l, ⟨fun h3 => ⟨hLa, ?_⟩, fun h3 => iff_of_false (by simp) fun hL => h3 (hL.2 h2).1⟩, fun c hc => res c hc⟩, fun h2 => res true (iff_of_true rfl ⟨hall, fun h => absurd h h2⟩)⟩
    simp only [decide_eq_true_eq]
    exact ⟨fun h4 => ⟨hall, fun _ => ⟨h3, by omega⟩⟩, fun hL => by have := (hL.2 h2).2; omega⟩
noncomputable abbrev l8Links (redex agent : Big) (m : Match) := linksR redex agent m.nodes
abbrev l8Links_pre (redex agent : Big) (m : Match) : Prop := matchLinks_pre redex agent m.nodes
def l8Links_wp (redex : Big) (agent : Big) (m : Match) (Z : ((List Int) × Bool) → Prop) : Prop :=
  loopW (σ := Int × (List Int)) (fun (link16, l17) K21 => ∀ len22 : Int, len22 = (redex.outer.length : Int) → (I64 (redex.edges + len22)) ∧ ∀ v25 : Int, v25 = redex.edges + len22 → ∀ c27 : Bool, c27 = decide (link16 < v25) → ((c27 = true → (l8Image_pre redex agent m link16) ∧ ∀ r30 : Int × Bool, r30 = l8Image redex agent m link16 → ((r30.2 = true → (l17.length + 1 ≤ 1073741824) ∧ ∀ l38 : List Int, l38 = l17 ++ [r30.1] → (I64 (link16 + 1)) ∧ ∀ v48 : Int, v48 = link16 + 1 → K21 (v48, l38)) ∧ (r30.2 = false → Z (([] : List Int), false)))) ∧ (c27 = false → Z (l17, true)))) (0, ([] : List Int))
theorem l8Links_vc (redex agent : Big) (m : Match) (h : l8Links_pre redex agent m) : l8Links_wp redex agent m (fun y => y = l8Links redex agent m) := by
  unfold l8Links_wp
  have hpre := h
  obtain ⟨⟨sig, hP⟩, _⟩ := h
  have hE := hP.r.edges
  have hO := hP.r.outer
  simp only [forall_eq, decide_eq_true_eq, decide_eq_false_iff_not]
  refine loopW.upL (redex.edges + redex.outer.length).toNat (fun k out => out = (List.range k).map (fun l : Nat => firstL redex agent m.nodes (l : Int)) ∧ ∀ l : Nat, l < k → LinkOk redex agent m.nodes (l : Int)) [] ⟨rfl, fun l hl => by omega⟩ ?_
  rintro k out K hk ⟨rfl, hI⟩ IH
  dsimp only
  refine ⟨by simp only [I64]; omega, fun h1 => ⟨⟨hpre, by omega, h1⟩, fun h2 => ⟨by simp; omega, by simp only [I64]; omega, IH (by omega) _ ⟨?_, fun l hl => ?_⟩⟩, fun h2 => ?_⟩, fun h1 => ?_⟩
  · simp [List.range_succ, l8Image]
  · rcases Nat.lt_or_ge l k with h3 | h3
    · exact hI l h3
    · rw [show l = k by omega]
      simpa [l8Image] using h2
  · rw [l8Links, linksR_no fun hL => ?_]
    have := hL k (by omega) h1
    simp [l8Image] at h2
    exact h2 this
  · rw [l8Links, linksR_yes fun l h2 h3 => ?_, show k = (redex.edges + redex.outer.length).toNat by omega]
    have := hI l.toNat (by omega)
    rwa [show ((l.toNat : Nat) : Int) = l by omega] at this
noncomputable abbrev l8Match (redex agent : Big) (m : Match) : Bool := matchB redex agent m
abbrev l8Match_pre (redex agent : Big) (m : Match) : Prop := isMatch_pre redex agent m
def l8Match_wp (redex : Big) (agent : Big) (m : Match) (Z : Bool → Prop) : Prop :=
  joinW (fun (J6 : Bool → Prop) => (l8Images_pre redex agent m.nodes) ∧ ∀ r15 : Bool, r15 = l8Images redex agent m.nodes → ((r15 = true → (l8Places_pre redex agent m) ∧ ∀ r17 : Bool, r17 = l8Places redex agent m → ((r17 = true → (l8Parents_pre redex agent m) ∧ ∀ r19 : Bool, r19 = l8Parents redex agent m → ((r19 = true → (l8Kids_pre redex agent m) ∧ ∀ r21 : Bool, r21 = l8Kids redex agent m → J6 ((!r21))) ∧ (r19 = false → J6 (true)))) ∧ (r17 = false → J6 (true)))) ∧ (r15 = false → J6 (true)))) (fun b9 => ((b9 = true → Z false) ∧ (b9 = false → (l8Links_pre redex agent m) ∧ ∀ r13 : (List Int) × Bool, r13 = l8Links redex agent m → Z r13.2)))
theorem l8Match_vc (redex agent : Big) (m : Match) (h : l8Match_pre redex agent m) : l8Match_wp redex agent m (fun y => y = l8Match redex agent m) := by
  unfold l8Match_wp
  obtain ⟨⟨sig, hP⟩, hm⟩ := h
  have ha8 := hP.a.len
  have har := hP.a.roots
  simp only [forall_eq]
  have hIm : ∀ b : Bool, l8Images redex agent m.nodes = b → (b = true ↔ ImagesP redex agent m.nodes) := fun b hb => by rw [← hb]; simp [l8Images]
  have hPl : ∀ b : Bool, l8Places redex agent m = b → (b = true ↔ RootsOk redex agent m) := fun b hb => by rw [← hb]; simp [l8Places]
  have hPa : ∀ b : Bool, l8Parents redex agent m = b → (b = true ↔ ParentsP redex agent m) := fun b hb => by rw [← hb]; simp [l8Parents]
  have hKi : ∀ b : Bool, l8Kids redex agent m = b → (b = true ↔ KidsP redex agent m) := fun b hb => by rw [← hb]; simp [l8Kids]
  have hin : ImagesP redex agent m.nodes → InNodes agent m.nodes redex.nodes.length := fun hI => ⟨hI.1.1, fun i hi => by have := (hI.1.2 i hi).1; simp only [isNodeB, within, Bool.and_eq_true, decide_eq_true_eq] at this; omega⟩
  have spl : MatchP redex agent m ↔ (ImagesP redex agent m.nodes ∧ RootsOk redex agent m ∧ ParentsP redex agent m ∧ KidsP redex agent m) ∧ LinksP redex agent m.nodes := by
    constructor
    · rintro ⟨h1, h2, h3, h4⟩
      exact ⟨⟨⟨h1, fun k hk => (h3 k hk).1⟩, h2, fun k hk => (h3 k hk).2.1, fun k hk => (h3 k hk).2.2⟩, h4⟩
    · rintro ⟨⟨h1, h2, h3, h4⟩, h5⟩
      exact ⟨h1.1, h2, fun k hk => ⟨h1.2 k hk, h3 k hk, h4 k hk⟩, h5⟩
  refine ⟨fun c => c = true ↔ ¬ (ImagesP redex agent m.nodes ∧ RootsOk redex agent m ∧ ParentsP redex agent m ∧ KidsP redex agent m), ⟨⟨hm.1, by omega⟩, fun h1 => ⟨⟨hP.a.downB, hm, by simp only [I64]; omega⟩, fun h2 => ?_, fun h2 => ?_⟩, fun h1 => ?_⟩, fun c hJ => ⟨fun h1 => (matchB_no fun hM => hJ.1 h1 (spl.1 hM).1).symm, fun h1 => ?_⟩⟩
  · have i1 := (hIm _ h1).1 rfl
    have i2 := (hPl _ h2).1 rfl
    refine ⟨⟨⟨sig, hP⟩, hin i1, i2.1⟩, fun h3 => ?_, fun h3 => ?_⟩
    · have i3 := (hPa _ h3).1 rfl
      refine ⟨⟨⟨sig, hP⟩, hin i1, i2.1⟩, ?_⟩
      cases h4 : l8Kids redex agent m with
      | true => exact iff_of_false (by simp) fun h => h ⟨i1, i2, i3, (hKi _ h4).1 rfl⟩
      | false => exact iff_of_true rfl fun h => by have := (hKi _ h4).2 h.2.2.2; cases this
    · exact iff_of_true rfl fun h => by have := (hPa _ h3).2 h.2.2.1; cases this
  · exact iff_of_true rfl fun h => by have := (hPl _ h2).2 h.2.1; cases this
  · exact iff_of_true rfl fun h => by have := (hIm _ h1).2 h.1; cases this
  · have hA := Classical.not_not.1 fun h => by rw [hJ.2 h] at h1; cases h1
    refine ⟨⟨⟨sig, hP⟩, hin hA.1, hA.1.2⟩, ?_⟩
    by_cases hL : LinksP redex agent m.nodes
    · rw [l8Links, linksR_yes hL]
      exact (matchB_iff.2 (spl.2 ⟨hA, hL⟩)).symm
    · rw [l8Links, linksR_no hL]
      exact (matchB_no fun hM => hL hM.2.2.2).symm
noncomputable abbrev l8Given (sig : Sig) (redex agent : Big) (m : Match) : Bool := matching sig redex agent && matchB redex agent m
abbrev l8Given_pre (sig : Sig) (redex agent : Big) (m : Match) : Prop := IsMatch_pre sig redex agent m
def l8Given_wp (sig : List Control) (redex : Big) (agent : Big) (m : Match) (Z : Bool → Prop) : Prop :=
  joinW (fun (J6 : Bool → Prop) => (l8Both_pre sig redex agent) ∧ ∀ r13 : Bool, r13 = l8Both sig redex agent → ((r13 = true → (l8Match_pre redex agent m) ∧ ∀ r15 : Bool, r15 = l8Match redex agent m → J6 (r15)) ∧ (r13 = false → J6 (false)))) (fun b9 => Z b9)
theorem l8Given_vc (sig : Sig) (redex agent : Big) (m : Match) (h : l8Given_pre sig redex agent m) : l8Given_wp sig redex agent m (fun y => y = l8Given sig redex agent m) := by
  unfold l8Given_wp
  simp only [forall_eq]
  refine ⟨fun c => c = l8Given sig redex agent m, ⟨⟨h.1, h.2.1⟩, fun h1 => ⟨⟨⟨sig, matching_pair h1⟩, h.2.2⟩, ?_⟩, fun h1 => ?_⟩, fun c h => h⟩
  · rw [l8Given, show matching sig redex agent = true from h1]; rfl
  · rw [l8Given, show matching sig redex agent = false from h1]; rfl
abbrev l8Quiet (sig : Sig) (agent : Big) (p : Int) : Bool := underB agent (passives sig agent) p
abbrev l8Quiet_pre (sig : Sig) (agent : Big) (p : Int) : Prop := ValidB sig agent ∧ p < agent.nodes.length
def l8Quiet_wp (sig : List Control) (agent : Big) (place : Int) (Z : Bool → Prop) : Prop :=
  loopW (σ := Int) (fun placeV6 K9 => ∀ c10 : Bool, c10 = decide (0 ≤ placeV6) → ((c10 = true → (0 ≤ placeV6 ∧ placeV6 < agent.nodes.length) ∧ ∀ x13 : GNode, x13 = at' agent.nodes placeV6 → (0 ≤ x13.control ∧ x13.control < sig.length) ∧ ∀ x16 : Control, x16 = at' sig x13.control → ∀ c18 : Bool, c18 = decide (x16.kind = 1) → ((c18 = true → Z true) ∧ (c18 = false → (0 ≤ placeV6 ∧ placeV6 < agent.nodes.length) ∧ ∀ x21 : GNode, x21 = at' agent.nodes placeV6 → K9 (x13.parent)))) ∧ (c10 = false → Z false))) (place)
theorem l8Quiet_vc (sig : Sig) (agent : Big) (p : Int) (h : l8Quiet_pre sig agent p) : l8Quiet_wp sig agent p (fun y => y = l8Quiet sig agent p) := by
  unfold l8Quiet_wp
  obtain ⟨hV, hp⟩ := h
  have hd := hV.downB.2
  simp only [forall_eq, decide_eq_true_eq, decide_eq_false_iff_not]
  have hmem : ∀ q : Int, 0 ≤ q → q < agent.nodes.length → (q ∈ passives sig agent ↔ (at' sig (at' agent.nodes q).control).kind = 1) := fun q h0 h1 => by
    rw [passives, mem_idxs]
    simp only [decide_eq_true_eq]
    exact ⟨fun h => h.2.2, fun h => ⟨h0, h1, h⟩⟩
  refine loopW.byM (fun q => q < agent.nodes.length ∧ underB agent (passives sig agent) q = underB agent (passives sig agent) p) (fun q => (q + 1).toNat) ⟨hp, rfl⟩ ?_
  rintro q ⟨h1, h2⟩
  refine ⟨fun h3 => ⟨⟨h3, h1⟩, hV.ctlAt ⟨h3, h1⟩, fun h4 => ?_, fun h4 => ⟨⟨h3, h1⟩, ⟨?_, ?_⟩, ?_⟩⟩, fun h3 => ?_⟩
  · rw [l8Quiet, ← h2, underB_in h3 ((hmem q h3 h1).2 h4)]
  · have := hd q h3 h1; omega
  · rw [← h2, underB_up hd h3 h1 (fun h => h4 ((hmem q h3 h1).1 h))]
  · have := hd q h3 h1; omega
  · rw [l8Quiet, ← h2, underB_neg (by omega)]
abbrev l8Active (sig : Sig) (agent : Big) (m : Match) : Bool := activeB sig agent m
abbrev l8Active_pre (sig : Sig) (agent : Big) (m : Match) : Prop := isActive_pre sig agent m
def l8Active_wp (sig : List Control) (agent : Big) (m : Match) (Z : Bool → Prop) : Prop :=
  loopW (σ := Int) (fun r7 K10 => ∀ len11 : Int, len11 = (m.roots.length : Int) → ∀ c13 : Bool, c13 = decide (r7 < len11) → ((c13 = true → (0 ≤ r7 ∧ r7 < m.roots.length) ∧ ∀ x16 : Int, x16 = at' m.roots r7 → (l8Quiet_pre sig agent x16) ∧ ∀ r19 : Bool, r19 = l8Quiet sig agent x16 → ((r19 = true → Z false) ∧ (r19 = false → (I64 (r7 + 1)) ∧ ∀ v21 : Int, v21 = r7 + 1 → K10 (v21)))) ∧ (c13 = false → Z true))) (0)
theorem l8Active_vc (sig : Sig) (agent : Big) (m : Match) (h : l8Active_pre sig agent m) : l8Active_wp sig agent m (fun y => y = l8Active sig agent m) := by
  unfold l8Active_wp
  obtain ⟨hV, hM, hp⟩ := h
  simp only [forall_eq, decide_eq_true_eq, decide_eq_false_iff_not]
  refine loopW.up1 m.roots.length (fun k => ∀ i : Nat, i < k → underB agent (passives sig agent) (at' m.roots (i : Int)) = false) (fun i hi => by omega) ?_
  rintro k K hk hI IH
  have hM2 := hM.2
  refine ⟨fun h1 => ⟨by omega, ⟨hV, hp _ (at_mem ⟨by omega, by omega⟩)⟩, fun h2 => ?_, fun h2 => ⟨by simp only [I64]; omega, IH (by omega) fun i hi => ?_⟩⟩, fun h1 => ?_⟩
  · have : (m.roots.any fun p => underB agent (passives sig agent) p) = true := List.any_eq_true.2 ⟨_, at_mem (i := (k : Int)) ⟨by omega, by omega⟩, h2⟩
    rw [l8Active, activeB, this]; rfl
  · rcases Nat.lt_or_ge i k with h5 | h5
    · exact hI i h5
    · rw [show i = k by omega]; exact h2
  · have : (m.roots.any fun p => underB agent (passives sig agent) p) = false := List.any_eq_false.2 fun p hp => by
      obtain ⟨z, hz, rfl⟩ := List.getElem_of_mem hp
      have := hI z (by omega)
      rw [at_lt hz] at this
      rw [this]; simp
    rw [l8Active, activeB, this]; rfl
noncomputable abbrev sIsActiveMatch (sig : Sig) (redex agent : Big) (m : Match) := IsActiveMatch sig redex agent m
abbrev sIsActiveMatch_pre (sig : Sig) (redex agent : Big) (m : Match) : Prop := IsMatch_pre sig redex agent m
def sIsActiveMatch_wp (sig : List Control) (redex : Big) (agent : Big) (m : Match) (Z : (Bool × Bool) → Prop) : Prop :=
  (l8Given_pre sig redex agent m) ∧ ∀ r7 : Bool, r7 = l8Given sig redex agent m → ((r7 = true → (l8Active_pre sig agent m) ∧ ∀ r9 : Bool, r9 = l8Active sig agent m → Z (r9, true)) ∧ (r7 = false → Z (false, false)))
theorem sIsActiveMatch_vc (sig : Sig) (redex agent : Big) (m : Match) (h : sIsActiveMatch_pre sig redex agent m) : sIsActiveMatch_wp sig redex agent m (fun y => y = sIsActiveMatch sig redex agent m) := by
  unfold sIsActiveMatch_wp
  simp only [forall_eq]
  refine ⟨h, fun h1 => ⟨matched_active h.2.2 h1, ?_⟩, fun h1 => ?_⟩
  · rw [sIsActiveMatch, IsActiveMatch, if_pos h1]
  · rw [sIsActiveMatch, IsActiveMatch, if_neg (by rw [show (matching sig redex agent && matchB redex agent m) = false from h1]; simp)]
end Go.Ab.Vg

/- The conversion of bytes to a string; laws.markText. -/
namespace Go.Ab
set_option linter.unusedSimpArgs false

end Go.Ab

/- Contract of laws.markText. -/
namespace Go.Ab
open Go.Proofs
set_option linter.unusedSimpArgs false

end Go.Ab

/- The laws' own functions on bigraphs' types: copies, marks, and whether marks are held. -/
namespace Go.Ab.Vg
set_option linter.unusedSimpArgs false
set_option linter.unusedVariables false
theorem list_fill {α : Type} [Inhabited α] {a : List α} {k : Nat} (hk : k < a.length) : (a.take k ++ List.replicate (a.length - k) default).set k a[k] = a.take (k + 1) ++ List.replicate (a.length - (k + 1)) default := by
  rw [List.set_append_right _ _ (by simp; omega)]
  rw [List.take_succ_eq_append_getElem hk, List.append_assoc]
  congr 1
  have h1 : a.length - k = (a.length - (k + 1)) + 1 := by omega
  have h2 : k - (a.take k).length = 0 := by simp; omega
  rw [h1, h2, List.replicate_succ]
  rfl
abbrev filled {α : Type} [Inhabited α] (a : List α) (k : Nat) : List α := a.take k ++ List.replicate (a.length - k) default
theorem filled_len {α : Type} [Inhabited α] {a : List α} {k : Nat} (hk : k ≤ a.length) : (filled a k).length = a.length := by simp [filled]; omega
theorem filled_set {α : Type} [Inhabited α] {a : List α} {k : Nat} (hk : k < a.length) : (filled a k).set k (at' a (k : Int)) = filled a (k + 1) := by rw [at_lt hk]; exact list_fill hk
theorem filled_end {α : Type} [Inhabited α] (a : List α) : filled a a.length = a := by simp [filled]
theorem filled_zero {α : Type} [Inhabited α] (a : List α) : filled a 0 = List.replicate a.length default := by simp [filled]

abbrev toIntS (a : List Int) := a
abbrev toIntS_pre (a : List Int) : Prop := a.length ≤ 1048576
def toIntS_wp (a : List Int) (Z : (List Int) → Prop) : Prop :=
  ∀ len2 : Int, len2 = (a.length : Int) → (0 ≤ len2 ∧ len2 ≤ 1073741824) ∧ ∀ l5 : List Int, l5 = List.replicate len2.toNat default → loopW (σ := Int × (List Int)) (fun (i16, l17) K21 => ∀ len22 : Int, len22 = (a.length : Int) → ∀ c24 : Bool, c24 = decide (i16 < len22) → ((c24 = true → (0 ≤ i16 ∧ i16 < a.length) ∧ ∀ x27 : Int, x27 = at' a i16 → (0 ≤ i16 ∧ i16 < l17.length) ∧ ∀ x34 : Int, x34 = at' l17 i16 → ∀ l37 : List Int, l37 = l17.set i16.toNat x27 → (I64 (i16 + 1)) ∧ ∀ v44 : Int, v44 = i16 + 1 → K21 (v44, l37)) ∧ (c24 = false → Z l17))) (0, l5)
theorem toIntS_vc (a : List Int) (h : toIntS_pre a) : toIntS_wp a (fun y => y = toIntS a) := by
  unfold toIntS_wp
  simp only [toIntS_pre] at h
  simp only [forall_eq, Int.toNat_natCast]
  refine ⟨by omega, loopW.upL a.length (fun k out => out = filled a k) _ (filled_zero a).symm ?_⟩
  rintro k out K hk rfl IH
  have hl := filled_len hk
  simp only [decide_eq_true_eq, decide_eq_false_iff_not, I64, Int.toNat_natCast]
  refine ⟨fun h1 => ⟨by omega, by omega, by omega, IH (by omega) _ (filled_set (by omega))⟩, fun h1 => ?_⟩
  rw [show k = a.length by omega]
  exact filled_end a
abbrev toStringS (a : List Str) := a
abbrev toStringS_pre (a : List Str) : Prop := a.length ≤ 1048576
def toStringS_wp (a : List Str) (Z : (List Str) → Prop) : Prop :=
  ∀ len2 : Int, len2 = (a.length : Int) → (0 ≤ len2 ∧ len2 ≤ 1073741824) ∧ ∀ l5 : List Str, l5 = List.replicate len2.toNat default → loopW (σ := Int × (List Str)) (fun (i16, l17) K21 => ∀ len22 : Int, len22 = (a.length : Int) → ∀ c24 : Bool, c24 = decide (i16 < len22) → ((c24 = true → (0 ≤ i16 ∧ i16 < a.length) ∧ ∀ x27 : Str, x27 = at' a i16 → (0 ≤ i16 ∧ i16 < l17.length) ∧ ∀ x34 : Str, x34 = at' l17 i16 → ∀ l37 : List Str, l37 = l17.set i16.toNat x27 → (I64 (i16 + 1)) ∧ ∀ v44 : Int, v44 = i16 + 1 → K21 (v44, l37)) ∧ (c24 = false → Z l17))) (0, l5)
theorem toStringS_vc (a : List Str) (h : toStringS_pre a) : toStringS_wp a (fun y => y = toStringS a) := by
  unfold toStringS_wp
  simp only [toStringS_pre] at h
  simp only [forall_eq, Int.toNat_natCast]
  refine ⟨by omega, loopW.upL a.length (fun k out => out = filled a k) _ (filled_zero a).symm ?_⟩
  rintro k out K hk rfl IH
  have hl := filled_len hk
  simp only [decide_eq_true_eq, decide_eq_false_iff_not, I64, Int.toNat_natCast]
  refine ⟨fun h1 => ⟨by omega, by omega, by omega, IH (by omega) _ (filled_set (by omega))⟩, fun h1 => ?_⟩
  rw [show k = a.length by omega]
  exact filled_end a
abbrev toControl (a : Control) := a
def toControl_wp (a : Control) (Z : Control → Prop) : Prop :=
  Z a
theorem toControl_vc (a : Control) : toControl_wp a (fun y => y = toControl a) := rfl
abbrev toControlS (a : List Control) := a
abbrev toControlS_pre (a : List Control) : Prop := a.length ≤ 1048576
def toControlS_wp (a : List Control) (Z : (List Control) → Prop) : Prop :=
  ∀ len2 : Int, len2 = (a.length : Int) → (0 ≤ len2 ∧ len2 ≤ 1073741824) ∧ ∀ l5 : List Control, l5 = List.replicate len2.toNat default → loopW (σ := Int × (List Control)) (fun (i16, l17) K21 => ∀ len22 : Int, len22 = (a.length : Int) → ∀ c24 : Bool, c24 = decide (i16 < len22) → ((c24 = true → (0 ≤ i16 ∧ i16 < a.length) ∧ ∀ x27 : Control, x27 = at' a i16 → ∀ r29 : Control, r29 = toControl x27 → (0 ≤ i16 ∧ i16 < l17.length) ∧ ∀ x35 : Control, x35 = at' l17 i16 → ∀ l38 : List Control, l38 = l17.set i16.toNat r29 → (I64 (i16 + 1)) ∧ ∀ v45 : Int, v45 = i16 + 1 → K21 (v45, l38)) ∧ (c24 = false → Z l17))) (0, l5)
theorem toControlS_vc (a : List Control) (h : toControlS_pre a) : toControlS_wp a (fun y => y = toControlS a) := by
  unfold toControlS_wp
  simp only [toControlS_pre] at h
  simp only [forall_eq, Int.toNat_natCast]
  refine ⟨by omega, loopW.upL a.length (fun k out => out = filled a k) _ (filled_zero a).symm ?_⟩
  rintro k out K hk rfl IH
  have hl := filled_len hk
  simp only [decide_eq_true_eq, decide_eq_false_iff_not, I64, Int.toNat_natCast]
  refine ⟨fun h1 => ⟨by omega, by omega, by omega, IH (by omega) _ (filled_set (by omega))⟩, fun h1 => ?_⟩
  rw [show k = a.length by omega]
  exact filled_end a
abbrev toWire (a : Wire) := a
def toWire_wp (a : Wire) (Z : Wire → Prop) : Prop :=
  Z a
theorem toWire_vc (a : Wire) : toWire_wp a (fun y => y = toWire a) := rfl
abbrev toWireS (a : List Wire) := a
abbrev toWireS_pre (a : List Wire) : Prop := a.length ≤ 1048576
def toWireS_wp (a : List Wire) (Z : (List Wire) → Prop) : Prop :=
  ∀ len2 : Int, len2 = (a.length : Int) → (0 ≤ len2 ∧ len2 ≤ 1073741824) ∧ ∀ l5 : List Wire, l5 = List.replicate len2.toNat default → loopW (σ := Int × (List Wire)) (fun (i16, l17) K21 => ∀ len22 : Int, len22 = (a.length : Int) → ∀ c24 : Bool, c24 = decide (i16 < len22) → ((c24 = true → (0 ≤ i16 ∧ i16 < a.length) ∧ ∀ x27 : Wire, x27 = at' a i16 → ∀ r29 : Wire, r29 = toWire x27 → (0 ≤ i16 ∧ i16 < l17.length) ∧ ∀ x35 : Wire, x35 = at' l17 i16 → ∀ l38 : List Wire, l38 = l17.set i16.toNat r29 → (I64 (i16 + 1)) ∧ ∀ v45 : Int, v45 = i16 + 1 → K21 (v45, l38)) ∧ (c24 = false → Z l17))) (0, l5)
theorem toWireS_vc (a : List Wire) (h : toWireS_pre a) : toWireS_wp a (fun y => y = toWireS a) := by
  unfold toWireS_wp
  simp only [toWireS_pre] at h
  simp only [forall_eq, Int.toNat_natCast]
  refine ⟨by omega, loopW.upL a.length (fun k out => out = filled a k) _ (filled_zero a).symm ?_⟩
  rintro k out K hk rfl IH
  have hl := filled_len hk
  simp only [decide_eq_true_eq, decide_eq_false_iff_not, I64, Int.toNat_natCast]
  refine ⟨fun h1 => ⟨by omega, by omega, by omega, IH (by omega) _ (filled_set (by omega))⟩, fun h1 => ?_⟩
  rw [show k = a.length by omega]
  exact filled_end a
abbrev toNode (a : GNode) := a
abbrev toNode_pre (a : GNode) : Prop := a.links.length ≤ 1048576
def toNode_wp (a : GNode) (Z : GNode → Prop) : Prop :=
  (toIntS_pre a.links) ∧ ∀ r10 : List Int, r10 = toIntS a.links → Z (GNode.mk a.control a.parent r10)
theorem toNode_vc (a : GNode) (h : toNode_pre a) : toNode_wp a (fun y => y = toNode a) := by
  unfold toNode_wp
  exact ⟨h, by rintro _ rfl; rfl⟩
abbrev toNodeS (a : List GNode) := a
abbrev toNodeS_pre (a : List GNode) : Prop := a.length ≤ 1048576 ∧ ∀ x ∈ a, x.links.length ≤ 1048576
def toNodeS_wp (a : List GNode) (Z : (List GNode) → Prop) : Prop :=
  ∀ len2 : Int, len2 = (a.length : Int) → (0 ≤ len2 ∧ len2 ≤ 1073741824) ∧ ∀ l5 : List GNode, l5 = List.replicate len2.toNat default → loopW (σ := Int × (List GNode)) (fun (i16, l17) K21 => ∀ len22 : Int, len22 = (a.length : Int) → ∀ c24 : Bool, c24 = decide (i16 < len22) → ((c24 = true → (0 ≤ i16 ∧ i16 < a.length) ∧ ∀ x27 : GNode, x27 = at' a i16 → (toNode_pre x27) ∧ ∀ r30 : GNode, r30 = toNode x27 → (0 ≤ i16 ∧ i16 < l17.length) ∧ ∀ x44 : GNode, x44 = at' l17 i16 → ∀ l63 : List GNode, l63 = l17.set i16.toNat r30 → (I64 (i16 + 1)) ∧ ∀ v70 : Int, v70 = i16 + 1 → K21 (v70, l63)) ∧ (c24 = false → Z l17))) (0, l5)
theorem toNodeS_vc (a : List GNode) (h : toNodeS_pre a) : toNodeS_wp a (fun y => y = toNodeS a) := by
  unfold toNodeS_wp
  obtain ⟨h, h'⟩ := h
  simp only [forall_eq, Int.toNat_natCast]
  refine ⟨by omega, loopW.upL a.length (fun k out => out = filled a k) _ (filled_zero a).symm ?_⟩
  rintro k out K hk rfl IH
  have hl := filled_len hk
  simp only [decide_eq_true_eq, decide_eq_false_iff_not, I64, Int.toNat_natCast]
  refine ⟨fun h1 => ⟨by omega, ?_, by omega, by omega, IH (by omega) _ (filled_set (by omega))⟩, fun h1 => ?_⟩
  · rw [at_lt (show k < a.length by omega)]
    exact h' _ (List.getElem_mem _)
  · rw [show k = a.length by omega]
    exact filled_end a
abbrev toBigraph (a : Big) := a
abbrev toBigraph_pre (a : Big) : Prop := (a.nodes.length ≤ 1048576 ∧ ∀ x ∈ a.nodes, x.links.length ≤ 1048576) ∧ a.sites.length ≤ 1048576 ∧ a.outer.length ≤ 1048576 ∧ a.inner.length ≤ 1048576
def toBigraph_wp (a : Big) (Z : Big → Prop) : Prop :=
  (toNodeS_pre a.nodes) ∧ ∀ r9 : List GNode, r9 = toNodeS a.nodes → (toIntS_pre a.sites) ∧ ∀ r21 : List Int, r21 = toIntS a.sites → (toStringS_pre a.outer) ∧ ∀ r37 : List Str, r37 = toStringS a.outer → (toWireS_pre a.inner) ∧ ∀ r51 : List Wire, r51 = toWireS a.inner → Z (Big.mk a.roots r9 r21 a.edges r37 r51)
theorem toBigraph_vc (a : Big) (h : toBigraph_pre a) : toBigraph_wp a (fun y => y = toBigraph a) := by
  unfold toBigraph_wp
  simp only [forall_eq]
  exact ⟨h.1, h.2.1, h.2.2.1, h.2.2.2, trivial⟩

section
variable {α : Type} (g : α → Int → α) (c : Int) (l : List α) (k : Int)
end
end Go.Ab.Vg

/- Marks on nodes and bigraphs, told. -/
namespace Go.Ab.Vg
set_option linter.unusedSimpArgs false
set_option linter.unusedVariables false
section
variable {α : Type} (m : α → Int → α × Int)
end
end Go.Ab.Vg

/- Contracts of the laws' eq.. functions of bigraphs. By program. -/
namespace Go.Ab
open Go.Proofs
set_option linter.unusedSimpArgs false
theorem ArgOk.nodeB {H : Heap} {n : Nat} (t : Bool) (x : GNode) : ArgOk H n (.agg (x.cells t)) (.agg (x.cells false)) := ArgOk.imm' (.agg _ (imm_node t x)) (by rw [old_agg, old_node])
theorem ArgOk.wireB {H : Heap} {n : Nat} (x : Wire) : ArgOk H n (.agg x.cells) (.agg x.cells) := ArgOk.aggF (by simp [Wire.cells])
theorem ArgOk.ctlB {H : Heap} {n : Nat} (x : Control) : ArgOk H n (.agg x.cells) (.agg x.cells) := ArgOk.aggF (by simp [Control.cells])

theorem e21 : Ent Tryz.prog 21 := Ent.of Tryz.func21 (by kernel_rfl) rfl
theorem eqIntS_ok (p q : List (Int)) (hp : p.length ≤ 1048576) : PureC Tryz.prog 21 [.list false (p.map intC), .list false (q.map intC)] (fun r => r = bool (decide (p = q))) := by
  refine PureC.of Tryz.func21 rfl Tryz.ntmps21 (by simp) fun Q hQ => ?_
  refine Runs.seqE Ty_ok (by decide) fun k' hk' => ?_
  simp   -- R0
  refine hk' _ _ _ ?_
  refine Runs.seq ?_
  refine Runs.seqE Ty_ok (by decide) fun k' hk' => ?_
  simp   -- R1
  refine hk' _ _ _ ?_
  refine Runs.ite rfl (fun hc1 => ?_) (fun hc1 => ?_)
  · simp at hc1
    refine Runs.seqE Ty_ok (by decide) fun k' hk' => ?_
    simp   -- R2
    refine hk' _ _ _ ?_
    refine Runs.ret Tryz.func21 (RetOk.one Tryz.results21) (hQ _ _ _ _ (.v _ _ _) ?_)
    have : p ≠ q := by intro h; subst h; omega
    simp [this]
  · simp at hc1
    have hlen : p.length = q.length := by omega
    refine Runs.skip ?_
    refine Runs.seq ?_
    refine Runs.seqE Ty_ok (by decide) fun k' hk' => ?_
    simp   -- R3
    refine hk' _ _ _ ?_
    refine Runs.block (Runs.loopUp p.length (fun k ρ H n => ρ 0 = .list false (p.map intC) ∧ ρ 1 = .list false (q.map intC) ∧ ρ 5 = int k ∧ p.take k = q.take k) ?_ ?_)
    · simp
    · rintro k ρ H n hk ⟨h0, h1, h5, heq⟩ IH
      refine Runs.seq ?_
      refine Runs.seqE Ty_ok (by decide) fun k' hk' => ?_
      simp [h0, h5]   -- R4
      refine hk' _ _ _ ?_
      refine Runs.ite rfl (fun hc2 => ?_) (fun hc2 => ?_)
      · simp at hc2
        have hq2 : k < q.length := by omega
        refine Runs.skip ?_
        refine Runs.seq ?_
        refine Runs.block ?_
        refine Runs.seqD Ty_ok kindOp_ok draws (by decide) (by kernel_rfl) fun k' hk' => ?_
        simp [h0, h1, h5, hc2, hq2, intC]   -- R6
        refine hk' _ _ _ ?_
        refine Runs.ite rfl (fun hc3 => ?_) (fun hc3 => ?_)
        · simp at hc3
          refine Runs.seqE Ty_ok (by decide) fun k' hk' => ?_
          simp   -- R7
          refine hk' _ _ _ ?_
          refine Runs.ret Tryz.func21 (RetOk.one Tryz.results21) (hQ _ _ _ _ (.v _ _ _) ?_)
          have : p ≠ q := by intro h; subst h; exact hc3 rfl
          simp [this]
        · simp at hc3
          refine Runs.skip ?_
          refine Runs.inBlock ?_
          refine Runs.evalE Ty_ok (by decide) fun k' hk' => ?_
          simp [h5, wrap_succ (show k < 4611686018427387904 by omega)]   -- R5
          refine hk' _ _ _ ?_
          refine IH hc2 _ _ _ ?_
          refine ⟨by simp [h0, intC], by simp [h1, intC], by simp, ?_⟩
          rw [List.take_succ_eq_append_getElem hc2, List.take_succ_eq_append_getElem hq2, heq, hc3]
      · simp at hc2
        refine Runs.exit rfl ?_
        refine Runs.seqE Ty_ok (by decide) fun k' hk' => ?_
        simp   -- R8
        refine hk' _ _ _ ?_
        refine Runs.ret Tryz.func21 (RetOk.one Tryz.results21) (hQ _ _ _ _ (.v _ _ _) ?_)
        rw [List.take_of_length_le hc2, List.take_of_length_le (by omega)] at heq
        simp [heq]

theorem e43 : Ent Tryz.prog 43 := Ent.of Tryz.func43 (by kernel_rfl) rfl
theorem eqStringS_ok (p q : List (Str)) (hp : p.length ≤ 1048576) : PureC Tryz.prog 43 [.list false (p.map strC), .list false (q.map strC)] (fun r => r = bool (decide (p = q))) := by
  refine PureC.of Tryz.func43 rfl Tryz.ntmps43 (by simp) fun Q hQ => ?_
  refine Runs.seqE Ty_ok (by decide) fun k' hk' => ?_
  simp   -- R0
  refine hk' _ _ _ ?_
  refine Runs.seq ?_
  refine Runs.seqE Ty_ok (by decide) fun k' hk' => ?_
  simp   -- R1
  refine hk' _ _ _ ?_
  refine Runs.ite rfl (fun hc1 => ?_) (fun hc1 => ?_)
  · simp at hc1
    refine Runs.seqE Ty_ok (by decide) fun k' hk' => ?_
    simp   -- R2
    refine hk' _ _ _ ?_
    refine Runs.ret Tryz.func43 (RetOk.one Tryz.results43) (hQ _ _ _ _ (.v _ _ _) ?_)
    have : p ≠ q := by intro h; subst h; omega
    simp [this]
  · simp at hc1
    have hlen : p.length = q.length := by omega
    refine Runs.skip ?_
    refine Runs.seq ?_
    refine Runs.seqE Ty_ok (by decide) fun k' hk' => ?_
    simp   -- R3
    refine hk' _ _ _ ?_
    refine Runs.block (Runs.loopUp p.length (fun k ρ H n => ρ 0 = .list false (p.map strC) ∧ ρ 1 = .list false (q.map strC) ∧ ρ 5 = int k ∧ p.take k = q.take k) ?_ ?_)
    · simp
    · rintro k ρ H n hk ⟨h0, h1, h5, heq⟩ IH
      refine Runs.seq ?_
      refine Runs.seqE Ty_ok (by decide) fun k' hk' => ?_
      simp [h0, h5]   -- R4
      refine hk' _ _ _ ?_
      refine Runs.ite rfl (fun hc2 => ?_) (fun hc2 => ?_)
      · simp at hc2
        have hq2 : k < q.length := by omega
        refine Runs.skip ?_
        refine Runs.seq ?_
        refine Runs.block ?_
        refine Runs.seqD Ty_ok kindOp_ok draws (by decide) (by kernel_rfl) fun k' hk' => ?_
        simp [h0, h1, h5, hc2, hq2, strC]   -- R6
        refine hk' _ _ _ ?_
        refine Runs.ite rfl (fun hc3 => ?_) (fun hc3 => ?_)
        · simp at hc3
          refine Runs.seqE Ty_ok (by decide) fun k' hk' => ?_
          simp   -- R7
          refine hk' _ _ _ ?_
          refine Runs.ret Tryz.func43 (RetOk.one Tryz.results43) (hQ _ _ _ _ (.v _ _ _) ?_)
          have : p ≠ q := by intro h; subst h; exact hc3 rfl
          simp [this]
        · simp at hc3
          refine Runs.skip ?_
          refine Runs.inBlock ?_
          refine Runs.evalE Ty_ok (by decide) fun k' hk' => ?_
          simp [h5, wrap_succ (show k < 4611686018427387904 by omega)]   -- R5
          refine hk' _ _ _ ?_
          refine IH hc2 _ _ _ ?_
          refine ⟨by simp [h0, strC], by simp [h1, strC], by simp, ?_⟩
          rw [List.take_succ_eq_append_getElem hc2, List.take_succ_eq_append_getElem hq2, heq, hc3]
      · simp at hc2
        refine Runs.exit rfl ?_
        refine Runs.seqE Ty_ok (by decide) fun k' hk' => ?_
        simp   -- R8
        refine hk' _ _ _ ?_
        refine Runs.ret Tryz.func43 (RetOk.one Tryz.results43) (hQ _ _ _ _ (.v _ _ _) ?_)
        rw [List.take_of_length_le hc2, List.take_of_length_le (by omega)] at heq
        simp [heq]

theorem e76 : Ent Tryz.prog 76 := Ent.of Tryz.func76 (by kernel_rfl) rfl
theorem eqWire_ok (x y : Wire) : PureC Tryz.prog 76 [.agg (Wire.cells x), .agg (Wire.cells y)] (fun r => r = bool (decide (x = y))) := by
  obtain ⟨x0, x1⟩ := x
  obtain ⟨y0, y1⟩ := y
  refine PureC.of Tryz.func76 rfl Tryz.ntmps76 (by simp) fun Q hQ => ?_
  refine Runs.seqE Ty_ok (by decide) fun k' hk' => ?_
  simp [Wire.cells, encN, encI, encS, encW]   -- R0
  refine hk' _ _ _ ?_
  refine Runs.seq ?_
  refine Runs.seqE Ty_ok (by decide) fun k' hk' => ?_
  simp
  refine hk' _ _ _ ?_
  refine Runs.ite rfl (fun hc => ?_) (fun hd0 => ?_)
  · simp at hc
    refine Runs.seqE Ty_ok (by decide) fun k' hk' => ?_
    simp
    refine hk' _ _ _ ?_
    exact Runs.ret Tryz.func76 (RetOk.one Tryz.results76) (hQ _ _ _ _ (.v _ _ _) (by simp [hc]))
  simp at hd0
  refine Runs.skip ?_
  refine Runs.seq ?_
  refine Runs.seqE Ty_ok (by decide) fun k' hk' => ?_
  simp
  refine hk' _ _ _ ?_
  refine Runs.ite rfl (fun hc => ?_) (fun hd1 => ?_)
  · simp at hc
    refine Runs.seqE Ty_ok (by decide) fun k' hk' => ?_
    simp
    refine hk' _ _ _ ?_
    exact Runs.ret Tryz.func76 (RetOk.one Tryz.results76) (hQ _ _ _ _ (.v _ _ _) (by simp [hc]))
  simp at hd1
  refine Runs.skip ?_
  refine Runs.seqE Ty_ok (by decide) fun k' hk' => ?_
  simp
  refine hk' _ _ _ ?_
  exact Runs.ret Tryz.func76 (RetOk.one Tryz.results76) (hQ _ _ _ _ (.v _ _ _) (by simp [hd0, hd1]))

theorem e44 : Ent Tryz.prog 44 := Ent.of Tryz.func44 (by kernel_rfl) rfl
theorem eqWireS_ok (p q : List (Wire)) (hp : p.length ≤ 1048576) : PureC Tryz.prog 44 [.list false (p.map Wire.cells), .list false (q.map Wire.cells)] (fun r => r = bool (decide (p = q))) := by
  refine PureC.of Tryz.func44 rfl Tryz.ntmps44 (by simp) fun Q hQ => ?_
  refine Runs.seqE Ty_ok (by decide) fun k' hk' => ?_
  simp   -- R0
  refine hk' _ _ _ ?_
  refine Runs.seq ?_
  refine Runs.seqE Ty_ok (by decide) fun k' hk' => ?_
  simp   -- R1
  refine hk' _ _ _ ?_
  refine Runs.ite rfl (fun hc1 => ?_) (fun hc1 => ?_)
  · simp at hc1
    refine Runs.seqE Ty_ok (by decide) fun k' hk' => ?_
    simp   -- R2
    refine hk' _ _ _ ?_
    refine Runs.ret Tryz.func44 (RetOk.one Tryz.results44) (hQ _ _ _ _ (.v _ _ _) ?_)
    have : p ≠ q := by intro h; subst h; omega
    simp [this]
  · simp at hc1
    have hlen : p.length = q.length := by omega
    refine Runs.skip ?_
    refine Runs.seq ?_
    refine Runs.seqE Ty_ok (by decide) fun k' hk' => ?_
    simp   -- R3
    refine hk' _ _ _ ?_
    refine Runs.block (Runs.loopUp p.length (fun k ρ H n => ρ 0 = .list false (p.map Wire.cells) ∧ ρ 1 = .list false (q.map Wire.cells) ∧ ρ 5 = int k ∧ p.take k = q.take k) ?_ ?_)
    · simp
    · rintro k ρ H n hk ⟨h0, h1, h5, heq⟩ IH
      refine Runs.seq ?_
      refine Runs.seqE Ty_ok (by decide) fun k' hk' => ?_
      simp [h0, h5]   -- R4
      refine hk' _ _ _ ?_
      refine Runs.ite rfl (fun hc2 => ?_) (fun hc2 => ?_)
      · simp at hc2
        have hq2 : k < q.length := by omega
        refine Runs.skip ?_
        refine Runs.seq ?_
        refine Runs.block ?_
        refine Runs.seqD Ty_ok kindOp_ok draws (by decide) (by kernel_rfl) fun k' hk' => ?_
        simp [h0, h1, h5, hc2, hq2, Wire.cells]   -- R6
        refine RunDK.callA Ty_ok kindOp_ok (eqWire_ok p[k] q[k]) e76 (.cons (ArgOk.wireB p[k]) (.cons (ArgOk.wireB q[k]) .nil)) (by decide) rfl (by simp [Wire.cells]) ?_
        simp
        refine hk' _ _ _ ?_
        refine Runs.ite rfl (fun hc3 => ?_) (fun hc3 => ?_)
        · simp at hc3
          refine Runs.seqE Ty_ok (by decide) fun k' hk' => ?_
          simp   -- R7
          refine hk' _ _ _ ?_
          refine Runs.ret Tryz.func44 (RetOk.one Tryz.results44) (hQ _ _ _ _ (.v _ _ _) ?_)
          have : p ≠ q := by intro h; subst h; exact hc3 rfl
          simp [this]
        · simp at hc3
          refine Runs.skip ?_
          refine Runs.inBlock ?_
          refine Runs.evalE Ty_ok (by decide) fun k' hk' => ?_
          simp [h5, wrap_succ (show k < 4611686018427387904 by omega)]   -- R5
          refine hk' _ _ _ ?_
          refine IH hc2 _ _ _ ?_
          refine ⟨by simp [h0, Wire.cells], by simp [h1, Wire.cells], by simp, ?_⟩
          rw [List.take_succ_eq_append_getElem hc2, List.take_succ_eq_append_getElem hq2, heq, hc3]
      · simp at hc2
        refine Runs.exit rfl ?_
        refine Runs.seqE Ty_ok (by decide) fun k' hk' => ?_
        simp   -- R8
        refine hk' _ _ _ ?_
        refine Runs.ret Tryz.func44 (RetOk.one Tryz.results44) (hQ _ _ _ _ (.v _ _ _) ?_)
        rw [List.take_of_length_le hc2, List.take_of_length_le (by omega)] at heq
        simp [heq]

theorem e41 : Ent Tryz.prog 41 := Ent.of Tryz.func41 (by kernel_rfl) rfl
theorem eqControl_ok (x y : Control) : PureC Tryz.prog 41 [.agg (Control.cells x), .agg (Control.cells y)] (fun r => r = bool (decide (x = y))) := by
  obtain ⟨x0, x1, x2⟩ := x
  obtain ⟨y0, y1, y2⟩ := y
  refine PureC.of Tryz.func41 rfl Tryz.ntmps41 (by simp) fun Q hQ => ?_
  refine Runs.seqE Ty_ok (by decide) fun k' hk' => ?_
  simp [Control.cells, encN, encI, encS, encW]   -- R0
  refine hk' _ _ _ ?_
  refine Runs.seq ?_
  refine Runs.seqE Ty_ok (by decide) fun k' hk' => ?_
  simp
  refine hk' _ _ _ ?_
  refine Runs.ite rfl (fun hc => ?_) (fun hd0 => ?_)
  · simp at hc
    refine Runs.seqE Ty_ok (by decide) fun k' hk' => ?_
    simp
    refine hk' _ _ _ ?_
    exact Runs.ret Tryz.func41 (RetOk.one Tryz.results41) (hQ _ _ _ _ (.v _ _ _) (by simp [hc]))
  simp at hd0
  refine Runs.skip ?_
  refine Runs.seq ?_
  refine Runs.seqE Ty_ok (by decide) fun k' hk' => ?_
  simp
  refine hk' _ _ _ ?_
  refine Runs.ite rfl (fun hc => ?_) (fun hd1 => ?_)
  · simp at hc
    refine Runs.seqE Ty_ok (by decide) fun k' hk' => ?_
    simp
    refine hk' _ _ _ ?_
    exact Runs.ret Tryz.func41 (RetOk.one Tryz.results41) (hQ _ _ _ _ (.v _ _ _) (by simp [hc]))
  simp at hd1
  refine Runs.skip ?_
  refine Runs.seq ?_
  refine Runs.seqE Ty_ok (by decide) fun k' hk' => ?_
  simp
  refine hk' _ _ _ ?_
  refine Runs.ite rfl (fun hc => ?_) (fun hd2 => ?_)
  · simp at hc
    refine Runs.seqE Ty_ok (by decide) fun k' hk' => ?_
    simp
    refine hk' _ _ _ ?_
    exact Runs.ret Tryz.func41 (RetOk.one Tryz.results41) (hQ _ _ _ _ (.v _ _ _) (by simp [hc]))
  simp at hd2
  refine Runs.skip ?_
  refine Runs.seqE Ty_ok (by decide) fun k' hk' => ?_
  simp
  refine hk' _ _ _ ?_
  exact Runs.ret Tryz.func41 (RetOk.one Tryz.results41) (hQ _ _ _ _ (.v _ _ _) (by simp [hd0, hd1, hd2]))

theorem e14 : Ent Tryz.prog 14 := Ent.of Tryz.func14 (by kernel_rfl) rfl
theorem eqControlS_ok (p q : List (Control)) (hp : p.length ≤ 1048576) : PureC Tryz.prog 14 [.list false (p.map Control.cells), .list false (q.map Control.cells)] (fun r => r = bool (decide (p = q))) := by
  refine PureC.of Tryz.func14 rfl Tryz.ntmps14 (by simp) fun Q hQ => ?_
  refine Runs.seqE Ty_ok (by decide) fun k' hk' => ?_
  simp   -- R0
  refine hk' _ _ _ ?_
  refine Runs.seq ?_
  refine Runs.seqE Ty_ok (by decide) fun k' hk' => ?_
  simp   -- R1
  refine hk' _ _ _ ?_
  refine Runs.ite rfl (fun hc1 => ?_) (fun hc1 => ?_)
  · simp at hc1
    refine Runs.seqE Ty_ok (by decide) fun k' hk' => ?_
    simp   -- R2
    refine hk' _ _ _ ?_
    refine Runs.ret Tryz.func14 (RetOk.one Tryz.results14) (hQ _ _ _ _ (.v _ _ _) ?_)
    have : p ≠ q := by intro h; subst h; omega
    simp [this]
  · simp at hc1
    have hlen : p.length = q.length := by omega
    refine Runs.skip ?_
    refine Runs.seq ?_
    refine Runs.seqE Ty_ok (by decide) fun k' hk' => ?_
    simp   -- R3
    refine hk' _ _ _ ?_
    refine Runs.block (Runs.loopUp p.length (fun k ρ H n => ρ 0 = .list false (p.map Control.cells) ∧ ρ 1 = .list false (q.map Control.cells) ∧ ρ 5 = int k ∧ p.take k = q.take k) ?_ ?_)
    · simp
    · rintro k ρ H n hk ⟨h0, h1, h5, heq⟩ IH
      refine Runs.seq ?_
      refine Runs.seqE Ty_ok (by decide) fun k' hk' => ?_
      simp [h0, h5]   -- R4
      refine hk' _ _ _ ?_
      refine Runs.ite rfl (fun hc2 => ?_) (fun hc2 => ?_)
      · simp at hc2
        have hq2 : k < q.length := by omega
        refine Runs.skip ?_
        refine Runs.seq ?_
        refine Runs.block ?_
        refine Runs.seqD Ty_ok kindOp_ok draws (by decide) (by kernel_rfl) fun k' hk' => ?_
        simp [h0, h1, h5, hc2, hq2, Control.cells]   -- R6
        refine RunDK.callA Ty_ok kindOp_ok (eqControl_ok p[k] q[k]) e41 (.cons (ArgOk.ctlB p[k]) (.cons (ArgOk.ctlB q[k]) .nil)) (by decide) rfl (by simp [Control.cells]) ?_
        simp
        refine hk' _ _ _ ?_
        refine Runs.ite rfl (fun hc3 => ?_) (fun hc3 => ?_)
        · simp at hc3
          refine Runs.seqE Ty_ok (by decide) fun k' hk' => ?_
          simp   -- R7
          refine hk' _ _ _ ?_
          refine Runs.ret Tryz.func14 (RetOk.one Tryz.results14) (hQ _ _ _ _ (.v _ _ _) ?_)
          have : p ≠ q := by intro h; subst h; exact hc3 rfl
          simp [this]
        · simp at hc3
          refine Runs.skip ?_
          refine Runs.inBlock ?_
          refine Runs.evalE Ty_ok (by decide) fun k' hk' => ?_
          simp [h5, wrap_succ (show k < 4611686018427387904 by omega)]   -- R5
          refine hk' _ _ _ ?_
          refine IH hc2 _ _ _ ?_
          refine ⟨by simp [h0, Control.cells], by simp [h1, Control.cells], by simp, ?_⟩
          rw [List.take_succ_eq_append_getElem hc2, List.take_succ_eq_append_getElem hq2, heq, hc3]
      · simp at hc2
        refine Runs.exit rfl ?_
        refine Runs.seqE Ty_ok (by decide) fun k' hk' => ?_
        simp   -- R8
        refine hk' _ _ _ ?_
        refine Runs.ret Tryz.func14 (RetOk.one Tryz.results14) (hQ _ _ _ _ (.v _ _ _) ?_)
        rw [List.take_of_length_le hc2, List.take_of_length_le (by omega)] at heq
        simp [heq]

theorem e75 : Ent Tryz.prog 75 := Ent.of Tryz.func75 (by kernel_rfl) rfl
theorem eqNode_ok (x y : GNode) (hl : x.links.length ≤ 1048576) : PureC Tryz.prog 75 [.agg (GNode.cells false x), .agg (GNode.cells false y)] (fun r => r = bool (decide (x = y))) := by
  obtain ⟨x0, x1, x2⟩ := x
  obtain ⟨y0, y1, y2⟩ := y
  refine PureC.of Tryz.func75 rfl Tryz.ntmps75 (by simp) fun Q hQ => ?_
  refine Runs.seqE Ty_ok (by decide) fun k' hk' => ?_
  simp [GNode.cells, encN, encI, encS, encW]   -- R0
  refine hk' _ _ _ ?_
  refine Runs.seq ?_
  refine Runs.seqE Ty_ok (by decide) fun k' hk' => ?_
  simp
  refine hk' _ _ _ ?_
  refine Runs.ite rfl (fun hc => ?_) (fun hd0 => ?_)
  · simp at hc
    refine Runs.seqE Ty_ok (by decide) fun k' hk' => ?_
    simp
    refine hk' _ _ _ ?_
    exact Runs.ret Tryz.func75 (RetOk.one Tryz.results75) (hQ _ _ _ _ (.v _ _ _) (by simp [hc]))
  simp at hd0
  refine Runs.skip ?_
  refine Runs.seq ?_
  refine Runs.seqE Ty_ok (by decide) fun k' hk' => ?_
  simp
  refine hk' _ _ _ ?_
  refine Runs.ite rfl (fun hc => ?_) (fun hd1 => ?_)
  · simp at hc
    refine Runs.seqE Ty_ok (by decide) fun k' hk' => ?_
    simp
    refine hk' _ _ _ ?_
    exact Runs.ret Tryz.func75 (RetOk.one Tryz.results75) (hQ _ _ _ _ (.v _ _ _) (by simp [hc]))
  simp at hd1
  refine Runs.skip ?_
  refine Runs.seq ?_
  refine Runs.seqE Ty_ok (by decide) fun k' hk' => ?_
  simp
  refine RunK.callA Ty_ok (eqIntS_ok x2 y2 hl) e21 (.cons (ArgOk.encI false x2) (.cons (ArgOk.encI false y2) .nil)) (by decide) (by decide) rfl (by simp [encN, encI, encS, encW]) ?_
  rintro _ rfl
  simp
  refine hk' _ _ _ ?_
  refine Runs.ite rfl (fun hc => ?_) (fun hd2 => ?_)
  · simp at hc
    refine Runs.seqE Ty_ok (by decide) fun k' hk' => ?_
    simp
    refine hk' _ _ _ ?_
    exact Runs.ret Tryz.func75 (RetOk.one Tryz.results75) (hQ _ _ _ _ (.v _ _ _) (by simp [hc]))
  simp at hd2
  refine Runs.skip ?_
  refine Runs.seqE Ty_ok (by decide) fun k' hk' => ?_
  simp
  refine hk' _ _ _ ?_
  exact Runs.ret Tryz.func75 (RetOk.one Tryz.results75) (hQ _ _ _ _ (.v _ _ _) (by simp [hd0, hd1, hd2]))

theorem e42 : Ent Tryz.prog 42 := Ent.of Tryz.func42 (by kernel_rfl) rfl
theorem eqNodeS_ok (p q : List (GNode)) (hp : p.length ≤ 1048576) (hl : ∀ x ∈ p, x.links.length ≤ 1048576) : PureC Tryz.prog 42 [.list false (p.map (GNode.cells false)), .list false (q.map (GNode.cells false))] (fun r => r = bool (decide (p = q))) := by
  refine PureC.of Tryz.func42 rfl Tryz.ntmps42 (by simp) fun Q hQ => ?_
  refine Runs.seqE Ty_ok (by decide) fun k' hk' => ?_
  simp   -- R0
  refine hk' _ _ _ ?_
  refine Runs.seq ?_
  refine Runs.seqE Ty_ok (by decide) fun k' hk' => ?_
  simp   -- R1
  refine hk' _ _ _ ?_
  refine Runs.ite rfl (fun hc1 => ?_) (fun hc1 => ?_)
  · simp at hc1
    refine Runs.seqE Ty_ok (by decide) fun k' hk' => ?_
    simp   -- R2
    refine hk' _ _ _ ?_
    refine Runs.ret Tryz.func42 (RetOk.one Tryz.results42) (hQ _ _ _ _ (.v _ _ _) ?_)
    have : p ≠ q := by intro h; subst h; omega
    simp [this]
  · simp at hc1
    have hlen : p.length = q.length := by omega
    refine Runs.skip ?_
    refine Runs.seq ?_
    refine Runs.seqE Ty_ok (by decide) fun k' hk' => ?_
    simp   -- R3
    refine hk' _ _ _ ?_
    refine Runs.block (Runs.loopUp p.length (fun k ρ H n => ρ 0 = .list false (p.map (GNode.cells false)) ∧ ρ 1 = .list false (q.map (GNode.cells false)) ∧ ρ 5 = int k ∧ p.take k = q.take k) ?_ ?_)
    · simp
    · rintro k ρ H n hk ⟨h0, h1, h5, heq⟩ IH
      refine Runs.seq ?_
      refine Runs.seqE Ty_ok (by decide) fun k' hk' => ?_
      simp [h0, h5]   -- R4
      refine hk' _ _ _ ?_
      refine Runs.ite rfl (fun hc2 => ?_) (fun hc2 => ?_)
      · simp at hc2
        have hq2 : k < q.length := by omega
        refine Runs.skip ?_
        refine Runs.seq ?_
        refine Runs.block ?_
        refine Runs.seqD Ty_ok kindOp_ok draws (by decide) (by kernel_rfl) fun k' hk' => ?_
        simp [h0, h1, h5, hc2, hq2, GNode.cells]   -- R6
        refine RunDK.callA Ty_ok kindOp_ok (eqNode_ok p[k] q[k] (hl _ (List.getElem_mem hc2))) e75 (.cons (ArgOk.nodeB false p[k]) (.cons (ArgOk.nodeB false q[k]) .nil)) (by decide) rfl (by simp [GNode.cells]) ?_
        simp
        refine hk' _ _ _ ?_
        refine Runs.ite rfl (fun hc3 => ?_) (fun hc3 => ?_)
        · simp at hc3
          refine Runs.seqE Ty_ok (by decide) fun k' hk' => ?_
          simp   -- R7
          refine hk' _ _ _ ?_
          refine Runs.ret Tryz.func42 (RetOk.one Tryz.results42) (hQ _ _ _ _ (.v _ _ _) ?_)
          have : p ≠ q := by intro h; subst h; exact hc3 rfl
          simp [this]
        · simp at hc3
          refine Runs.skip ?_
          refine Runs.inBlock ?_
          refine Runs.evalE Ty_ok (by decide) fun k' hk' => ?_
          simp [h5, wrap_succ (show k < 4611686018427387904 by omega)]   -- R5
          refine hk' _ _ _ ?_
          refine IH hc2 _ _ _ ?_
          refine ⟨by simp [h0, GNode.cells], by simp [h1, GNode.cells], by simp, ?_⟩
          rw [List.take_succ_eq_append_getElem hc2, List.take_succ_eq_append_getElem hq2, heq, hc3]
      · simp at hc2
        refine Runs.exit rfl ?_
        refine Runs.seqE Ty_ok (by decide) fun k' hk' => ?_
        simp   -- R8
        refine hk' _ _ _ ?_
        refine Runs.ret Tryz.func42 (RetOk.one Tryz.results42) (hQ _ _ _ _ (.v _ _ _) ?_)
        rw [List.take_of_length_le hc2, List.take_of_length_le (by omega)] at heq
        simp [heq]

theorem e15 : Ent Tryz.prog 15 := Ent.of Tryz.func15 (by kernel_rfl) rfl
theorem eqBigraph_ok (x y : Big) (hb : x.nodes.length ≤ 1048576 ∧ (∀ z ∈ x.nodes, z.links.length ≤ 1048576) ∧ x.sites.length ≤ 1048576 ∧ x.outer.length ≤ 1048576 ∧ x.inner.length ≤ 1048576) : PureC Tryz.prog 15 [.agg (Big.cells false x), .agg (Big.cells false y)] (fun r => r = bool (decide (x = y))) := by
  obtain ⟨x0, x1, x2, x3, x4, x5⟩ := x
  obtain ⟨y0, y1, y2, y3, y4, y5⟩ := y
  refine PureC.of Tryz.func15 rfl Tryz.ntmps15 (by simp) fun Q hQ => ?_
  refine Runs.seqE Ty_ok (by decide) fun k' hk' => ?_
  simp [Big.cells, encN, encI, encS, encW]   -- R0
  refine hk' _ _ _ ?_
  refine Runs.seq ?_
  refine Runs.seqE Ty_ok (by decide) fun k' hk' => ?_
  simp
  refine hk' _ _ _ ?_
  refine Runs.ite rfl (fun hc => ?_) (fun hd0 => ?_)
  · simp at hc
    refine Runs.seqE Ty_ok (by decide) fun k' hk' => ?_
    simp
    refine hk' _ _ _ ?_
    exact Runs.ret Tryz.func15 (RetOk.one Tryz.results15) (hQ _ _ _ _ (.v _ _ _) (by simp [hc]))
  simp at hd0
  refine Runs.skip ?_
  refine Runs.seq ?_
  refine Runs.seqE Ty_ok (by decide) fun k' hk' => ?_
  simp
  refine RunK.callA Ty_ok (eqNodeS_ok x1 y1 hb.1 hb.2.1) e42 (.cons (ArgOk.encN false x1) (.cons (ArgOk.encN false y1) .nil)) (by decide) (by decide) rfl (by simp [encN, encI, encS, encW]) ?_
  rintro _ rfl
  simp
  refine hk' _ _ _ ?_
  refine Runs.ite rfl (fun hc => ?_) (fun hd1 => ?_)
  · simp at hc
    refine Runs.seqE Ty_ok (by decide) fun k' hk' => ?_
    simp
    refine hk' _ _ _ ?_
    exact Runs.ret Tryz.func15 (RetOk.one Tryz.results15) (hQ _ _ _ _ (.v _ _ _) (by simp [hc]))
  simp at hd1
  refine Runs.skip ?_
  refine Runs.seq ?_
  refine Runs.seqE Ty_ok (by decide) fun k' hk' => ?_
  simp
  refine RunK.callA Ty_ok (eqIntS_ok x2 y2 hb.2.2.1) e21 (.cons (ArgOk.encI false x2) (.cons (ArgOk.encI false y2) .nil)) (by decide) (by decide) rfl (by simp [encN, encI, encS, encW]) ?_
  rintro _ rfl
  simp
  refine hk' _ _ _ ?_
  refine Runs.ite rfl (fun hc => ?_) (fun hd2 => ?_)
  · simp at hc
    refine Runs.seqE Ty_ok (by decide) fun k' hk' => ?_
    simp
    refine hk' _ _ _ ?_
    exact Runs.ret Tryz.func15 (RetOk.one Tryz.results15) (hQ _ _ _ _ (.v _ _ _) (by simp [hc]))
  simp at hd2
  refine Runs.skip ?_
  refine Runs.seq ?_
  refine Runs.seqE Ty_ok (by decide) fun k' hk' => ?_
  simp
  refine hk' _ _ _ ?_
  refine Runs.ite rfl (fun hc => ?_) (fun hd3 => ?_)
  · simp at hc
    refine Runs.seqE Ty_ok (by decide) fun k' hk' => ?_
    simp
    refine hk' _ _ _ ?_
    exact Runs.ret Tryz.func15 (RetOk.one Tryz.results15) (hQ _ _ _ _ (.v _ _ _) (by simp [hc]))
  simp at hd3
  refine Runs.skip ?_
  refine Runs.seq ?_
  refine Runs.seqE Ty_ok (by decide) fun k' hk' => ?_
  simp
  refine RunK.callA Ty_ok (eqStringS_ok x4 y4 hb.2.2.2.1) e43 (.cons (ArgOk.encS false x4) (.cons (ArgOk.encS false y4) .nil)) (by decide) (by decide) rfl (by simp [encN, encI, encS, encW]) ?_
  rintro _ rfl
  simp
  refine hk' _ _ _ ?_
  refine Runs.ite rfl (fun hc => ?_) (fun hd4 => ?_)
  · simp at hc
    refine Runs.seqE Ty_ok (by decide) fun k' hk' => ?_
    simp
    refine hk' _ _ _ ?_
    exact Runs.ret Tryz.func15 (RetOk.one Tryz.results15) (hQ _ _ _ _ (.v _ _ _) (by simp [hc]))
  simp at hd4
  refine Runs.skip ?_
  refine Runs.seq ?_
  refine Runs.seqE Ty_ok (by decide) fun k' hk' => ?_
  simp
  refine RunK.callA Ty_ok (eqWireS_ok x5 y5 hb.2.2.2.2) e44 (.cons (ArgOk.encW false x5) (.cons (ArgOk.encW false y5) .nil)) (by decide) (by decide) rfl (by simp [encN, encI, encS, encW]) ?_
  rintro _ rfl
  simp
  refine hk' _ _ _ ?_
  refine Runs.ite rfl (fun hc => ?_) (fun hd5 => ?_)
  · simp at hc
    refine Runs.seqE Ty_ok (by decide) fun k' hk' => ?_
    simp
    refine hk' _ _ _ ?_
    exact Runs.ret Tryz.func15 (RetOk.one Tryz.results15) (hQ _ _ _ _ (.v _ _ _) (by simp [hc]))
  simp at hd5
  refine Runs.skip ?_
  refine Runs.seqE Ty_ok (by decide) fun k' hk' => ?_
  simp
  refine hk' _ _ _ ?_
  exact Runs.ret Tryz.func15 (RetOk.one Tryz.results15) (hQ _ _ _ _ (.v _ _ _) (by simp [hd0, hd1, hd2, hd3, hd4, hd5]))

end Go.Ab

/- Contracts of the laws' to.. functions of bigraphs' slices. By program. -/
namespace Go.Ab
open Go.Proofs
set_option linter.unusedSimpArgs false
theorem e36 : Ent Tryz.prog 36 := Ent.of Tryz.func36 (by kernel_rfl) rfl
theorem toIntS_ok (p : List (Int)) (hp : p.length ≤ 1048576) : PureC Tryz.prog 36 [.list false (p.map intC)] (fun r => r = .list true (p.map intC)) := by
  refine PureC.of Tryz.func36 rfl Tryz.ntmps36 (by simp) fun Q hQ => ?_
  refine Runs.seqE Ty_ok (by decide) fun k' hk' => ?_
  simp   -- R0
  refine hk' _ _ _ ?_
  refine Runs.seqE Ty_ok (by decide) fun k' hk' => ?_
  simp [show (p.length : Int) ≤ 1073741824 by omega]   -- R1
  refine hk' _ _ _ ?_
  refine Runs.seq ?_
  refine Runs.seqE Ty_ok (by decide) fun k' hk' => ?_
  simp   -- R2
  refine hk' _ _ _ ?_
  refine Runs.block (Runs.loopUp p.length (fun k ρ H n => ρ 0 = .list false (p.map intC) ∧ ρ 4 = int k ∧ ρ 3 = .arr (0, 7) p.length 0 p.length ∧ H (0, 7) = some ⟨1, part intC [int 0] p k⟩) ?_ ?_)
  · simp [intC, part_zero]
  · rintro k ρ H n hk ⟨h0, h4, h3, hH⟩ IH
    refine Runs.seq ?_
    refine Runs.seqE Ty_ok (by decide) fun k' hk' => ?_
    simp [h0, h4]   -- R3
    refine hk' _ _ _ ?_
    refine Runs.ite rfl (fun hc1 => ?_) (fun hc1 => ?_)
    · simp at hc1
      refine Runs.skip ?_
      refine Runs.seq ?_
      refine Runs.block ?_
      refine Runs.evalE Ty_ok (by decide) fun k' hk' => ?_
      simp [h0, h3, h4, hH, hc1, part_len hk, part_get hc1, intC]   -- R5
      refine hk' _ _ _ ?_
      refine Runs.inBlock ?_
      refine Runs.evalE Ty_ok (by decide) fun k' hk' => ?_
      simp [h4, wrap_succ (show k < 4611686018427387904 by omega)]   -- R4
      refine hk' _ _ _ ?_
      refine IH hc1 _ _ _ ?_
      rw [← part_set hc1]
      simp [h0, h3, intC, part_get' hc1]
    · simp at hc1
      have hke : k = p.length := by omega
      subst hke
      rw [part_end] at hH
      refine Runs.exit rfl ?_
      refine Runs.seqE Ty_ok (by decide) fun k' hk' => ?_
      simp [h3]   -- R6
      refine hk' _ _ _ ?_
      exact Runs.ret Tryz.func36 (RetOk.one Tryz.results36) (hQ _ _ _ _ (.of (Ret.arrF (by simp [hH]; rfl) (by simp [intC, intC]))) rfl)

theorem e37 : Ent Tryz.prog 37 := Ent.of Tryz.func37 (by kernel_rfl) rfl
theorem toStringS_ok (p : List (Str)) (hp : p.length ≤ 1048576) : PureC Tryz.prog 37 [.list false (p.map strC)] (fun r => r = .list true (p.map strC)) := by
  refine PureC.of Tryz.func37 rfl Tryz.ntmps37 (by simp) fun Q hQ => ?_
  refine Runs.seqE Ty_ok (by decide) fun k' hk' => ?_
  simp   -- R0
  refine hk' _ _ _ ?_
  refine Runs.seqE Ty_ok (by decide) fun k' hk' => ?_
  simp [show (p.length : Int) ≤ 1073741824 by omega]   -- R1
  refine hk' _ _ _ ?_
  refine Runs.seq ?_
  refine Runs.seqE Ty_ok (by decide) fun k' hk' => ?_
  simp   -- R2
  refine hk' _ _ _ ?_
  refine Runs.block (Runs.loopUp p.length (fun k ρ H n => ρ 0 = .list false (p.map strC) ∧ ρ 4 = int k ∧ ρ 3 = .arr (0, 7) p.length 0 p.length ∧ H (0, 7) = some ⟨1, part strC [str []] p k⟩) ?_ ?_)
  · simp [strC, part_zero]
  · rintro k ρ H n hk ⟨h0, h4, h3, hH⟩ IH
    refine Runs.seq ?_
    refine Runs.seqE Ty_ok (by decide) fun k' hk' => ?_
    simp [h0, h4]   -- R3
    refine hk' _ _ _ ?_
    refine Runs.ite rfl (fun hc1 => ?_) (fun hc1 => ?_)
    · simp at hc1
      refine Runs.skip ?_
      refine Runs.seq ?_
      refine Runs.block ?_
      refine Runs.evalE Ty_ok (by decide) fun k' hk' => ?_
      simp [h0, h3, h4, hH, hc1, part_len hk, part_get hc1, strC]   -- R5
      refine hk' _ _ _ ?_
      refine Runs.inBlock ?_
      refine Runs.evalE Ty_ok (by decide) fun k' hk' => ?_
      simp [h4, wrap_succ (show k < 4611686018427387904 by omega)]   -- R4
      refine hk' _ _ _ ?_
      refine IH hc1 _ _ _ ?_
      rw [← part_set hc1]
      simp [h0, h3, strC, part_get' hc1]
    · simp at hc1
      have hke : k = p.length := by omega
      subst hke
      rw [part_end] at hH
      refine Runs.exit rfl ?_
      refine Runs.seqE Ty_ok (by decide) fun k' hk' => ?_
      simp [h3]   -- R6
      refine hk' _ _ _ ?_
      exact Runs.ret Tryz.func37 (RetOk.one Tryz.results37) (hQ _ _ _ _ (.of (Ret.arrF (by simp [hH]; rfl) (by simp [strC, intC]))) rfl)

end Go.Ab

/- Contracts of the laws' to.. functions of bigraphs. By program. -/
namespace Go.Ab
open Go.Proofs
set_option linter.unusedSimpArgs false
theorem e64 : Ent Tryz.prog 64 := Ent.of Tryz.func64 (by kernel_rfl) rfl
theorem toWire_ok (x : Wire) : PureC Tryz.prog 64 [.agg (Wire.cells x)] (fun r => r = .agg (Wire.cells x)) := by
  refine PureC.of Tryz.func64 rfl Tryz.ntmps64 (by simp) fun Q hQ => ?_
  refine Runs.seqE Ty_ok (by decide) fun k' hk' => ?_
  simp [Wire.cells, encN, encI, encS, encW]   -- R0
  refine hk' _ _ _ ?_
  refine Runs.seqE Ty_ok (by decide) fun k' hk' => ?_
  simp   -- R1
  refine hk' _ _ _ ?_
  refine Runs.seqE Ty_ok (by decide) fun k' hk' => ?_
  simp   -- R2
  refine hk' _ _ _ ?_
  refine Runs.seqE Ty_ok (by decide) fun k' hk' => ?_
  simp   -- R3
  refine hk' _ _ _ ?_
  refine Runs.seqE Ty_ok (by decide) fun k' hk' => ?_
  simp   -- R4
  refine hk' _ _ _ ?_
  exact Runs.ret Tryz.func64 (RetOk.cell (cs := Wire.cells x) (v := .agg (Wire.cells x)) Ty_ok Tryz.results64 Ty_91 (by simp [Wire.cells, encN, encI, encS, encW]) (by simp [loadA, Wire.cells])) (hQ _ _ _ _ (.of (Ret.fresh (by simp [Wire.cells, encN, encI, encS, encW, GNode.cells, intC, strC, Wire.cells]))) rfl)

theorem e34 : Ent Tryz.prog 34 := Ent.of Tryz.func34 (by kernel_rfl) rfl
theorem toControl_ok (x : Control) : PureC Tryz.prog 34 [.agg (Control.cells x)] (fun r => r = .agg (Control.cells x)) := by
  refine PureC.of Tryz.func34 rfl Tryz.ntmps34 (by simp) fun Q hQ => ?_
  refine Runs.seqE Ty_ok (by decide) fun k' hk' => ?_
  simp [Control.cells, encN, encI, encS, encW]   -- R0
  refine hk' _ _ _ ?_
  refine Runs.seqE Ty_ok (by decide) fun k' hk' => ?_
  simp   -- R1
  refine hk' _ _ _ ?_
  refine Runs.seqE Ty_ok (by decide) fun k' hk' => ?_
  simp   -- R2
  refine hk' _ _ _ ?_
  refine Runs.seqE Ty_ok (by decide) fun k' hk' => ?_
  simp   -- R3
  refine hk' _ _ _ ?_
  refine Runs.seqE Ty_ok (by decide) fun k' hk' => ?_
  simp   -- R4
  refine hk' _ _ _ ?_
  refine Runs.seqE Ty_ok (by decide) fun k' hk' => ?_
  simp   -- R5
  refine hk' _ _ _ ?_
  exact Runs.ret Tryz.func34 (RetOk.cell (cs := Control.cells x) (v := .agg (Control.cells x)) Ty_ok Tryz.results34 Ty_64 (by simp [Control.cells, encN, encI, encS, encW]) (by simp [loadA, Control.cells])) (hQ _ _ _ _ (.of (Ret.fresh (by simp [Control.cells, encN, encI, encS, encW, GNode.cells, intC, strC, Wire.cells]))) rfl)

theorem e63 : Ent Tryz.prog 63 := Ent.of Tryz.func63 (by kernel_rfl) rfl
theorem toNode_ok (x : GNode) (hl : x.links.length ≤ 1048576) : PureC Tryz.prog 63 [.agg (GNode.cells false x)] (fun r => r = .agg (GNode.cells true x)) := by
  refine PureC.of Tryz.func63 rfl Tryz.ntmps63 (by simp) fun Q hQ => ?_
  refine Runs.seqE Ty_ok (by decide) fun k' hk' => ?_
  simp [GNode.cells, encN, encI, encS, encW]   -- R0
  refine hk' _ _ _ ?_
  refine Runs.seqE Ty_ok (by decide) fun k' hk' => ?_
  simp   -- R1
  refine hk' _ _ _ ?_
  refine Runs.seqE Ty_ok (by decide) fun k' hk' => ?_
  simp   -- R2
  refine hk' _ _ _ ?_
  refine Runs.seqE Ty_ok (by decide) fun k' hk' => ?_
  simp   -- R3
  refine hk' _ _ _ ?_
  refine Runs.seqE Ty_ok (by decide) fun k' hk' => ?_
  simp   -- R4
  refine RunK.callA Ty_ok (toIntS_ok x.links hl) e36 (.cons (ArgOk.encI false x.links) .nil) (by decide) (by decide) rfl (by simp [encN, encI, encS, encW]) ?_
  rintro _ rfl
  simp
  refine hk' _ _ _ ?_
  refine Runs.seqE Ty_ok (by decide) fun k' hk' => ?_
  simp   -- R5
  refine hk' _ _ _ ?_
  exact Runs.ret Tryz.func63 (RetOk.cell (cs := GNode.cells true x) (v := .agg (GNode.cells true x)) Ty_ok Tryz.results63 Ty_89 (by simp [GNode.cells, encN, encI, encS, encW]) (by simp [loadA, GNode.cells])) (hQ _ _ _ _ (.of (Ret.fresh (by simp [GNode.cells, encN, encI, encS, encW, GNode.cells, intC, strC, Wire.cells]))) rfl)

theorem e38 : Ent Tryz.prog 38 := Ent.of Tryz.func38 (by kernel_rfl) rfl
theorem toWireS_ok (p : List (Wire)) (hp : p.length ≤ 1048576) : PureC Tryz.prog 38 [.list false (p.map Wire.cells)] (fun r => r = .list true (p.map Wire.cells)) := by
  refine PureC.of Tryz.func38 rfl Tryz.ntmps38 (by simp) fun Q hQ => ?_
  refine Runs.seqE Ty_ok (by decide) fun k' hk' => ?_
  simp   -- R0
  refine hk' _ _ _ ?_
  refine Runs.seqE Ty_ok (by decide) fun k' hk' => ?_
  simp [show (p.length : Int) ≤ 1073741824 by omega]   -- R1
  refine hk' _ _ _ ?_
  refine Runs.seq ?_
  refine Runs.seqE Ty_ok (by decide) fun k' hk' => ?_
  simp   -- R2
  refine hk' _ _ _ ?_
  refine Runs.block (Runs.loopUp p.length (fun k ρ H n => ρ 0 = .list false (p.map Wire.cells) ∧ ρ 4 = int k ∧ ρ 3 = .arr (0, 7) p.length 0 p.length ∧ H (0, 7) = some ⟨2, part Wire.cells [str [], int 0] p k⟩) ?_ ?_)
  · simp [Wire.cells, part_zero]
  · rintro k ρ H n hk ⟨h0, h4, h3, hH⟩ IH
    refine Runs.seq ?_
    refine Runs.seqE Ty_ok (by decide) fun k' hk' => ?_
    simp [h0, h4]   -- R3
    refine hk' _ _ _ ?_
    refine Runs.ite rfl (fun hc1 => ?_) (fun hc1 => ?_)
    · simp at hc1
      refine Runs.skip ?_
      refine Runs.seq ?_
      refine Runs.block ?_
      refine Runs.evalE Ty_ok (by decide) fun k' hk' => ?_
      simp [h0, h3, h4, hH, hc1, part_len hk, part_get hc1, Wire.cells]   -- R5
      refine RunK.callA Ty_ok (toWire_ok p[k]) e64 (.cons (ArgOk.wireB _) .nil) (by decide) (by decide) rfl (by simp [Wire.cells]) ?_
      rintro _ rfl
      simp [h3, h4, hH, hc1, part_len hk, part_get hc1, Wire.cells]
      refine hk' _ _ _ ?_
      refine Runs.inBlock ?_
      refine Runs.evalE Ty_ok (by decide) fun k' hk' => ?_
      simp [h4, wrap_succ (show k < 4611686018427387904 by omega)]   -- R4
      refine hk' _ _ _ ?_
      refine IH hc1 _ _ _ ?_
      rw [← part_set hc1]
      simp [h0, h3, Wire.cells, part_get' hc1]
    · simp at hc1
      have hke : k = p.length := by omega
      subst hke
      rw [part_end] at hH
      refine Runs.exit rfl ?_
      refine Runs.seqE Ty_ok (by decide) fun k' hk' => ?_
      simp [h3]   -- R6
      refine hk' _ _ _ ?_
      exact Runs.ret Tryz.func38 (RetOk.one Tryz.results38) (hQ _ _ _ _ (.of (Ret.arrF (by simp [hH]; rfl) (by simp [Wire.cells, intC]))) rfl)

theorem e10 : Ent Tryz.prog 10 := Ent.of Tryz.func10 (by kernel_rfl) rfl
theorem toControlS_ok (p : List (Control)) (hp : p.length ≤ 1048576) : PureC Tryz.prog 10 [.list false (p.map Control.cells)] (fun r => r = .list true (p.map Control.cells)) := by
  refine PureC.of Tryz.func10 rfl Tryz.ntmps10 (by simp) fun Q hQ => ?_
  refine Runs.seqE Ty_ok (by decide) fun k' hk' => ?_
  simp   -- R0
  refine hk' _ _ _ ?_
  refine Runs.seqE Ty_ok (by decide) fun k' hk' => ?_
  simp [show (p.length : Int) ≤ 1073741824 by omega]   -- R1
  refine hk' _ _ _ ?_
  refine Runs.seq ?_
  refine Runs.seqE Ty_ok (by decide) fun k' hk' => ?_
  simp   -- R2
  refine hk' _ _ _ ?_
  refine Runs.block (Runs.loopUp p.length (fun k ρ H n => ρ 0 = .list false (p.map Control.cells) ∧ ρ 4 = int k ∧ ρ 3 = .arr (0, 7) p.length 0 p.length ∧ H (0, 7) = some ⟨3, part Control.cells [str [], int 0, int 0] p k⟩) ?_ ?_)
  · simp [Control.cells, part_zero]
  · rintro k ρ H n hk ⟨h0, h4, h3, hH⟩ IH
    refine Runs.seq ?_
    refine Runs.seqE Ty_ok (by decide) fun k' hk' => ?_
    simp [h0, h4]   -- R3
    refine hk' _ _ _ ?_
    refine Runs.ite rfl (fun hc1 => ?_) (fun hc1 => ?_)
    · simp at hc1
      refine Runs.skip ?_
      refine Runs.seq ?_
      refine Runs.block ?_
      refine Runs.evalE Ty_ok (by decide) fun k' hk' => ?_
      simp [h0, h3, h4, hH, hc1, part_len hk, part_get hc1, Control.cells]   -- R5
      refine RunK.callA Ty_ok (toControl_ok p[k]) e34 (.cons (ArgOk.ctlB _) .nil) (by decide) (by decide) rfl (by simp [Control.cells]) ?_
      rintro _ rfl
      simp [h3, h4, hH, hc1, part_len hk, part_get hc1, Control.cells]
      refine hk' _ _ _ ?_
      refine Runs.inBlock ?_
      refine Runs.evalE Ty_ok (by decide) fun k' hk' => ?_
      simp [h4, wrap_succ (show k < 4611686018427387904 by omega)]   -- R4
      refine hk' _ _ _ ?_
      refine IH hc1 _ _ _ ?_
      rw [← part_set hc1]
      simp [h0, h3, Control.cells, part_get' hc1]
    · simp at hc1
      have hke : k = p.length := by omega
      subst hke
      rw [part_end] at hH
      refine Runs.exit rfl ?_
      refine Runs.seqE Ty_ok (by decide) fun k' hk' => ?_
      simp [h3]   -- R6
      refine hk' _ _ _ ?_
      exact Runs.ret Tryz.func10 (RetOk.one Tryz.results10) (hQ _ _ _ _ (.of (Ret.arrF (by simp [hH]; rfl) (by simp [Control.cells, intC]))) rfl)

theorem e35 : Ent Tryz.prog 35 := Ent.of Tryz.func35 (by kernel_rfl) rfl
theorem toNodeS_ok (p : List (GNode)) (hp : p.length ≤ 1048576) (hl : ∀ x ∈ p, x.links.length ≤ 1048576) : PureC Tryz.prog 35 [.list false (p.map (GNode.cells false))] (fun r => r = .list true (p.map (GNode.cells true))) := by
  refine PureC.of Tryz.func35 rfl Tryz.ntmps35 (by simp) fun Q hQ => ?_
  refine Runs.seqE Ty_ok (by decide) fun k' hk' => ?_
  simp   -- R0
  refine hk' _ _ _ ?_
  refine Runs.seqE Ty_ok (by decide) fun k' hk' => ?_
  simp [show (p.length : Int) ≤ 1073741824 by omega]   -- R1
  refine hk' _ _ _ ?_
  refine Runs.seq ?_
  refine Runs.seqE Ty_ok (by decide) fun k' hk' => ?_
  simp   -- R2
  refine hk' _ _ _ ?_
  refine Runs.block (Runs.loopUp p.length (fun k ρ H n => ρ 0 = .list false (p.map (GNode.cells false)) ∧ ρ 4 = int k ∧ ρ 3 = .arr (0, 7) p.length 0 p.length ∧ H (0, 7) = some ⟨3, part (GNode.cells true) [int 0, int 0, .v (.slice none 0 0)] p k⟩) ?_ ?_)
  · simp [GNode.cells, part_zero]
  · rintro k ρ H n hk ⟨h0, h4, h3, hH⟩ IH
    refine Runs.seq ?_
    refine Runs.seqE Ty_ok (by decide) fun k' hk' => ?_
    simp [h0, h4]   -- R3
    refine hk' _ _ _ ?_
    refine Runs.ite rfl (fun hc1 => ?_) (fun hc1 => ?_)
    · simp at hc1
      refine Runs.skip ?_
      refine Runs.seq ?_
      refine Runs.block ?_
      refine Runs.evalE Ty_ok (by decide) fun k' hk' => ?_
      simp [h0, h3, h4, hH, hc1, part_len hk, part_get hc1, GNode.cells]   -- R5
      refine RunK.callA Ty_ok (toNode_ok p[k] (hl _ (List.getElem_mem hc1))) e63 (.cons (ArgOk.nodeB false _) .nil) (by decide) (by decide) rfl (by simp [GNode.cells]) ?_
      rintro _ rfl
      simp [h3, h4, hH, hc1, part_len hk, part_get hc1, GNode.cells]
      refine hk' _ _ _ ?_
      refine Runs.inBlock ?_
      refine Runs.evalE Ty_ok (by decide) fun k' hk' => ?_
      simp [h4, wrap_succ (show k < 4611686018427387904 by omega)]   -- R4
      refine hk' _ _ _ ?_
      refine IH hc1 _ _ _ ?_
      rw [← part_set hc1]
      simp [h0, h3, GNode.cells, part_get' hc1]
    · simp at hc1
      have hke : k = p.length := by omega
      subst hke
      rw [part_end] at hH
      refine Runs.exit rfl ?_
      refine Runs.seqE Ty_ok (by decide) fun k' hk' => ?_
      simp [h3]   -- R6
      refine hk' _ _ _ ?_
      exact Runs.ret Tryz.func35 (RetOk.one Tryz.results35) (hQ _ _ _ _ (.of (Ret.arrF (by simp [hH]; rfl) (by simp [GNode.cells, intC]))) rfl)

theorem e11 : Ent Tryz.prog 11 := Ent.of Tryz.func11 (by kernel_rfl) rfl
theorem toBigraph_ok (x : Big) (hb : x.nodes.length ≤ 1048576 ∧ (∀ z ∈ x.nodes, z.links.length ≤ 1048576) ∧ x.sites.length ≤ 1048576 ∧ x.outer.length ≤ 1048576 ∧ x.inner.length ≤ 1048576) : PureC Tryz.prog 11 [.agg (Big.cells false x)] (fun r => r = .agg (Big.cells true x)) := by
  refine PureC.of Tryz.func11 rfl Tryz.ntmps11 (by simp) fun Q hQ => ?_
  refine Runs.seqE Ty_ok (by decide) fun k' hk' => ?_
  simp [Big.cells, encN, encI, encS, encW]   -- R0
  refine hk' _ _ _ ?_
  refine Runs.seqE Ty_ok (by decide) fun k' hk' => ?_
  simp   -- R1
  refine hk' _ _ _ ?_
  refine Runs.seqE Ty_ok (by decide) fun k' hk' => ?_
  simp   -- R2
  refine hk' _ _ _ ?_
  refine Runs.seqE Ty_ok (by decide) fun k' hk' => ?_
  simp   -- R3
  refine RunK.callA Ty_ok (toNodeS_ok x.nodes hb.1 hb.2.1) e35 (.cons (ArgOk.encN false x.nodes) .nil) (by decide) (by decide) rfl (by simp [encN, encI, encS, encW]) ?_
  rintro _ rfl
  simp
  refine hk' _ _ _ ?_
  refine Runs.seqE Ty_ok (by decide) fun k' hk' => ?_
  simp   -- R4
  refine RunK.callA Ty_ok (toIntS_ok x.sites hb.2.2.1) e36 (.cons (ArgOk.encI false x.sites) .nil) (by decide) (by decide) rfl (by simp [encN, encI, encS, encW]) ?_
  rintro _ rfl
  simp
  refine hk' _ _ _ ?_
  refine Runs.seqE Ty_ok (by decide) fun k' hk' => ?_
  simp   -- R5
  refine hk' _ _ _ ?_
  refine Runs.seqE Ty_ok (by decide) fun k' hk' => ?_
  simp   -- R6
  refine RunK.callA Ty_ok (toStringS_ok x.outer hb.2.2.2.1) e37 (.cons (ArgOk.encS false x.outer) .nil) (by decide) (by decide) rfl (by simp [encN, encI, encS, encW]) ?_
  rintro _ rfl
  simp
  refine hk' _ _ _ ?_
  refine Runs.seqE Ty_ok (by decide) fun k' hk' => ?_
  simp   -- R7
  refine RunK.callA Ty_ok (toWireS_ok x.inner hb.2.2.2.2) e38 (.cons (ArgOk.encW false x.inner) .nil) (by decide) (by decide) rfl (by simp [encN, encI, encS, encW]) ?_
  rintro _ rfl
  simp
  refine hk' _ _ _ ?_
  refine Runs.seqE Ty_ok (by decide) fun k' hk' => ?_
  simp   -- R8
  refine hk' _ _ _ ?_
  exact Runs.ret Tryz.func11 (RetOk.cell (cs := Big.cells true x) (v := .agg (Big.cells true x)) Ty_ok Tryz.results11 Ty_41 (by simp [Big.cells, encN, encI, encS, encW]) (by simp [loadA, Big.cells])) (hQ _ _ _ _ (.of (Ret.fresh (by simp [Big.cells, encN, encI, encS, encW, GNode.cells, intC, strC, Wire.cells]))) rfl)

end Go.Ab

/- Contracts of spec.l12Kids, spec.l12Word and spec.l12Around. -/
namespace Go.Ab
open Go.Proofs
set_option linter.unusedSimpArgs false

end Go.Ab

/- Contracts of spec.l12In and spec.ProcessText. -/
namespace Go.Ab
open Go.Proofs
set_option linter.unusedSimpArgs false

end Go.Ab

/- Contracts of laws.szAmbNode, laws.szAmbNodeS and laws.szProcess. -/
namespace Go.Ab
open Go.Proofs
set_option linter.unusedSimpArgs false
def szStr (s : Str) (left : Int) : Int := if left - s.length < 0 then -1 else left - s.length
def Small (p : Proc) : Prop := p.length ≤ 9223372036854775807 ∧ ∀ x ∈ p, x.name.length ≤ 9223372036854775807

end Go.Ab
