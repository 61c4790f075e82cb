/- Merged texts (15 of 15) of the proof that ends in Lly: Lly. -/
import Derived.Test.YtbpdcoahefnnkaaGreatDoorAbQll14
import Derived.Test.YtbpdcoahefnnkaaGreatDoorTie
import Derived.Test.YtbpdcoahefnnkaaGreatDoorCards
import Derived.SevenTiedAt
/- The tied card of laws.FnExactPassedLinks: for every input the law returns true and its arguments read as before. -/
namespace Go.Proofs.YtbpdcoahefnnkaaGreatDoor
open Go.ChangeShapes Go.WideShapes Go.ChangeAt Go.RowKit Go.Ab
set_option maxRecDepth 100000
theorem exactPassedLinks_lifted (os : Os) (started : os.Started) (H : Type) (enc : TypeId × Value → H) :
  ReturnsInHanded {} Tryz.checked os 5 .any (fun w args => (Rows.fnExactPassedLinksSpec.pre enc Tryz.prog Tryz.f5 [] false w args ∧ laidMetH Tryz.prog Rows.fnExactPassedLinksRow.laid w) ∧ sizedMet enc Tryz.prog Tryz.f5 (OpenSpec.ofChange Rows.fnExactPassedLinksSpec) false w args)
   (Rows.fnExactPassedLinksSpec.post enc Tryz.prog Tryz.f5 false true false false) :=
 lift_law (C := Tryz.checked) own started (by kernel_rfl) Tryz.func5 laidOut
  (ChangeSpec.witness_shaped (enc := enc) (C := Tryz.checked) (os := os) (X := fun w _ => laidMetH Tryz.prog Rows.fnExactPassedLinksRow.laid w) false (World.laidAll Tryz.prog os Rows.fnExactPassedLinksRow.laid) #[.slice none 0 0, .agg #[.int .i64 0, .slice none 0 0, .slice none 0 0, .int .i64 0, .slice none 0 0, .slice none 0 0], .agg #[.int .i64 0, .slice none 0 0, .slice none 0 0, .int .i64 0, .slice none 0 0, .slice none 0 0], .agg #[.slice none 0 0, .slice none 0 0]] 12 (World.laidAll_os _ _ _)
   (World.shaped_of_ZipB (by kernel_rfl) (by kernel_rfl)) (by kernel_rfl) (by kernel_rfl) (by kernel_rfl)
   (by rw [MakeChecks.laidMetH_plain _ _ _ (by kernel_rfl)]; exact laidMet_laidAll _ (by kernel_rfl) (by kernel_rfl)))
  (ArgsR.cons rSig (ArgsR.cons rBig (ArgsR.cons rBig (ArgsR.cons rMatch ArgsR.nil)))) (fun a ha => exactPassedLinks_ok a.1 a.2.1 a.2.2.1 a.2.2.2.1 ha.1 ha.2.1 ha.2.2.1 ha.2.2.2.1) rfl (by kernel_rfl) underBool (by kernel_rfl)
  (fun ds hds => by
   match ds, hds with
   | [d0, d1, d2, d3], _ => exact ⟨rfl, rfl, rfl⟩)
theorem exactPassedLinks_holds : Rows.FnExactPassedLinksSaid :=
 OpenClaim.holds_of_wide 5 Tryz.f5 rfl rfl rfl rfl rfl rfl rfl ⟨rfl, rfl, rfl, rfl, rfl⟩ rfl rfl rfl rfl rfl (by kernel_rfl) Tryz.func5 (by kernel_rfl)
  (of_decide_eq_true (by kernel_rfl)) (by unfold Func.isWrapper; first | (rw [if_pos (by decide +kernel)]; kernel_rfl) | (rw [if_neg (by decide +kernel)]; exact ⟨rfl, rfl⟩))
  (fun os started H enc _ => exactPassedLinks_lifted os started H enc)
theorem exactPassedLinks_card : Rows.FnExactPassedLinksCardSaid :=
 Claim7.holds_tied_plain_at .later [] [.data, .pinned] true (true, "e865b6b8966c793343a3490f0ddadddb5694aab5ae2fdd1c71ff393eeb569429") false
  exactPassedLinks_holds (fun _ h => by cases h) (by kernel_rfl) (fun _ h => by cases h) fnExactPassedLinks_row_tie rfl ⟨rfl, rfl⟩ (by kernel_rfl) rfl
  (fun f fn hf hfn => by
   obtain rfl : f = 5 := Option.some.inj ((show Tryz.prog.funcNamed "loop.example/g01082/laws.FnExactPassedLinks" = some 5 by kernel_rfl).symm.trans hf) |>.symm
   obtain rfl : fn = Tryz.f5 := (Option.some.inj (Tryz.func5.symm.trans hfn)).symm
   exact ⟨by kernel_rfl, fun j t ht => by
    rw [Tryz.params5] at ht
    have hm : t ∈ [22, 28, 28, 34] := by simpa using Array.mem_of_getElem? ht
    have hall : ([22, 28, 28, 34].all fun u => !Tryz.prog.wantsStandIn u) = true := by kernel_rfl
    exact (show Tryz.prog.wantsStandIn t = false by simpa using List.all_eq_true.1 hall t hm)⟩)
  (by kernel_rfl)
#print axioms exactPassedLinks_card
end Go.Proofs.YtbpdcoahefnnkaaGreatDoor
