/- Merged texts (11 of 11) of the proof that ends in Fpy: Fpy. -/
import Derived.Test.YtiokiodmcghlhaaDoorAbQfp10
import Derived.Test.YtiokiodmcghlhaaDoorTie
import Derived.Test.YtiokiodmcghlhaaDoorCards
import Derived.SevenTiedAt
/- The tied card of laws.FnPlaces: for every input the law returns true and its arguments read as before. -/
namespace Go.Proofs.YtiokiodmcghlhaaDoor
open Go.ChangeShapes Go.WideShapes Go.ChangeAt Go.RowKit Go.Ab
set_option maxRecDepth 100000
theorem places_lifted (os : Os) (started : os.Started) (H : Type) (enc : TypeId × Value → H) :
  ReturnsInHanded {} Tryd.checked os 3 .any (fun w args => (Rows.fnPlacesSpec.pre enc Tryd.prog Tryd.f3 [] false w args ∧ laidMetH Tryd.prog Rows.fnPlacesRow.laid w) ∧ sizedMet enc Tryd.prog Tryd.f3 (OpenSpec.ofChange Rows.fnPlacesSpec) false w args)
   (Rows.fnPlacesSpec.post enc Tryd.prog Tryd.f3 false true false false) :=
 lift_law (C := Tryd.checked) own started (by kernel_rfl) Tryd.func3 laidOut
  (ChangeSpec.witness_shaped (enc := enc) (C := Tryd.checked) (os := os) (X := fun w _ => laidMetH Tryd.prog Rows.fnPlacesRow.laid w) false (World.laidAll Tryd.prog os Rows.fnPlacesRow.laid) #[.slice none 0 0] 12 (World.laidAll_os _ _ _)
   (World.shaped_of_ZipB (by kernel_rfl) (by kernel_rfl)) (by kernel_rfl) (by kernel_rfl) (by kernel_rfl)
   (by rw [MakeChecks.laidMetH_plain _ _ _ (by kernel_rfl)]; exact laidMet_laidAll _ (by kernel_rfl) (by kernel_rfl)))
  (fun W h => trivial) (ArgsR.cons rBytes ArgsR.nil) (fun a ha => places_ok a.1 ha.1) rfl (by kernel_rfl) underBool (by kernel_rfl)
  (fun ds hds => by
   match ds, hds with
   | [d0], _ => exact ⟨rfl, rfl, rfl⟩)
theorem places_holds : Rows.FnPlacesSaid :=
 OpenClaim.holds_of_wide 3 Tryd.f3 rfl rfl rfl rfl rfl rfl rfl ⟨rfl, rfl, rfl, rfl, rfl⟩ rfl rfl rfl rfl rfl (by kernel_rfl) Tryd.func3 (by kernel_rfl)
  (of_decide_eq_true (by kernel_rfl)) (by unfold Func.isWrapper; first | (rw [if_pos (by decide +kernel)]; kernel_rfl) | (rw [if_neg (by decide +kernel)]; exact ⟨rfl, rfl⟩))
  (fun os started H enc _ => places_lifted os started H enc)
theorem places_card : Rows.FnPlacesCardSaid :=
 Claim7.holds_tied_plain_at .later [] [.data, .pinned] true (true, "5e160afd5ad8665074eade08deb0bf37b0d66a7fd0e7bdad376c0e5bc8e77221") false
  places_holds (fun _ h => by cases h) (by kernel_rfl) (fun _ h => by cases h) fnPlaces_row_tie rfl ⟨rfl, rfl⟩ (by kernel_rfl) rfl
  (fun f fn hf hfn => by
   obtain rfl : f = 3 := Option.some.inj ((show Tryd.prog.funcNamed "loop.example/g01082/laws.FnPlaces" = some 3 by kernel_rfl).symm.trans hf) |>.symm
   obtain rfl : fn = Tryd.f3 := (Option.some.inj (Tryd.func3.symm.trans hfn)).symm
   exact ⟨by kernel_rfl, fun j t ht => by
    rw [Tryd.params3] at ht
    have hm : t ∈ [22] := by simpa using Array.mem_of_getElem? ht
    have hall : ([22].all fun u => !Tryd.prog.wantsStandIn u) = true := by kernel_rfl
    exact (show Tryd.prog.wantsStandIn t = false by simpa using List.all_eq_true.1 hall t hm)⟩)
  (by kernel_rfl)
#print axioms places_card
end Go.Proofs.YtiokiodmcghlhaaDoor
