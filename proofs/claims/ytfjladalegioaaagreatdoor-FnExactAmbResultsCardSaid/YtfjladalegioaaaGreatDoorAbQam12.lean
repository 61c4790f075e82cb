/- Merged texts (12 of 12) of the proof that ends in Amy: Amy. -/
import Derived.Test.YtfjladalegioaaaGreatDoorAbQam11
import Derived.Test.YtfjladalegioaaaGreatDoorTie
import Derived.Test.YtfjladalegioaaaGreatDoorCards
import Derived.SevenTiedAt
/- The tied card of laws.FnExactAmbResults: for every input the law returns true and its arguments read as before. -/
namespace Go.Proofs.YtfjladalegioaaaGreatDoor
open Go.ChangeShapes Go.WideShapes Go.ChangeAt Go.RowKit Go.Ab
set_option maxRecDepth 100000
theorem exactAmbResults_lifted (os : Os) (started : os.Started) (H : Type) (enc : TypeId × Value -> H) :
  ReturnsInHanded {} Tryz.checked os 3 .any (fun w args => (Rows.fnExactAmbResultsSpec.pre enc Tryz.prog Tryz.f3 [] false w args /\ laidMetH Tryz.prog Rows.fnExactAmbResultsRow.laid w) /\ sizedMet enc Tryz.prog Tryz.f3 (OpenSpec.ofChange Rows.fnExactAmbResultsSpec) false w args)
   (Rows.fnExactAmbResultsSpec.post enc Tryz.prog Tryz.f3 false true false false) :=
 uq (C := Tryz.checked) own started (by kernel_rfl) Tryz.func3 laidOut
  (ChangeSpec.witness_shaped (enc := enc) (C := Tryz.checked) (os := os) (X := fun w _ => laidMetH Tryz.prog Rows.fnExactAmbResultsRow.laid w) false (World.laidAll Tryz.prog os Rows.fnExactAmbResultsRow.laid) #[.agg #[.slice none 0 0]] 12 (World.laidAll_os _ _ _)
   (World.shaped_of_ZipB (by kernel_rfl) (by kernel_rfl)) (by kernel_rfl) (by kernel_rfl) (by kernel_rfl)
   (by rw [MakeChecks.laidMetH_plain _ _ _ (by kernel_rfl)]; exact laidMet_laidAll _ (by kernel_rfl) (by kernel_rfl)))
  (fun W h => trivial) (ko.cons uN ko.nil) (fun a ha => jl a.1 ha.1) rfl (by kernel_rfl) r0 (by kernel_rfl)
  (fun ds hds => by
   match ds, hds with
   | [d0], _ => exact ⟨rfl, rfl, rfl⟩)
theorem exactAmbResults_holds : Rows.FnExactAmbResultsSaid :=
 OpenClaim.holds_of_wide 3 Tryz.f3 rfl rfl rfl rfl rfl rfl rfl ⟨rfl, rfl, rfl, rfl, rfl⟩ rfl rfl rfl rfl rfl (by kernel_rfl) Tryz.func3 (by kernel_rfl)
  (of_decide_eq_true (by kernel_rfl)) (by unfold Func.isWrapper; first | (rw [if_pos (by decide +kernel)]; kernel_rfl) | (rw [if_neg (by decide +kernel)]; exact ⟨rfl, rfl⟩))
  (fun os started H enc _ => exactAmbResults_lifted os started H enc)
theorem exactAmbResults_card : Rows.FnExactAmbResultsCardSaid :=
 Claim7.holds_tied_plain_at .later [] [.data, .pinned] true (true, "82e50d4c64962bf763f7d56980f316e8af0731a7e6a5407eb20b9ca23f8933e0") false
  exactAmbResults_holds (fun _ h => by cases h) (by kernel_rfl) (fun _ h => by cases h) fnExactAmbResults_row_tie rfl ⟨rfl, rfl⟩ (by kernel_rfl) rfl
  (fun f fn hf hfn => by
   obtain rfl : f = 3 := Option.some.inj ((show Tryz.prog.funcNamed "loop.example/g01082/laws.FnExactAmbResults" = some 3 by kernel_rfl).symm.trans hf) |>.symm
   obtain rfl : fn = Tryz.f3 := (Option.some.inj (Tryz.func3.symm.trans hfn)).symm;exact ⟨by kernel_rfl, fun j t ht => by
    rw [Tryz.params3] at ht;have hm : t ∈ [24] := by simpa using Array.mem_of_getElem? ht
    have hall : ([24].all fun u => !Tryz.prog.wantsStandIn u) = true := by kernel_rfl
    exact (show Tryz.prog.wantsStandIn t = false by simpa using List.all_eq_true.1 hall t hm)⟩)
  (by kernel_rfl)
#print axioms exactAmbResults_card
end Go.Proofs.YtfjladalegioaaaGreatDoor
