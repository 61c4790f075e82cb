/- Merged texts (17 of 17) of the proof that ends in Icy: Icy. -/
import Derived.Test.YtkocdlgoncmdbaaGreatDoorAbQic16
import Derived.Test.YtkocdlgoncmdbaaGreatDoorTie
import Derived.Test.YtkocdlgoncmdbaaGreatDoorCards
import Derived.SevenTiedAt
/- The tied card of laws.FnExactIsCanonical: for every input the law returns true and its arguments read as before. -/
namespace Go.Proofs.YtkocdlgoncmdbaaGreatDoor
open Go.ChangeShapes Go.WideShapes Go.ChangeAt Go.RowKit Go.Ab
set_option maxRecDepth 100000
theorem exactIsCanonical_lifted (os : Os) (started : os.Started) (H : Type) (enc : TypeId × Value → H) :
  ReturnsInHanded {} Tryz.checked os 3 .any (fun w args => (Rows.fnExactIsCanonicalSpec.pre enc Tryz.prog Tryz.f3 [] false w args ∧ laidMetH Tryz.prog Rows.fnExactIsCanonicalRow.laid w) ∧ sizedMet enc Tryz.prog Tryz.f3 (OpenSpec.ofChange Rows.fnExactIsCanonicalSpec) false w args)
   (Rows.fnExactIsCanonicalSpec.post enc Tryz.prog Tryz.f3 false true false false) :=
 lift_law (C := Tryz.checked) own started (by kernel_rfl) Tryz.func3 laidOut
  (ChangeSpec.witness_shaped (enc := enc) (C := Tryz.checked) (os := os) (X := fun w _ => laidMetH Tryz.prog Rows.fnExactIsCanonicalRow.laid w) false (World.laidAll Tryz.prog os Rows.fnExactIsCanonicalRow.laid) #[.slice none 0 0, .agg #[.int .i64 0, .slice none 0 0, .slice none 0 0, .int .i64 0, .slice none 0 0, .slice none 0 0]] 12 (World.laidAll_os _ _ _)
   (World.shaped_of_ZipB (by kernel_rfl) (by kernel_rfl)) (by kernel_rfl) (by kernel_rfl) (by kernel_rfl)
   (by rw [MakeChecks.laidMetH_plain _ _ _ (by kernel_rfl)]; exact laidMet_laidAll _ (by kernel_rfl) (by kernel_rfl)))
  (ArgsR.cons rSig (ArgsR.cons rBig ArgsR.nil)) (fun a ha => exactIsCanonical_ok a.1 a.2.1 ha.1 ha.2.1) rfl (by kernel_rfl) underBool (by kernel_rfl)
  (fun ds hds => by
   match ds, hds with
   | [d0, d1], _ => exact ⟨rfl, rfl, rfl⟩)
theorem exactIsCanonical_holds : Rows.FnExactIsCanonicalSaid :=
 OpenClaim.holds_of_wide 3 Tryz.f3 rfl rfl rfl rfl rfl rfl rfl ⟨rfl, rfl, rfl, rfl, rfl⟩ rfl rfl rfl rfl rfl (by kernel_rfl) Tryz.func3 (by kernel_rfl)
  (of_decide_eq_true (by kernel_rfl)) (by unfold Func.isWrapper; first | (rw [if_pos (by decide +kernel)]; kernel_rfl) | (rw [if_neg (by decide +kernel)]; exact ⟨rfl, rfl⟩))
  (fun os started H enc _ => exactIsCanonical_lifted os started H enc)
theorem exactIsCanonical_card : Rows.FnExactIsCanonicalCardSaid :=
 Claim7.holds_tied_plain_at .later [] [.data, .pinned] true (true, "0d990ae7ed6c60e48d3a33c1bac4feab65eb787e373d34a7750ec14cac41f43e") false
  exactIsCanonical_holds (fun _ h => by cases h) (by kernel_rfl) (fun _ h => by cases h) fnExactIsCanonical_row_tie rfl ⟨rfl, rfl⟩ (by kernel_rfl) rfl
  (fun f fn hf hfn => by
   obtain rfl : f = 3 := Option.some.inj ((show Tryz.prog.funcNamed "loop.example/g01082/laws.FnExactIsCanonical" = some 3 by kernel_rfl).symm.trans hf) |>.symm
   obtain rfl : fn = Tryz.f3 := (Option.some.inj (Tryz.func3.symm.trans hfn)).symm
   exact ⟨by kernel_rfl, fun j t ht => by
    rw [Tryz.params3] at ht
    have hm : t ∈ [22, 28] := by simpa using Array.mem_of_getElem? ht
    have hall : ([22, 28].all fun u => !Tryz.prog.wantsStandIn u) = true := by kernel_rfl
    exact (show Tryz.prog.wantsStandIn t = false by simpa using List.all_eq_true.1 hall t hm)⟩)
  (by kernel_rfl)
#print axioms exactIsCanonical_card
end Go.Proofs.YtkocdlgoncmdbaaGreatDoor
