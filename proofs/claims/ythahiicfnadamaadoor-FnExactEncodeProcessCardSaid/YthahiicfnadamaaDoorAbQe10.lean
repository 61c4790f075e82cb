/- Merged texts (10 of 10) of the proof that ends in Ey: Ey. -/
import Derived.Test.YthahiicfnadamaaDoorAbQe9
import Derived.Test.YthahiicfnadamaaDoorTie
import Derived.Test.YthahiicfnadamaaDoorCards
import Derived.SevenTiedAt
/- The tied card of laws.FnExactEncodeProcess: for every input the law returns true and its arguments read as before. -/
namespace Go.Proofs.YthahiicfnadamaaDoor
open Go.ChangeShapes Go.WideShapes Go.ChangeAt Go.RowKit Go.Ab

set_option maxRecDepth 100000
theorem exactEncodeProcess_lifted (os : Os) (started : os.Started) (H : Type) (enc : TypeId × Value → H) :
    ReturnsInHanded {} Tryd.checked os 3 .any (fun w args => (Rows.fnExactEncodeProcessSpec.pre enc Tryd.prog Tryd.f3 [] false w args ∧ laidMetH Tryd.prog Rows.fnExactEncodeProcessRow.laid w) ∧ sizedMet enc Tryd.prog Tryd.f3 (OpenSpec.ofChange Rows.fnExactEncodeProcessSpec) false w args)
      (Rows.fnExactEncodeProcessSpec.post enc Tryd.prog Tryd.f3 false true false false) :=
  lift_law (C := Tryd.checked) own started (by kernel_rfl) Tryd.func3 laidOut
    (ChangeSpec.witness_shaped (enc := enc) (C := Tryd.checked) (os := os) (X := fun w _ => laidMetH Tryd.prog Rows.fnExactEncodeProcessRow.laid w) false (World.laidAll Tryd.prog os Rows.fnExactEncodeProcessRow.laid) #[.agg #[.slice none 0 0]] 12 (World.laidAll_os _ _ _)
      (World.shaped_of_ZipB (by kernel_rfl) (by kernel_rfl)) (by kernel_rfl) (by kernel_rfl) (by kernel_rfl)
      (by rw [MakeChecks.laidMetH_plain _ _ _ (by kernel_rfl)]; exact laidMet_laidAll _ (by kernel_rfl) (by kernel_rfl)))
    (ArgsR.cons rProcess ArgsR.nil) (fun a ha => exactEncodeProcess_ok a.1 ha.1) rfl (by kernel_rfl) underBool (by kernel_rfl)
    (fun ds hds => by
      match ds, hds with
      | [d0], _ => exact ⟨rfl, rfl, rfl⟩)

theorem exactEncodeProcess_holds : Rows.FnExactEncodeProcessSaid :=
  OpenClaim.holds_of_wide 3 Tryd.f3 rfl rfl rfl rfl rfl rfl rfl ⟨rfl, rfl, rfl, rfl, rfl⟩ rfl rfl rfl rfl rfl (by kernel_rfl) Tryd.func3 (by kernel_rfl)
    (of_decide_eq_true (by kernel_rfl)) (by unfold Func.isWrapper; first | (rw [if_pos (by decide +kernel)]; kernel_rfl) | (rw [if_neg (by decide +kernel)]; exact ⟨rfl, rfl⟩))
    (fun os started H enc _ => exactEncodeProcess_lifted os started H enc)

theorem exactEncodeProcess_card : Rows.FnExactEncodeProcessCardSaid :=
  Claim7.holds_tied_plain_at .later [] [.data, .pinned] true (true, "8c5f233f271b320c24757fed6fd2d666b1972defd84f4629ddd63a5c24106233") false
    exactEncodeProcess_holds (fun _ h => by cases h) (by kernel_rfl) (fun _ h => by cases h) fnExactEncodeProcess_row_tie rfl ⟨rfl, rfl⟩ (by kernel_rfl) rfl
    (fun f fn hf hfn => by
      obtain rfl : f = 3 := Option.some.inj ((show Tryd.prog.funcNamed "loop.example/g01082/laws.FnExactEncodeProcess" = some 3 by kernel_rfl).symm.trans hf) |>.symm
      obtain rfl : fn = Tryd.f3 := (Option.some.inj (Tryd.func3.symm.trans hfn)).symm
      exact ⟨by kernel_rfl, fun j t ht => by
        rw [Tryd.params3] at ht
        have hm : t ∈ [24] := by simpa using Array.mem_of_getElem? ht
        have hall : ([24].all fun u => !Tryd.prog.wantsStandIn u) = true := by kernel_rfl
        exact (show Tryd.prog.wantsStandIn t = false by simpa using List.all_eq_true.1 hall t hm)⟩)
    (by kernel_rfl)
#print axioms exactEncodeProcess_card
end Go.Proofs.YthahiicfnadamaaDoor
