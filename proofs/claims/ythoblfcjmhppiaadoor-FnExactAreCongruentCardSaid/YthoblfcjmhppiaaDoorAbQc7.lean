/- Merged texts (7 of 7) of the proof that ends in Cy: Cy. -/
import Derived.Test.YthoblfcjmhppiaaDoorAbQc6
import Derived.Test.YthoblfcjmhppiaaDoorTie
import Derived.Test.YthoblfcjmhppiaaDoorCards
import Derived.SevenTiedAt
/- The tied card of laws.FnExactAreCongruent: for every input the law returns true and its arguments read as before. -/
namespace Go.Proofs.YthoblfcjmhppiaaDoor
open Go.ChangeShapes Go.WideShapes Go.ChangeAt Go.RowKit Go.Ab

set_option maxRecDepth 100000
theorem exactAreCongruent_lifted (os : Os) (started : os.Started) (H : Type) (enc : TypeId × Value → H) :
    ReturnsInHanded {} Tryd.checked os 4 .any (fun w args => (Rows.fnExactAreCongruentSpec.pre enc Tryd.prog Tryd.f4 [] false w args ∧ laidMetH Tryd.prog Rows.fnExactAreCongruentRow.laid w) ∧ sizedMet enc Tryd.prog Tryd.f4 (OpenSpec.ofChange Rows.fnExactAreCongruentSpec) false w args)
      (Rows.fnExactAreCongruentSpec.post enc Tryd.prog Tryd.f4 false true false false) :=
  lift_law (C := Tryd.checked) own started (by kernel_rfl) Tryd.func4 laidOut
    (ChangeSpec.witness_shaped (enc := enc) (C := Tryd.checked) (os := os) (X := fun w _ => laidMetH Tryd.prog Rows.fnExactAreCongruentRow.laid w) false (World.laidAll Tryd.prog os Rows.fnExactAreCongruentRow.laid) #[.agg #[.slice none 0 0], .agg #[.slice none 0 0]] 12 (World.laidAll_os _ _ _)
      (World.shaped_of_ZipB (by kernel_rfl) (by kernel_rfl)) (by kernel_rfl) (by kernel_rfl) (by kernel_rfl)
      (by rw [MakeChecks.laidMetH_plain _ _ _ (by kernel_rfl)]; exact laidMet_laidAll _ (by kernel_rfl) (by kernel_rfl)))
    (ArgsR.cons rProcess (ArgsR.cons rProcess ArgsR.nil)) (fun a ha => exactAreCongruent_ok a.1 a.2.1 ha.1 ha.2.1) rfl (by kernel_rfl) underBool (by kernel_rfl)
    (fun ds hds => by
      match ds, hds with
      | [d0, d1], _ => exact ⟨rfl, rfl, rfl⟩)

theorem exactAreCongruent_holds : Rows.FnExactAreCongruentSaid :=
  OpenClaim.holds_of_wide 4 Tryd.f4 rfl rfl rfl rfl rfl rfl rfl ⟨rfl, rfl, rfl, rfl, rfl⟩ rfl rfl rfl rfl rfl (by kernel_rfl) Tryd.func4 (by kernel_rfl)
    (of_decide_eq_true (by kernel_rfl)) (by unfold Func.isWrapper; first | (rw [if_pos (by decide +kernel)]; kernel_rfl) | (rw [if_neg (by decide +kernel)]; exact ⟨rfl, rfl⟩))
    (fun os started H enc _ => exactAreCongruent_lifted os started H enc)

theorem exactAreCongruent_card : Rows.FnExactAreCongruentCardSaid :=
  Claim7.holds_tied_plain_at .later [] [.data, .pinned] true (true, "5c5eafdeefe5b513c62dc821bf159f13eb7ed30e81fe78e12993bbfdd1747357") false
    exactAreCongruent_holds (fun _ h => by cases h) (by kernel_rfl) (fun _ h => by cases h) fnExactAreCongruent_row_tie rfl ⟨rfl, rfl⟩ (by kernel_rfl) rfl
    (fun f fn hf hfn => by
      obtain rfl : f = 4 := Option.some.inj ((show Tryd.prog.funcNamed "loop.example/g01082/laws.FnExactAreCongruent" = some 4 by kernel_rfl).symm.trans hf) |>.symm
      obtain rfl : fn = Tryd.f4 := (Option.some.inj (Tryd.func4.symm.trans hfn)).symm
      exact ⟨by kernel_rfl, fun j t ht => by
        rw [Tryd.params4] at ht
        have hm : t ∈ [46, 46] := by simpa using Array.mem_of_getElem? ht
        have hall : ([46, 46].all fun u => !Tryd.prog.wantsStandIn u) = true := by kernel_rfl
        exact (show Tryd.prog.wantsStandIn t = false by simpa using List.all_eq_true.1 hall t hm)⟩)
    (by kernel_rfl)
#print axioms exactAreCongruent_card
end Go.Proofs.YthoblfcjmhppiaaDoor
