/- Merged texts (10 of 10) of the proof that ends in Ly: Ly. -/
import Derived.Test.YtgmjebjcomckaaaDoorAbQa9
import Derived.Test.YtgmjebjcomckaaaDoorTie
import Derived.Test.YtgmjebjcomckaaaDoorCards
import Derived.SevenTiedAt
/- The tied card of laws.FnExactAncestorsOf: for every input the law returns true and its arguments read as before. -/
namespace Go.Proofs.YtgmjebjcomckaaaDoor
open Go.ChangeShapes Go.WideShapes Go.ChangeAt Go.RowKit Go.Ab

set_option maxRecDepth 100000
theorem exactAncestorsOf_lifted (os : Os) (started : os.Started) (H : Type) (enc : TypeId × Value → H) :
    ReturnsInHanded {} Tryd.checked os 8 .any (fun w args => (Rows.fnExactAncestorsOfSpec.pre enc Tryd.prog Tryd.f8 [] false w args ∧ laidMetH Tryd.prog Rows.fnExactAncestorsOfRow.laid w) ∧ sizedMet enc Tryd.prog Tryd.f8 (OpenSpec.ofChange Rows.fnExactAncestorsOfSpec) false w args)
      (Rows.fnExactAncestorsOfSpec.post enc Tryd.prog Tryd.f8 false true false false) :=
  lift_law (C := Tryd.checked) own started (by kernel_rfl) Tryd.func8 laidOut
    (ChangeSpec.witness_shaped (enc := enc) (C := Tryd.checked) (os := os) (X := fun w _ => laidMetH Tryd.prog Rows.fnExactAncestorsOfRow.laid w) false (World.laidAll Tryd.prog os Rows.fnExactAncestorsOfRow.laid) #[.slice none 0 0, .agg #[.int .i64 0, .slice none 0 0, .slice none 0 0, .int .i64 0, .slice none 0 0, .slice none 0 0], .int .i64 0] 12 (World.laidAll_os _ _ _)
      (World.shaped_of_ZipB (by kernel_rfl) (by kernel_rfl)) (by kernel_rfl) (by kernel_rfl) (by kernel_rfl)
      (by rw [MakeChecks.laidMetH_plain _ _ _ (by kernel_rfl)]; exact laidMet_laidAll _ (by kernel_rfl) (by kernel_rfl)))
    (ArgsR.cons rSig (ArgsR.cons rBig (ArgsR.cons rInt ArgsR.nil))) (fun a ha => exactAncestorsOf_ok a.1 a.2.1 a.2.2.1 ha.1 ha.2.1) rfl (by kernel_rfl) underBool (by kernel_rfl)
    (fun ds hds => by
      match ds, hds with
      | [d0, d1, d2], _ => exact ⟨rfl, rfl, rfl⟩)

theorem exactAncestorsOf_holds : Rows.FnExactAncestorsOfSaid :=
  OpenClaim.holds_of_wide 8 Tryd.f8 rfl rfl rfl rfl rfl rfl rfl ⟨rfl, rfl, rfl, rfl, rfl⟩ rfl rfl rfl rfl rfl (by kernel_rfl) Tryd.func8 (by kernel_rfl)
    (of_decide_eq_true (by kernel_rfl)) (by unfold Func.isWrapper; first | (rw [if_pos (by decide +kernel)]; kernel_rfl) | (rw [if_neg (by decide +kernel)]; exact ⟨rfl, rfl⟩))
    (fun os started H enc _ => exactAncestorsOf_lifted os started H enc)

theorem exactAncestorsOf_card : Rows.FnExactAncestorsOfCardSaid :=
  Claim7.holds_tied_plain_at .later [] [.data, .pinned] true (true, "23728a8be8e1047f557b319f4313e9333638ef490c201945681407b8ad37bf78") false
    exactAncestorsOf_holds (fun _ h => by cases h) (by kernel_rfl) (fun _ h => by cases h) fnExactAncestorsOf_row_tie rfl ⟨rfl, rfl⟩ (by kernel_rfl) rfl
    (fun f fn hf hfn => by
      obtain rfl : f = 8 := Option.some.inj ((show Tryd.prog.funcNamed "loop.example/g01082/laws.FnExactAncestorsOf" = some 8 by kernel_rfl).symm.trans hf) |>.symm
      obtain rfl : fn = Tryd.f8 := (Option.some.inj (Tryd.func8.symm.trans hfn)).symm
      exact ⟨by kernel_rfl, fun j t ht => by
        rw [Tryd.params8] at ht
        have hm : t ∈ [65, 69, 3] := by simpa using Array.mem_of_getElem? ht
        have hall : ([65, 69, 3].all fun u => !Tryd.prog.wantsStandIn u) = true := by kernel_rfl
        exact (show Tryd.prog.wantsStandIn t = false by simpa using List.all_eq_true.1 hall t hm)⟩)
    (by kernel_rfl)
#print axioms exactAncestorsOf_card
end Go.Proofs.YtgmjebjcomckaaaDoor
