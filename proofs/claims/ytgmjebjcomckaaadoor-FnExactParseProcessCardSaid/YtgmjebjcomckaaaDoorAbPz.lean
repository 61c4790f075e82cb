/- The tied card of laws.FnExactParseProcess: for every input the law returns true and its arguments read as before. -/
import Derived.Test.YtgmjebjcomckaaaDoorAbRp
import Derived.Test.YtgmjebjcomckaaaDoorAbPl
import Derived.Test.YtgmjebjcomckaaaDoorTie
import Derived.Test.YtgmjebjcomckaaaDoorCards
import Derived.SevenTiedAt
namespace Go.Proofs.YtgmjebjcomckaaaDoor
open Go.ChangeShapes Go.WideShapes Go.ChangeAt Go.RowKit Go.Ab

set_option maxRecDepth 100000
theorem exactParseProcess_lifted (os : Os) (started : os.Started) (H : Type) (enc : TypeId × Value → H) :
    ReturnsInHanded {} Tryd.checked os 5 .any (fun w args => (Rows.fnExactParseProcessSpec.pre enc Tryd.prog Tryd.f5 [] false w args ∧ laidMetH Tryd.prog Rows.fnExactParseProcessRow.laid w) ∧ sizedMet enc Tryd.prog Tryd.f5 (OpenSpec.ofChange Rows.fnExactParseProcessSpec) false w args)
      (Rows.fnExactParseProcessSpec.post enc Tryd.prog Tryd.f5 false true false false) :=
  lift_law (C := Tryd.checked) own started (by kernel_rfl) Tryd.func5 laidOut
    (ChangeSpec.witness_shaped (enc := enc) (C := Tryd.checked) (os := os) (X := fun w _ => laidMetH Tryd.prog Rows.fnExactParseProcessRow.laid w) false (World.laidAll Tryd.prog os Rows.fnExactParseProcessRow.laid) #[.string .empty] 8 (World.laidAll_os _ _ _)
      (World.shaped_of_ZipB (by kernel_rfl) (by kernel_rfl)) (by kernel_rfl) (by kernel_rfl) (by kernel_rfl)
      (by rw [MakeChecks.laidMetH_plain _ _ _ (by kernel_rfl)]; exact laidMet_laidAll _ (by kernel_rfl) (by kernel_rfl)))
    (ArgsR.cons rStr ArgsR.nil) (fun a ha => exactParseProcess_ok a.1 ha.1) rfl (by kernel_rfl) underBool (by kernel_rfl)
    (fun ds hds => by
      match ds, hds with
      | [d0], _ => exact ⟨rfl, rfl, rfl⟩)

theorem exactParseProcess_holds : Rows.FnExactParseProcessSaid :=
  OpenClaim.holds_of_wide 5 Tryd.f5 rfl rfl rfl rfl rfl rfl rfl ⟨rfl, rfl, rfl, rfl, rfl⟩ rfl rfl rfl rfl rfl (by kernel_rfl) Tryd.func5 (by kernel_rfl)
    (of_decide_eq_true (by kernel_rfl)) (by unfold Func.isWrapper; first | (rw [if_pos (by decide +kernel)]; kernel_rfl) | (rw [if_neg (by decide +kernel)]; exact ⟨rfl, rfl⟩))
    (fun os started H enc _ => exactParseProcess_lifted os started H enc)

theorem exactParseProcess_card : Rows.FnExactParseProcessCardSaid :=
  Claim7.holds_tied_plain_at .later [] [.data, .pinned] true (true, "23728a8be8e1047f557b319f4313e9333638ef490c201945681407b8ad37bf78") false
    exactParseProcess_holds (fun _ h => by cases h) (by kernel_rfl) (fun _ h => by cases h) fnExactParseProcess_row_tie rfl ⟨rfl, rfl⟩ (by kernel_rfl) rfl
    (fun f fn hf hfn => by
      obtain rfl : f = 5 := Option.some.inj ((show Tryd.prog.funcNamed "loop.example/g01082/laws.FnExactParseProcess" = some 5 by kernel_rfl).symm.trans hf) |>.symm
      obtain rfl : fn = Tryd.f5 := (Option.some.inj (Tryd.func5.symm.trans hfn)).symm
      exact ⟨by kernel_rfl, fun j t ht => by
        rw [Tryd.params5] at ht
        have hm : t ∈ [9] := by simpa using Array.mem_of_getElem? ht
        have hall : ([9].all fun u => !Tryd.prog.wantsStandIn u) = true := by kernel_rfl
        exact (show Tryd.prog.wantsStandIn t = false by simpa using List.all_eq_true.1 hall t hm)⟩)
    (by kernel_rfl)
#print axioms exactParseProcess_card
end Go.Proofs.YtgmjebjcomckaaaDoor
