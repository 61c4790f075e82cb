/- Merged texts (13 of 13) of the proof that ends in Lhy: Lhy. -/
import Derived.Test.YtpakecdmnomalaaGreatDoorAbQlh12
import Derived.Test.YtpakecdmnomalaaGreatDoorTie
import Derived.Test.YtpakecdmnomalaaGreatDoorCards
import Derived.SevenTiedAt
/- The tied card of laws.FnExactCountActive: for every input the law returns true and its arguments read as before. -/
namespace Go.Proofs.YtpakecdmnomalaaGreatDoor
open Go.ChangeShapes Go.WideShapes Go.ChangeAt Go.RowKit Go.Ab
set_option maxRecDepth 100000
theorem exactCountActive_lifted (os : Os) (started : os.Started) (H : Type) (enc : TypeId × Value → H) :
  ReturnsInHanded {} Tryz.checked os 3 .any (fun w args => (Rows.fnExactCountActiveSpec.pre enc Tryz.prog Tryz.f3 [] false w args ∧ laidMetH Tryz.prog Rows.fnExactCountActiveRow.laid w) ∧ sizedMet enc Tryz.prog Tryz.f3 (OpenSpec.ofChange Rows.fnExactCountActiveSpec) false w args)
   (Rows.fnExactCountActiveSpec.post enc Tryz.prog Tryz.f3 false true false false) :=
 lift_law (C := Tryz.checked) own started (by kernel_rfl) Tryz.func3 laidOut
  (ChangeSpec.witness_shaped (enc := enc) (C := Tryz.checked) (os := os) (X := fun w _ => laidMetH Tryz.prog Rows.fnExactCountActiveRow.laid w) false (World.laidAll Tryz.prog os Rows.fnExactCountActiveRow.laid) #[.slice none 0 0, .agg #[.int .i64 0, .slice none 0 0, .slice none 0 0, .int .i64 0, .slice none 0 0, .slice none 0 0], .agg #[.int .i64 0, .slice none 0 0, .slice none 0 0, .int .i64 0, .slice none 0 0, .slice none 0 0]] 12 (World.laidAll_os _ _ _)
   (World.shaped_of_ZipB (by kernel_rfl) (by kernel_rfl)) (by kernel_rfl) (by kernel_rfl) (by kernel_rfl)
   (by rw [MakeChecks.laidMetH_plain _ _ _ (by kernel_rfl)]; exact laidMet_laidAll _ (by kernel_rfl) (by kernel_rfl)))
  (ArgsR.cons rSig (ArgsR.cons rBig (ArgsR.cons rBig ArgsR.nil))) (fun a ha => exactCountActive_ok a.1 a.2.1 a.2.2.1 ha.1 ha.2.1 ha.2.2.1) rfl (by kernel_rfl) underBool (by kernel_rfl)
  (fun ds hds => by
   match ds, hds with
   | [d0, d1, d2], _ => exact ⟨rfl, rfl, rfl⟩)
theorem exactCountActive_holds : Rows.FnExactCountActiveSaid :=
 OpenClaim.holds_of_wide 3 Tryz.f3 rfl rfl rfl rfl rfl rfl rfl ⟨rfl, rfl, rfl, rfl, rfl⟩ rfl rfl rfl rfl rfl (by kernel_rfl) Tryz.func3 (by kernel_rfl)
  (of_decide_eq_true (by kernel_rfl)) (by unfold Func.isWrapper; first | (rw [if_pos (by decide +kernel)]; kernel_rfl) | (rw [if_neg (by decide +kernel)]; exact ⟨rfl, rfl⟩))
  (fun os started H enc _ => exactCountActive_lifted os started H enc)
theorem exactCountActive_card : Rows.FnExactCountActiveCardSaid :=
 Claim7.holds_tied_plain_at .later [] [.data, .pinned] true (true, "db4b20cb8e14e682ea4c699367bac3627f06ba6104fac6d2a3045821a2d3cd7e") false
  exactCountActive_holds (fun _ h => by cases h) (by kernel_rfl) (fun _ h => by cases h) fnExactCountActive_row_tie rfl ⟨rfl, rfl⟩ (by kernel_rfl) rfl
  (fun f fn hf hfn => by
   obtain rfl : f = 3 := Option.some.inj ((show Tryz.prog.funcNamed "loop.example/g01082/laws.FnExactCountActive" = some 3 by kernel_rfl).symm.trans hf) |>.symm
   obtain rfl : fn = Tryz.f3 := (Option.some.inj (Tryz.func3.symm.trans hfn)).symm
   exact ⟨by kernel_rfl, fun j t ht => by
    rw [Tryz.params3] at ht
    have hm : t ∈ [22, 28, 28] := by simpa using Array.mem_of_getElem? ht
    have hall : ([22, 28, 28].all fun u => !Tryz.prog.wantsStandIn u) = true := by kernel_rfl
    exact (show Tryz.prog.wantsStandIn t = false by simpa using List.all_eq_true.1 hall t hm)⟩)
  (by kernel_rfl)
#print axioms exactCountActive_card
end Go.Proofs.YtpakecdmnomalaaGreatDoor
