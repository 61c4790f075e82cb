/- Merged texts (17 of 17) of the proof that ends in Mpy: Mpy. -/
import Derived.Test.YtbikfokhjdjfpaaGreatDoorAbQmp16
import Derived.Test.YtbikfokhjdjfpaaGreatDoorTie
import Derived.Test.YtbikfokhjdjfpaaGreatDoorCards
import Derived.SevenTiedAt
/- The tied card of laws.FnExactMatchParameter: for every input the law returns true and its arguments read as before. -/
namespace Go.Proofs.YtbikfokhjdjfpaaGreatDoor
open Go.ChangeShapes Go.WideShapes Go.ChangeAt Go.RowKit Go.Ab
set_option maxRecDepth 100000
theorem exactMatchParameter_lifted (os : Os) (started : os.Started) (H : Type) (enc : TypeId × Value → H) :
  ReturnsInHanded {} Tryz.checked os 4 .any (fun w args => (Rows.fnExactMatchParameterSpec.pre enc Tryz.prog Tryz.f4 [] false w args ∧ laidMetH Tryz.prog Rows.fnExactMatchParameterRow.laid w) ∧ sizedMet enc Tryz.prog Tryz.f4 (OpenSpec.ofChange Rows.fnExactMatchParameterSpec) false w args)
   (Rows.fnExactMatchParameterSpec.post enc Tryz.prog Tryz.f4 false true false false) :=
 Ea (C := Tryz.checked) own started (by kernel_rfl) Tryz.func4 laidOut
  (ChangeSpec.witness_shaped (enc := enc) (C := Tryz.checked) (os := os) (X := fun w _ => laidMetH Tryz.prog Rows.fnExactMatchParameterRow.laid w) false (World.laidAll Tryz.prog os Rows.fnExactMatchParameterRow.laid) #[.slice none 0 0, .agg #[.int .i64 0, .slice none 0 0, .slice none 0 0, .int .i64 0, .slice none 0 0, .slice none 0 0], .agg #[.int .i64 0, .slice none 0 0, .slice none 0 0, .int .i64 0, .slice none 0 0, .slice none 0 0], .agg #[.slice none 0 0, .slice none 0 0]] 12 (World.laidAll_os _ _ _)
   (World.shaped_of_ZipB (by kernel_rfl) (by kernel_rfl)) (by kernel_rfl) (by kernel_rfl) (by kernel_rfl)
   (by rw [MakeChecks.laidMetH_plain _ _ _ (by kernel_rfl)]; exact laidMet_laidAll _ (by kernel_rfl) (by kernel_rfl)))
  (lM.cons I2 (lM.cons Hv (lM.cons Hv (lM.cons FV lM.nil)))) (fun a ha => kX a.1 a.2.1 a.2.2.1 a.2.2.2.1 ha.1 ha.2.1 ha.2.2.1 ha.2.2.2.1) rfl (by kernel_rfl) Dg (by kernel_rfl)
  (fun ds hds => by
   match ds, hds with
   | [d0, d1, d2, d3], _ => exact ⟨rfl, rfl, rfl⟩)
theorem exactMatchParameter_holds : Rows.FnExactMatchParameterSaid :=
 OpenClaim.holds_of_wide 4 Tryz.f4 rfl rfl rfl rfl rfl rfl rfl ⟨rfl, rfl, rfl, rfl, rfl⟩ rfl rfl rfl rfl rfl (by kernel_rfl) Tryz.func4 (by kernel_rfl)
  (of_decide_eq_true (by kernel_rfl)) (by unfold Func.isWrapper; first | (rw [if_pos (by decide +kernel)]; kernel_rfl) | (rw [if_neg (by decide +kernel)]; exact ⟨rfl, rfl⟩))
  (fun os started H enc _ => exactMatchParameter_lifted os started H enc)
theorem exactMatchParameter_card : Rows.FnExactMatchParameterCardSaid :=
 Claim7.holds_tied_plain_at .later [] [.data, .pinned] true (true, "cd57bb2614b9bfd6ba541123df75b22f85bc4e0fea546e6f634473dd380a2ec7") false
  exactMatchParameter_holds (fun _ h => by cases h) (by kernel_rfl) (fun _ h => by cases h) fnExactMatchParameter_row_tie rfl ⟨rfl, rfl⟩ (by kernel_rfl) rfl
  (fun f fn hf hfn => by
   obtain rfl : f = 4 := Option.some.inj ((show Tryz.prog.funcNamed "loop.example/g01082/laws.FnExactMatchParameter" = some 4 by kernel_rfl).symm.trans hf) |>.symm
   obtain rfl : fn = Tryz.f4 := (Option.some.inj (Tryz.func4.symm.trans hfn)).symm
   exact ⟨by kernel_rfl, fun j t ht => by
    rw [Tryz.params4] at ht
    have hm : t ∈ [22, 28, 28, 46] := by simpa using Array.mem_of_getElem? ht
    have hall : ([22, 28, 28, 46].all fun u => !Tryz.prog.wantsStandIn u) = true := by kernel_rfl
    exact (show Tryz.prog.wantsStandIn t = false by simpa using List.all_eq_true.1 hall t hm)⟩)
  (by kernel_rfl)
#print axioms exactMatchParameter_card
end Go.Proofs.YtbikfokhjdjfpaaGreatDoor
