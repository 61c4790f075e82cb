/- Merged texts (18 of 18) of the proof that ends in Mhy: Mhy. -/
import Derived.Test.YtehcknfedbjaaaaGreatDoorAbQmh17
import Derived.Test.YtehcknfedbjaaaaGreatDoorTie
import Derived.Test.YtehcknfedbjaaaaGreatDoorCards
import Derived.SevenTiedAt
/- The tied card of laws.FnExactMatchContext: for every input the law returns true and its arguments read as before. -/
namespace Go.Proofs.YtehcknfedbjaaaaGreatDoor
open Go.ChangeShapes Go.WideShapes Go.ChangeAt Go.RowKit Go.Ab
set_option maxRecDepth 100000
theorem exactMatchContext_lifted (os : Os) (started : os.Started) (H : Type) (enc : TypeId × Value -> H) :
  ReturnsInHanded {} Tryz.checked os 4 .any (fun w args => (Rows.fnExactMatchContextSpec.pre enc Tryz.prog Tryz.f4 [] false w args /\ laidMetH Tryz.prog Rows.fnExactMatchContextRow.laid w) /\ sizedMet enc Tryz.prog Tryz.f4 (OpenSpec.ofChange Rows.fnExactMatchContextSpec) false w args)
   (Rows.fnExactMatchContextSpec.post enc Tryz.prog Tryz.f4 false true false false) :=
 Gv (C := Tryz.checked) own started (by kernel_rfl) Tryz.func4 laidOut
  (ChangeSpec.witness_shaped (enc := enc) (C := Tryz.checked) (os := os) (X := fun w _ => laidMetH Tryz.prog Rows.fnExactMatchContextRow.laid w) false (World.laidAll Tryz.prog os Rows.fnExactMatchContextRow.laid) #[.slice none 0 0, .agg #[.int .i64 0, .slice none 0 0, .slice none 0 0, .int .i64 0, .slice none 0 0, .slice none 0 0], .agg #[.int .i64 0, .slice none 0 0, .slice none 0 0, .int .i64 0, .slice none 0 0, .slice none 0 0], .agg #[.slice none 0 0, .slice none 0 0]] 12 (World.laidAll_os _ _ _)
   (World.shaped_of_ZipB (by kernel_rfl) (by kernel_rfl)) (by kernel_rfl) (by kernel_rfl) (by kernel_rfl)
   (by rw [MakeChecks.laidMetH_plain _ _ _ (by kernel_rfl)]; exact laidMet_laidAll _ (by kernel_rfl) (by kernel_rfl)))
  (nB.cons rSig (nB.cons rBig (nB.cons rBig (nB.cons rMatch nB.nil)))) (fun a ha => nK a.1 a.2.1 a.2.2.1 a.2.2.2.1 ha.1 ha.2.1 ha.2.2.1 ha.2.2.2.1) rfl (by kernel_rfl) EC (by kernel_rfl)
  (fun ds hds => by
   match ds, hds with
   | [d0, d1, d2, d3], _ => exact ⟨rfl, rfl, rfl⟩)
theorem exactMatchContext_holds : Rows.FnExactMatchContextSaid :=
 OpenClaim.holds_of_wide 4 Tryz.f4 rfl rfl rfl rfl rfl rfl rfl ⟨rfl, rfl, rfl, rfl, rfl⟩ rfl rfl rfl rfl rfl (by kernel_rfl) Tryz.func4 (by kernel_rfl)
  (of_decide_eq_true (by kernel_rfl)) (by unfold Func.isWrapper; first | (rw [if_pos (by decide +kernel)]; kernel_rfl) | (rw [if_neg (by decide +kernel)]; exact ⟨rfl, rfl⟩))
  (fun os started H enc _ => exactMatchContext_lifted os started H enc)
theorem exactMatchContext_card : Rows.FnExactMatchContextCardSaid :=
 Claim7.holds_tied_plain_at .later [] [.data, .pinned] true (true, "7b19af040c53121d102406fd4acc46ed62a6ea05e2e0bf69ad1291b6d56f35e8") false
  exactMatchContext_holds (fun _ h => by cases h) (by kernel_rfl) (fun _ h => by cases h) fnExactMatchContext_row_tie rfl ⟨rfl, rfl⟩ (by kernel_rfl) rfl
  (fun f fn hf hfn => by
   obtain rfl : f = 4 := Option.some.inj ((show Tryz.prog.funcNamed "loop.example/g01082/laws.FnExactMatchContext" = some 4 by kernel_rfl).symm.trans hf) |>.symm
   obtain rfl : fn = Tryz.f4 := (Option.some.inj (Tryz.func4.symm.trans hfn)).symm;exact ⟨by kernel_rfl, fun j t ht => by
    rw [Tryz.params4] at ht;have hm : t ∈ [22, 28, 28, 49] := by simpa using Array.mem_of_getElem? ht
    have hall : ([22, 28, 28, 49].all fun u => !Tryz.prog.wantsStandIn u) = true := by kernel_rfl
    exact (show Tryz.prog.wantsStandIn t = false by simpa using List.all_eq_true.1 hall t hm)⟩)
  (by kernel_rfl)
#print axioms exactMatchContext_card
end Go.Proofs.YtehcknfedbjaaaaGreatDoor
