/- Merged texts (18 of 18) of the proof that ends in Sty: Sty. -/
import Derived.Test.YtkocdlgoncmdbaaGreatDoorAbQst17
import Derived.Test.YtkocdlgoncmdbaaGreatDoorTie
import Derived.Test.YtkocdlgoncmdbaaGreatDoorCards
import Derived.SevenTiedAt
/- The tied card of laws.FnExactStateOf: for every input the law returns true and its arguments read as before. -/
namespace Go.Proofs.YtkocdlgoncmdbaaGreatDoor
open Go.ChangeShapes Go.WideShapes Go.ChangeAt Go.RowKit Go.Ab
set_option maxRecDepth 100000
theorem exactStateOf_lifted (os : Os) (started : os.Started) (H : Type) (enc : TypeId × Value -> H) :
  ReturnsInHanded {} Tryz.checked os 5 .any (fun w args => (Rows.fnExactStateOfSpec.pre enc Tryz.prog Tryz.f5 [] false w args /\ laidMetH Tryz.prog Rows.fnExactStateOfRow.laid w) /\ sizedMet enc Tryz.prog Tryz.f5 (OpenSpec.ofChange Rows.fnExactStateOfSpec) false w args)
   (Rows.fnExactStateOfSpec.post enc Tryz.prog Tryz.f5 false true false false) :=
 E8 (C := Tryz.checked) own started (by kernel_rfl) Tryz.func5 laidOut
  (ChangeSpec.witness_shaped (enc := enc) (C := Tryz.checked) (os := os) (X := fun w _ => laidMetH Tryz.prog Rows.fnExactStateOfRow.laid w) false (World.laidAll Tryz.prog os Rows.fnExactStateOfRow.laid) #[.slice none 0 0, .agg #[.slice none 0 0, .slice none 0 0], .agg #[.int .i64 0, .slice none 0 0, .slice none 0 0, .int .i64 0, .slice none 0 0, .slice none 0 0]] 12 (World.laidAll_os _ _ _)
   (World.shaped_of_ZipB (by kernel_rfl) (by kernel_rfl)) (by kernel_rfl) (by kernel_rfl) (by kernel_rfl)
   (by rw [MakeChecks.laidMetH_plain _ _ _ (by kernel_rfl)]; exact laidMet_laidAll _ (by kernel_rfl) (by kernel_rfl)))
  (lG.cons rSig (lG.cons rSys (lG.cons rBig lG.nil))) (fun a ha => pI a.1 a.2.1 a.2.2.1 ha.1 ha.2.1 ha.2.2.1) rfl (by kernel_rfl) BA (by kernel_rfl)
  (fun ds hds => by
   match ds, hds with
   | [d0, d1, d2], _ => exact ⟨rfl, rfl, rfl⟩)
theorem exactStateOf_holds : Rows.FnExactStateOfSaid :=
 OpenClaim.holds_of_wide 5 Tryz.f5 rfl rfl rfl rfl rfl rfl rfl ⟨rfl, rfl, rfl, rfl, rfl⟩ rfl rfl rfl rfl rfl (by kernel_rfl) Tryz.func5 (by kernel_rfl)
  (of_decide_eq_true (by kernel_rfl)) (by unfold Func.isWrapper; first | (rw [if_pos (by decide +kernel)]; kernel_rfl) | (rw [if_neg (by decide +kernel)]; exact ⟨rfl, rfl⟩))
  (fun os started H enc _ => exactStateOf_lifted os started H enc)
theorem exactStateOf_card : Rows.FnExactStateOfCardSaid :=
 Claim7.holds_tied_plain_at .later [] [.data, .pinned] true (true, "0d990ae7ed6c60e48d3a33c1bac4feab65eb787e373d34a7750ec14cac41f43e") false
  exactStateOf_holds (fun _ h => by cases h) (by kernel_rfl) (fun _ h => by cases h) fnExactStateOf_row_tie rfl ⟨rfl, rfl⟩ (by kernel_rfl) rfl
  (fun f fn hf hfn => by
   obtain rfl : f = 5 := Option.some.inj ((show Tryz.prog.funcNamed "loop.example/g01082/laws.FnExactStateOf" = some 5 by kernel_rfl).symm.trans hf) |>.symm
   obtain rfl : fn = Tryz.f5 := (Option.some.inj (Tryz.func5.symm.trans hfn)).symm;exact ⟨by kernel_rfl, fun j t ht => by
    rw [Tryz.params5] at ht;have hm : t ∈ [22, 49, 28] := by simpa using Array.mem_of_getElem? ht
    have hall : ([22, 49, 28].all fun u => !Tryz.prog.wantsStandIn u) = true := by kernel_rfl
    exact (show Tryz.prog.wantsStandIn t = false by simpa using List.all_eq_true.1 hall t hm)⟩)
  (by kernel_rfl)
#print axioms exactStateOf_card
end Go.Proofs.YtkocdlgoncmdbaaGreatDoor
