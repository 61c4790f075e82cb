/- Merged texts (16 of 16) of the proof that ends in Kyy: Kyy. -/
import Derived.Test.YtkgmflihalaheaaGreatDoorAbQky15
import Derived.Test.YtkgmflihalaheaaGreatDoorTie
import Derived.Test.YtkgmflihalaheaaGreatDoorCards
import Derived.SevenTiedAt
/- The tied card of laws.FnExactKeyOf: for every input the law returns true and its arguments read as before. -/
namespace Go.Proofs.YtkgmflihalaheaaGreatDoor
open Go.ChangeShapes Go.WideShapes Go.ChangeAt Go.RowKit Go.Ab
set_option maxRecDepth 100000
theorem exactKeyOf_lifted (os : Os) (started : os.Started) (H : Type) (enc : TypeId × Value -> H) :
  ReturnsInHanded {} Tryz.checked os 3 .any (fun w args => (Rows.fnExactKeyOfSpec.pre enc Tryz.prog Tryz.f3 [] false w args /\ laidMetH Tryz.prog Rows.fnExactKeyOfRow.laid w) /\ sizedMet enc Tryz.prog Tryz.f3 (OpenSpec.ofChange Rows.fnExactKeyOfSpec) false w args)
   (Rows.fnExactKeyOfSpec.post enc Tryz.prog Tryz.f3 false true false false) :=
 BL (C := Tryz.checked) own started (by kernel_rfl) Tryz.func3 laidOut
  (ChangeSpec.witness_shaped (enc := enc) (C := Tryz.checked) (os := os) (X := fun w _ => laidMetH Tryz.prog Rows.fnExactKeyOfRow.laid w) false (World.laidAll Tryz.prog os Rows.fnExactKeyOfRow.laid) #[.slice none 0 0, .agg #[.int .i64 0, .slice none 0 0, .slice none 0 0, .int .i64 0, .slice none 0 0, .slice none 0 0]] 12 (World.laidAll_os _ _ _)
   (World.shaped_of_ZipB (by kernel_rfl) (by kernel_rfl)) (by kernel_rfl) (by kernel_rfl) (by kernel_rfl)
   (by rw [MakeChecks.laidMetH_plain _ _ _ (by kernel_rfl)]; exact laidMet_laidAll _ (by kernel_rfl) (by kernel_rfl)))
  (fun W h => cD.xd (front := Rows.fnExactKeyOfRow.laid.take 2) (rest := Rows.fnExactKeyOfRow.laid.drop 3) (g := 1) (t := 217) (e := 198) (n := 20) (by kernel_rfl) (by kernel_rfl) (by kernel_rfl) (by kernel_rfl) (by kernel_rfl) (by kernel_rfl) (by kernel_rfl) (by kernel_rfl) h) (me.cons rSig (me.cons rBig me.nil)) (fun a ha => qZ a.1 a.2.1 ha.1 ha.2.1) rfl (by kernel_rfl) yF (by kernel_rfl)
  (fun ds hds => by
   match ds, hds with
   | [d0, d1], _ => exact ⟨rfl, rfl, rfl⟩)
theorem exactKeyOf_holds : Rows.FnExactKeyOfSaid :=
 OpenClaim.holds_of_wide 3 Tryz.f3 rfl rfl rfl rfl rfl rfl rfl ⟨rfl, rfl, rfl, rfl, rfl⟩ rfl rfl rfl rfl rfl (by kernel_rfl) Tryz.func3 (by kernel_rfl)
  (of_decide_eq_true (by kernel_rfl)) (by unfold Func.isWrapper; first | (rw [if_pos (by decide +kernel)]; kernel_rfl) | (rw [if_neg (by decide +kernel)]; exact ⟨rfl, rfl⟩))
  (fun os started H enc _ => exactKeyOf_lifted os started H enc)
theorem exactKeyOf_card : Rows.FnExactKeyOfCardSaid :=
 Claim7.holds_tied_plain_at .later [] [.data, .data, .data, .data, .pinned] true (true, "fe76082149e9501973d56ef9ae4d2aac2bcedcb5b329ea331097d8c9aa5143d3") true
  exactKeyOf_holds (fun _ h => by cases h) (by kernel_rfl) (fun _ h => by cases h) fnExactKeyOf_row_tie rfl ⟨rfl, rfl⟩ (by kernel_rfl) rfl
  (fun f fn hf hfn => by
   obtain rfl : f = 3 := Option.some.inj ((show Tryz.prog.funcNamed "loop.example/g01082/laws.FnExactKeyOf" = some 3 by kernel_rfl).symm.trans hf) |>.symm
   obtain rfl : fn = Tryz.f3 := (Option.some.inj (Tryz.func3.symm.trans hfn)).symm;exact ⟨by kernel_rfl, fun j t ht => by
    rw [Tryz.params3] at ht;have hm : t ∈ [22, 28] := by simpa using Array.mem_of_getElem? ht
    have hall : ([22, 28].all fun u => !Tryz.prog.wantsStandIn u) = true := by kernel_rfl
    exact (show Tryz.prog.wantsStandIn t = false by simpa using List.all_eq_true.1 hall t hm)⟩)
  (by kernel_rfl)
#print axioms exactKeyOf_card
end Go.Proofs.YtkgmflihalaheaaGreatDoor
