/- Merged texts (17 of 17) of the proof that ends in Coy: Coy. -/
import Derived.Test.YtkocdlgoncmdbaaGreatDoorAbQco16
import Derived.Test.YtkocdlgoncmdbaaGreatDoorTie
import Derived.Test.YtkocdlgoncmdbaaGreatDoorCards
import Derived.SevenTiedAt
/- The tied card of laws.FnExactCanonicalOf: for every input the law returns true and its arguments read as before. -/
namespace Go.Proofs.YtkocdlgoncmdbaaGreatDoor
open Go.ChangeShapes Go.WideShapes Go.ChangeAt Go.RowKit Go.Ab
set_option maxRecDepth 100000
theorem exactCanonicalOf_lifted (os : Os) (started : os.Started) (H : Type) (enc : TypeId × Value -> H) :
  ReturnsInHanded {} Tryz.checked os 4 .any (fun w args => (Rows.fnExactCanonicalOfSpec.pre enc Tryz.prog Tryz.f4 [] false w args /\ laidMetH Tryz.prog Rows.fnExactCanonicalOfRow.laid w) /\ sizedMet enc Tryz.prog Tryz.f4 (OpenSpec.ofChange Rows.fnExactCanonicalOfSpec) false w args)
   (Rows.fnExactCanonicalOfSpec.post enc Tryz.prog Tryz.f4 false true false false) :=
 Cx (C := Tryz.checked) own started (by kernel_rfl) Tryz.func4 laidOut
  (ChangeSpec.witness_shaped (enc := enc) (C := Tryz.checked) (os := os) (X := fun w _ => laidMetH Tryz.prog Rows.fnExactCanonicalOfRow.laid w) false (World.laidAll Tryz.prog os Rows.fnExactCanonicalOfRow.laid) #[.slice none 0 0, .agg #[.int .i64 0, .slice none 0 0, .slice none 0 0, .int .i64 0, .slice none 0 0, .slice none 0 0]] 12 (World.laidAll_os _ _ _)
   (World.shaped_of_ZipB (by kernel_rfl) (by kernel_rfl)) (by kernel_rfl) (by kernel_rfl) (by kernel_rfl)
   (by rw [MakeChecks.laidMetH_plain _ _ _ (by kernel_rfl)]; exact laidMet_laidAll _ (by kernel_rfl) (by kernel_rfl)))
  (nv.cons rSig (nv.cons rBig nv.nil)) (fun a ha => lH a.1 a.2.1 ha.1 ha.2.1) rfl (by kernel_rfl) Az (by kernel_rfl)
  (fun ds hds => by
   match ds, hds with
   | [d0, d1], _ => exact ⟨rfl, rfl, rfl⟩)
theorem exactCanonicalOf_holds : Rows.FnExactCanonicalOfSaid :=
 OpenClaim.holds_of_wide 4 Tryz.f4 rfl rfl rfl rfl rfl rfl rfl ⟨rfl, rfl, rfl, rfl, rfl⟩ rfl rfl rfl rfl rfl (by kernel_rfl) Tryz.func4 (by kernel_rfl)
  (of_decide_eq_true (by kernel_rfl)) (by unfold Func.isWrapper; first | (rw [if_pos (by decide +kernel)]; kernel_rfl) | (rw [if_neg (by decide +kernel)]; exact ⟨rfl, rfl⟩))
  (fun os started H enc _ => exactCanonicalOf_lifted os started H enc)
theorem exactCanonicalOf_card : Rows.FnExactCanonicalOfCardSaid :=
 Claim7.holds_tied_plain_at .later [] [.data, .pinned] true (true, "0d990ae7ed6c60e48d3a33c1bac4feab65eb787e373d34a7750ec14cac41f43e") false
  exactCanonicalOf_holds (fun _ h => by cases h) (by kernel_rfl) (fun _ h => by cases h) fnExactCanonicalOf_row_tie rfl ⟨rfl, rfl⟩ (by kernel_rfl) rfl
  (fun f fn hf hfn => by
   obtain rfl : f = 4 := Option.some.inj ((show Tryz.prog.funcNamed "loop.example/g01082/laws.FnExactCanonicalOf" = some 4 by kernel_rfl).symm.trans hf) |>.symm
   obtain rfl : fn = Tryz.f4 := (Option.some.inj (Tryz.func4.symm.trans hfn)).symm;exact ⟨by kernel_rfl, fun j t ht => by
    rw [Tryz.params4] at ht;have hm : t ∈ [22, 28] := by simpa using Array.mem_of_getElem? ht
    have hall : ([22, 28].all fun u => !Tryz.prog.wantsStandIn u) = true := by kernel_rfl
    exact (show Tryz.prog.wantsStandIn t = false by simpa using List.all_eq_true.1 hall t hm)⟩)
  (by kernel_rfl)
#print axioms exactCanonicalOf_card
end Go.Proofs.YtkocdlgoncmdbaaGreatDoor
