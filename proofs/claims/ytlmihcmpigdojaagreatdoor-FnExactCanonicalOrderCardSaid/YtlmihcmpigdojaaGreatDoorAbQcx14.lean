/- Merged texts (14 of 14) of the proof that ends in Cxy: Cxy. -/
import Derived.Test.YtlmihcmpigdojaaGreatDoorAbQcx13
import Derived.Test.YtlmihcmpigdojaaGreatDoorTie
import Derived.Test.YtlmihcmpigdojaaGreatDoorCards
import Derived.SevenTiedAt
/- The tied card of laws.FnExactCanonicalOrder: for every input the law returns true and its arguments read as before. -/
namespace Go.Proofs.YtlmihcmpigdojaaGreatDoor
open Go.ChangeShapes Go.WideShapes Go.ChangeAt Go.RowKit Go.Ab
set_option maxRecDepth 100000
theorem exactCanonicalOrder_lifted (os : Os) (started : os.Started) (H : Type) (enc : TypeId × Value → H) :
  ReturnsInHanded {} Tryz.checked os 4 .any (fun w args => (Rows.fnExactCanonicalOrderSpec.pre enc Tryz.prog Tryz.f4 [] false w args ∧ laidMetH Tryz.prog Rows.fnExactCanonicalOrderRow.laid w) ∧ sizedMet enc Tryz.prog Tryz.f4 (OpenSpec.ofChange Rows.fnExactCanonicalOrderSpec) false w args)
   (Rows.fnExactCanonicalOrderSpec.post enc Tryz.prog Tryz.f4 false true false false) :=
 lift_law (C := Tryz.checked) own started (by kernel_rfl) Tryz.func4 laidOut
  (ChangeSpec.witness_shaped (enc := enc) (C := Tryz.checked) (os := os) (X := fun w _ => laidMetH Tryz.prog Rows.fnExactCanonicalOrderRow.laid w) false (World.laidAll Tryz.prog os Rows.fnExactCanonicalOrderRow.laid) #[.slice none 0 0, .agg #[.int .i64 0, .slice none 0 0, .slice none 0 0, .int .i64 0, .slice none 0 0, .slice none 0 0]] 12 (World.laidAll_os _ _ _)
   (World.shaped_of_ZipB (by kernel_rfl) (by kernel_rfl)) (by kernel_rfl) (by kernel_rfl) (by kernel_rfl)
   (by rw [MakeChecks.laidMetH_plain _ _ _ (by kernel_rfl)]; exact laidMet_laidAll _ (by kernel_rfl) (by kernel_rfl)))
  (ArgsR.cons rSig (ArgsR.cons rBig ArgsR.nil)) (fun a ha => exactCanonicalOrder_ok a.1 a.2.1 ha.1 ha.2.1) rfl (by kernel_rfl) underBool (by kernel_rfl)
  (fun ds hds => by
   match ds, hds with
   | [d0, d1], _ => exact ⟨rfl, rfl, rfl⟩)
theorem exactCanonicalOrder_holds : Rows.FnExactCanonicalOrderSaid :=
 OpenClaim.holds_of_wide 4 Tryz.f4 rfl rfl rfl rfl rfl rfl rfl ⟨rfl, rfl, rfl, rfl, rfl⟩ rfl rfl rfl rfl rfl (by kernel_rfl) Tryz.func4 (by kernel_rfl)
  (of_decide_eq_true (by kernel_rfl)) (by unfold Func.isWrapper; first | (rw [if_pos (by decide +kernel)]; kernel_rfl) | (rw [if_neg (by decide +kernel)]; exact ⟨rfl, rfl⟩))
  (fun os started H enc _ => exactCanonicalOrder_lifted os started H enc)
theorem exactCanonicalOrder_card : Rows.FnExactCanonicalOrderCardSaid :=
 Claim7.holds_tied_plain_at .later [] [.data, .pinned] true (true, "65e7345bc906146986bd29cdcc4a4e1c70c1f99fe0c1ff92ec4bc3cf3765be9c") false
  exactCanonicalOrder_holds (fun _ h => by cases h) (by kernel_rfl) (fun _ h => by cases h) fnExactCanonicalOrder_row_tie rfl ⟨rfl, rfl⟩ (by kernel_rfl) rfl
  (fun f fn hf hfn => by
   obtain rfl : f = 4 := Option.some.inj ((show Tryz.prog.funcNamed "loop.example/g01082/laws.FnExactCanonicalOrder" = some 4 by kernel_rfl).symm.trans hf) |>.symm
   obtain rfl : fn = Tryz.f4 := (Option.some.inj (Tryz.func4.symm.trans hfn)).symm
   exact ⟨by kernel_rfl, fun j t ht => by
    rw [Tryz.params4] at ht
    have hm : t ∈ [22, 28] := by simpa using Array.mem_of_getElem? ht
    have hall : ([22, 28].all fun u => !Tryz.prog.wantsStandIn u) = true := by kernel_rfl
    exact (show Tryz.prog.wantsStandIn t = false by simpa using List.all_eq_true.1 hall t hm)⟩)
  (by kernel_rfl)
#print axioms exactCanonicalOrder_card
end Go.Proofs.YtlmihcmpigdojaaGreatDoor
