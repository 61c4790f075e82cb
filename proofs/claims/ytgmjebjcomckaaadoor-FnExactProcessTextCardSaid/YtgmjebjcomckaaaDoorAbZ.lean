/- The tied card of laws.FnExactProcessText: for every input the law returns true and its argument reads as before. -/
import Derived.Test.YtgmjebjcomckaaaDoorAbR
import Derived.Test.YtgmjebjcomckaaaDoorAbLaw1
import Derived.Test.YtgmjebjcomckaaaDoorTie
import Derived.Test.YtgmjebjcomckaaaDoorCards
import Derived.SevenTiedAt
namespace Go.Proofs.YtgmjebjcomckaaaDoor
open Go.ChangeShapes Go.WideShapes Go.ChangeAt Go.RowKit Go.Ab

theorem own : ownKnob Tryd.prog.godebug = none := by kernel_rfl
theorem laidOut : laidOutB Tryd.prog = true := by kernel_rfl
theorem underBool : Tryd.prog.underlying 4 = some .bool := Tryd.underlying4

theorem rNode : Reader Tryd.prog 143 AmbNode.cells (fun x => x.name.length ≤ 9223372036854775807) := by
  have h := Reader.struct Tryd.underlying143 (n := 3) (by kernel_rfl) (FReader.cons (n := 1) rfl (by kernel_rfl) (Reader.int Tryd.underlying3) (FReader.cons (n := 1) rfl (by kernel_rfl) (Reader.str Tryd.underlying9) (FReader.cons (n := 1) rfl (by kernel_rfl) (Reader.int Tryd.underlying3) (FReader.nil 3))))
  exact h.map (fun p => ⟨p.1, p.2.1, p.2.2.1⟩) (fun p => rfl) (fun p hp => hp.2.1)

theorem rProcess : ArgR Tryd.prog 24 (encP false) Small := by
  have h := Reader.struct Tryd.underlying24 (n := 1) (by kernel_rfl) (FReader.cons (n := 1) rfl (by kernel_rfl) (Reader.slice Tryd.underlying22 (of_decide_eq_true (by kernel_rfl)) rNode) (FReader.nil 1))
  have h2 := h.map (e' := fun p : Proc => [.list false (p.map AmbNode.cells)]) (ok' := Small) (fun p => p.1) (fun p => rfl) (fun p hp => hp.1)
  exact ArgR.struct Tryd.underlying24 h2

set_option maxRecDepth 100000
theorem exactProcessText_lifted (os : Os) (started : os.Started) (H : Type) (enc : TypeId × Value → H) :
    ReturnsInHanded {} Tryd.checked os 3 .any (fun w args => (Rows.fnExactProcessTextSpec.pre enc Tryd.prog Tryd.f3 [] false w args ∧ laidMetH Tryd.prog Rows.fnExactProcessTextRow.laid w) ∧ sizedMet enc Tryd.prog Tryd.f3 (OpenSpec.ofChange Rows.fnExactProcessTextSpec) false w args)
      (Rows.fnExactProcessTextSpec.post enc Tryd.prog Tryd.f3 false true false false) :=
  lift_law (C := Tryd.checked) own started (by kernel_rfl) Tryd.func3 laidOut
    (ChangeSpec.witness_shaped (enc := enc) (C := Tryd.checked) (os := os) (X := fun w _ => laidMetH Tryd.prog Rows.fnExactProcessTextRow.laid w) false (World.laidAll Tryd.prog os Rows.fnExactProcessTextRow.laid) #[.agg #[.slice none 0 0]] 8 (World.laidAll_os _ _ _)
      (World.shaped_of_ZipB (by kernel_rfl) (by kernel_rfl)) (by kernel_rfl) (by kernel_rfl) (by kernel_rfl)
      (by rw [MakeChecks.laidMetH_plain _ _ _ (by kernel_rfl)]; exact laidMet_laidAll _ (by kernel_rfl) (by kernel_rfl)))
    (ArgsR.cons rProcess ArgsR.nil) (fun a ha => exactProcessText_ok a.1 ha.1) rfl (by kernel_rfl) underBool (by kernel_rfl)
    (fun ds hds => by
      match ds, hds with
      | [d], _ => exact ⟨rfl, rfl, rfl⟩)

theorem exactProcessText_holds : Rows.FnExactProcessTextSaid :=
  OpenClaim.holds_of_wide 3 Tryd.f3 rfl rfl rfl rfl rfl rfl rfl ⟨rfl, rfl, rfl, rfl, rfl⟩ rfl rfl rfl rfl rfl (by kernel_rfl) Tryd.func3 (by kernel_rfl)
    (of_decide_eq_true (by kernel_rfl)) (by unfold Func.isWrapper; first | (rw [if_pos (by decide +kernel)]; kernel_rfl) | (rw [if_neg (by decide +kernel)]; exact ⟨rfl, rfl⟩))
    (fun os started H enc _ => exactProcessText_lifted os started H enc)

theorem exactProcessText_card : Rows.FnExactProcessTextCardSaid :=
  Claim7.holds_tied_plain_at .later [] [.data, .pinned] true (true, "23728a8be8e1047f557b319f4313e9333638ef490c201945681407b8ad37bf78") false
    exactProcessText_holds (fun _ h => by cases h) (by kernel_rfl) (fun _ h => by cases h) fnExactProcessText_row_tie rfl ⟨rfl, rfl⟩ (by kernel_rfl) rfl
    (fun f fn hf hfn => by
      obtain rfl : f = 3 := Option.some.inj ((show Tryd.prog.funcNamed "loop.example/g01082/laws.FnExactProcessText" = some 3 by kernel_rfl).symm.trans hf) |>.symm
      obtain rfl : fn = Tryd.f3 := (Option.some.inj (Tryd.func3.symm.trans hfn)).symm
      exact ⟨by kernel_rfl, fun j t ht => by
        rw [Tryd.params3] at ht
        have hm : t ∈ [24] := by simpa using Array.mem_of_getElem? ht
        have hall : ([24].all fun u => !Tryd.prog.wantsStandIn u) = true := by kernel_rfl
        exact (show Tryd.prog.wantsStandIn t = false by simpa using List.all_eq_true.1 hall t hm)⟩)
    (by kernel_rfl)
#print axioms exactProcessText_card
end Go.Proofs.YtgmjebjcomckaaaDoor
