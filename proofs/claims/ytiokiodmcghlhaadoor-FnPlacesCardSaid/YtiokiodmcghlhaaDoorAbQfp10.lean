/- Merged texts (10 of 11) of the proof that ends in Fpy: Rp Rb Rx Fpz. -/
import Derived.Test.YtiokiodmcghlhaaDoorAbQfp9
/- Readers of the laws' arguments: processes. -/
namespace Go.Proofs.YtiokiodmcghlhaaDoor
open Go.ChangeShapes Go.WideShapes Go.ChangeAt Go.RowKit Go.Ab
set_option maxRecDepth 100000
theorem own:ownKnob Tryd.prog.godebug=none:=by kernel_rfl
theorem laidOut:laidOutB Tryd.prog=true:=by kernel_rfl
theorem underBool:Tryd.prog.underlying 4=some .bool:=Tryd.underlying4
end Go.Proofs.YtiokiodmcghlhaaDoor
/- Readers of the laws' arguments: signatures and bigraphs. -/
namespace Go.Proofs.YtiokiodmcghlhaaDoor
open Go.ChangeShapes Go.WideShapes Go.ChangeAt Go.RowKit Go.Ab
set_option maxRecDepth 100000
end Go.Proofs.YtiokiodmcghlhaaDoor
/- Reader of a law's argument: bytes. (Template: YtiokiodmcghlhaaDoor, Tryd; types by name.) -/
namespace Go.Proofs.YtiokiodmcghlhaaDoor
open Go.ChangeShapes Go.WideShapes Go.ChangeAt Go.RowKit Go.Ab
set_option maxRecDepth 100000
theorem rByte1:Reader Tryd.prog 5 Vg.byteC (fun n=>0≤n∧n≤255):=by
 intro H enc w base spare held fuel cs x h
 obtain⟨n,rfl,_,hw⟩:=DataW.trod_int Tryd.underlying5 h
 refine⟨n,?_,RepC.v w _⟩
 simp[Lit.wf] at hw
 have h1:IntKind.u8.min=0:=by decide
 have h2:IntKind.u8.max=255:=by decide
 omega
theorem rBytes:ArgR Tryd.prog 22 (fun l:List Int=>Ab.AVal.list false (l.map Vg.byteC)) (fun l=>l.length≤9223372036854775807∧∀ x ∈ l,0≤x∧x≤255):=by
 refine ArgR.cell (cell_slice Tryd.underlying22) ?_
 have h:=Reader.slice Tryd.underlying22 (of_decide_eq_true (by kernel_rfl)) rByte1
 exact h.map (fun p=>p) (fun p=>rfl) (fun p hp=>⟨hp.1,hp.2⟩)
end Go.Proofs.YtiokiodmcghlhaaDoor
/- The contract of laws.FnPlaces: it answers true. -/
namespace Go.Ab
open Go.Proofs
theorem places_ok (a0:List Int) (h0:a0.length≤9223372036854775807∧∀ x ∈ a0,0≤x∧x≤255):PureC Tryd.prog 3 [.list false (a0.map Vg.byteC)] (fun r=>r=bool true):=Vg.lawPlaces_ok a0 h0
end Go.Ab
