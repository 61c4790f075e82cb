/- Merged texts (12 of 18) of the proof that ends in Cuy: Mnw Lmt. -/
import Derived.Test.YtbikfokhjdjfpaaGreatDoorAbQcu11
/- Walks by program for YtbikfokhjdjfpaaGreatDoorAbMn. -/
namespace Go.Ab.Vg
open Go.Proofs
set_option maxRecDepth 100000
set_option linter.unusedSimpArgs false
set_option linter.unusedVariables false
attribute [local simp] Control.cells GNode.cells Wire.cells Match.cells intC sliceC strC bC mC pA
theorem e81:Ent Tryz.prog 81:=Ent.of Tryz.func81 (by kernel_rfl) rfl
theorem cloneI_walk (s:List Int) (Z:(List Int)→Prop) (h:cloneI_wp s Z):OwnS Tryz.prog 81 [.list false (s.map intC)] (.s [.c]) (fun r=>∃ y:List Int,Z y∧r = .list true (y.map intC)):=by
 unfold cloneI_wp at h
 have sp:Sep noHeap 0 [] []:=Sep.nil (by simp)
 refine OwnS.of Tryz.func81 rfl Tryz.ntmps81 (by simp) fun Q hQ=>?_
 refine Runs.cut (fun ρ H n=>ρ 0 = .list false (s.map intC)∧Sep H n [] []) (by refine⟨by simp ,sp⟩) ?_
 rintro ρ H n1 ⟨hh,sp⟩
 refine zE fun k' hk'=>?_
 simp[hh]
 apply hk'
 refine Runs.seq ?_
 refine zE fun k' hk'=>?_
 simp[hh]
 refine RunK.isNil (fr:=false) (els:=s.map intC) Ty_ok (by decide) (by decide) kd_24 (by simp[hh]) (by simp[hh]) ?_
 rintro c2 hc3
 replace h:=h c2 (fun hq=>by simpa using hc3 hq)
 simp[hh]
 apply hk'
 refine Runs.ite (b:=c2) (by simp[hh]) (fun dc2=>?_) (fun dc2=>?_)
 ·replace h:=h.1 dc2
  refine zE fun k' hk'=>?_
  simp[hh,dc2]
  apply hk'
  exact Runs.ret1 (v:=.v (.slice none 0 0)) Tryz.func81 Tryz.results81 (by simp[hh,dc2]) (hQ _ _ _ _ (Sep.sub (ids':=[]) (Sep.addNil sp) (by simp)) ⟨[],h,rfl⟩)
 replace h:=h.2 dc2
 refine Runs.skip ?_
 refine zE fun k' hk'=>?_
 obtain⟨hb6,h⟩:=h
 obtain⟨l7,el7,h⟩:=atm h
 simp[hh,dc2,-appendF]
 refine bind_append0 (s.map intC) (Sep.addEmpty (l:=[.c]) sp) (by simp) kd_24 (by simp) (by simp) (by simp[srcOf]) (by simp[-one1,o1x]) (by simpa using hb6) ?_
 rintro v8 H9 n10 sp hfr11 hle12
 replace sp:Sep H9 n10 [oI v8 l7] []:=by refine Sep.ap el7 ?_;exact sp
 simp[hh,dc2]
 apply hk'
 refine Runs.cut (fun ρ H n=>∃ (v14:AVal),ρ 2=v14∧Sep H n [oI v14 l7] []) (by refine⟨v8,by simp[hh,dc2],sp⟩) ?_
 clear hh
 rintro ρ H n15 ⟨v14,hh,sp⟩
 exact Runs.ret1 (v:=v14) Tryz.func81 Tryz.results81 (by simp[hh]) (hQ _ _ _ _ (Sep.sub (ids':=[]) sp (by simp)) ⟨l7,h,rfl⟩)
theorem cloneI_ok (s:List Int) (hp:cloneI_pre s):OwnS Tryz.prog 81 [.list false (s.map intC)] (.s [.c]) (fun r=>r = .list true ((cloneI s).map intC)):=(cloneI_walk s _ (cloneI_vc s hp)).mono (by rintro _ ⟨_,rfl,rfl⟩;rfl)
end Go.Ab.Vg
/- What walks by program lean on: the text of a mark, and nested slices handed over. -/
namespace Go.Ab.Vg
open Go.Proofs
theorem markTxt_ok (k:Int) (h:markTxt_pre k):PureC Tryz.prog 62 [int k] (fun r=>r=str (markTxt k)):=by
 have:=markText_ok k.toNat (by omega)
 rwa [Int.toNat_of_nonneg h.1] at this
end Go.Ab.Vg
