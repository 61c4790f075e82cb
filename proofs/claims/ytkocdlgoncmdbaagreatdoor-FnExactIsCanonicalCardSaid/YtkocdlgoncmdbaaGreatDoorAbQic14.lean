/- Merged texts (14 of 17) of the proof that ends in Icy: Nmw Mdw Krw Cow Mpw Emw. -/
import Derived.Test.YtkocdlgoncmdbaaGreatDoorAbQic13
/- Walks by program for YtkocdlgoncmdbaaGreatDoorAbNm. -/
namespace Go.Ab.Vg
open Go.Proofs
set_option maxRecDepth 100000
set_option linter.unusedSimpArgs false
set_option linter.unusedVariables false
attribute [local simp] GNode.cells Wire.cells intC sliceC strC bC pA
end Go.Ab.Vg
/- Walks by program for YtkocdlgoncmdbaaGreatDoorAbMd. -/
namespace Go.Ab.Vg
open Go.Proofs
set_option maxRecDepth 100000
set_option linter.unusedSimpArgs false
set_option linter.unusedVariables false
end Go.Ab.Vg
/- Walks by program for YtkocdlgoncmdbaaGreatDoorAbKr. -/
namespace Go.Ab.Vg
open Go.Proofs
set_option maxRecDepth 100000
set_option linter.unusedSimpArgs false
set_option linter.unusedVariables false
attribute [local simp] GNode.cells Wire.cells intC sliceC strC bC pA
theorem ordC_ok (b:Big) (h:ordC_pre b):PureC Tryz.prog 105 [.agg (Big.cells false b)] (fun r=>∃ y0 y1 y2 y3 y4 y5 y6:Value,(one y0=true∧one y1=true∧one y2=true∧one y3=true∧one y4=true∧one y5=true∧one y6=true)∧r = .tup [.list true ((ordC b).1.map intC),.agg [.v y0,.v y1,.v y2,.v y3,.v y4,.v y5,.list true ((ordC b).2.edges.map intC),.list true ((ordC b).2.places.map intC),.v y6]]):=let ⟨_,hv⟩:=h;canonicalOrder_c hv hv.even hv.downs
theorem e105:Ent Tryz.prog 105:=Ent.of Tryz.func105 (by kernel_rfl) rfl
theorem e83:Ent Tryz.prog 83:=Ent.of Tryz.func83 (by kernel_rfl) rfl
theorem l5Order_walk (b:Big) (Z:(List Int)→Prop) (h:l5Order_wp b Z):PureC Tryz.prog 83 [.agg (bC false b)] (fun r=>∃ y:List Int,Z y∧r = .list true (y.map intC)):=by
 unfold l5Order_wp at h
 refine PureC.of Tryz.func83 rfl Tryz.ntmps83 (by simp) fun Q hQ=>?_
 refine Runs.cut (fun ρ H n=>ρ 0 = .agg (bC false b)) (by simp) ?_
 rintro ρ H n1 hh
 refine zE fun k' hk'=>?_
 simp[hh]
 apply hk'
 refine Runs.cut (fun ρ H n=>ρ 1=pA n1 1∧H (n1,1)=some ⟨6,[bC false b]⟩) (by refine⟨?_,?_⟩<;>simp[hh]) ?_
 clear hh
 rintro ρ H n3 ⟨hh,m1_1⟩
 refine Runs.seqD Ty_ok kindOp_ok draws (by decide) (by kernel_rfl) fun k' hk'=>?_
 obtain⟨len4,elen4,h⟩:=atm h
 have f5:=fun H=>len_list (H:=H) (fr:=false) (f:=(GNode.cells false)) kd_34 elen4
 obtain⟨hb6,h⟩:=h
 obtain⟨r7,er7,h⟩:=atm h
 simp[hh,m1_1,f5,-lenF]
 refine RunDK.callA Ty_ok kindOp_ok ((noneZ_ok len4 hb6).pure) e129 (.cons (.v _ _ _) .nil) (by decide) rfl (by simp[hh,m1_1,f5,-lenF]) ?_
 rw[← er7]
 obtain⟨hb8,h⟩:=h
 obtain⟨r9,er9,h⟩:=atm h
 simp[hh,m1_1,f5,-lenF]
 refine RunDK.callA Ty_ok kindOp_ok ((noneZ_ok b.edges hb8).pure) e129 (.cons (.v _ _ _) .nil) (by decide) rfl (by simp[hh,m1_1,f5,-lenF]) ?_
 rw[← er9]
 obtain⟨hb10,h⟩:=h
 obtain⟨r11,er11,h⟩:=atm h
 simp[hh,m1_1,f5,-lenF]
 refine RunDK.callA Ty_ok kindOp_ok ((bestZ_ok b r7 r9 0 hb10).pure) e128 (.cons (argB false b) (.cons (argI true r7) (.cons (argI true r9) (.cons (.v _ _ _) .nil)))) (by decide) rfl (by simp[hh,m1_1,f5,-lenF]) ?_
 rw[← er11]
 simp[hh,m1_1,f5,-lenF]
 apply hk'
 refine zE fun k' hk'=>?_
 simp[hh,m1_1]
 apply hk'
 refine Runs.cut (fun ρ H n=>ρ 2 = .list true (r11.2.map intC)) (by simp[hh,m1_1]) ?_
 clear hh m1_1
 rintro ρ H n12 hh
 exact Runs.ret1 (v:=.list true (r11.2.map intC)) Tryz.func83 Tryz.results83 (by simp[hh]) (hQ _ _ _ _ (.of (.fresh (by simp))) ⟨r11.2,h,rfl⟩)
theorem l5Order_ok (b:Big) (hp:l5Order_pre b):PureC Tryz.prog 83 [.agg (bC false b)] (fun r=>r = .list true ((l5Order b).map intC)):=(l5Order_walk b _ (l5Order_vc b hp)).mono (by rintro _ ⟨_,rfl,rfl⟩;rfl)
end Go.Ab.Vg
/- Walks by program for YtkocdlgoncmdbaaGreatDoorAbCo. -/
namespace Go.Ab.Vg
open Go.Proofs
set_option maxRecDepth 100000
set_option linter.unusedSimpArgs false
set_option linter.unusedVariables false
end Go.Ab.Vg
/- Walks by program for YtkocdlgoncmdbaaGreatDoorAbMp. -/
namespace Go.Ab.Vg
open Go.Proofs
set_option maxRecDepth 100000
set_option linter.unusedSimpArgs false
set_option linter.unusedVariables false
end Go.Ab.Vg
/- Walks by program for YtkocdlgoncmdbaaGreatDoorAbEm. -/
namespace Go.Ab.Vg
open Go.Proofs
set_option maxRecDepth 100000
set_option linter.unusedSimpArgs false
set_option linter.unusedVariables false
attribute [local simp] strC
theorem e111:Ent Tryz.prog 111:=Ent.of Tryz.func111 (by kernel_rfl) rfl
theorem cloneS_walk (s:List Str) (Z:(List Str)→Prop) (h:cloneS_wp s Z):OwnS Tryz.prog 111 [.list false (s.map strC)] (.s [.c]) (fun r=>∃ y:List Str,Z y∧r = .list true (y.map strC)):=by
 unfold cloneS_wp at h
 have sp:Sep noHeap 0 [] []:=Sep.nil (by simp)
 refine OwnS.of Tryz.func111 rfl Tryz.ntmps111 (by simp) fun Q hQ=>?_
 refine Runs.cut (fun ρ H n=>ρ 0 = .list false (s.map strC)∧Sep H n [] []) (by refine⟨by simp ,sp⟩) ?_
 rintro ρ H n1 ⟨hh,sp⟩
 refine zE fun k' hk'=>?_
 simp[hh]
 apply hk'
 refine Runs.seq ?_
 refine zE fun k' hk'=>?_
 simp[hh]
 refine RunK.isNil (fr:=false) (els:=s.map strC) Ty_ok (by decide) (by decide) kd_25 (by simp[hh]) (by simp[hh]) ?_
 rintro c2 hc3
 replace h:=h c2 (fun hq=>by simpa using hc3 hq)
 simp[hh]
 apply hk'
 refine Runs.ite (b:=c2) (by simp[hh]) (fun dc2=>?_) (fun dc2=>?_)
 ·replace h:=h.1 dc2
  refine zE fun k' hk'=>?_
  simp[hh,dc2]
  apply hk'
  exact Runs.ret1 (v:=.v (.slice none 0 0)) Tryz.func111 Tryz.results111 (by simp[hh,dc2]) (hQ _ _ _ _ (Sep.sub (ids':=[]) (Sep.addNil sp) (by simp)) ⟨[],h,rfl⟩)
 replace h:=h.2 dc2
 refine Runs.skip ?_
 refine zE fun k' hk'=>?_
 obtain⟨hb6,h⟩:=h
 obtain⟨l7,el7,h⟩:=atm h
 simp[hh,dc2,-appendF]
 refine bind_append0 (s.map strC) (Sep.addEmpty (l:=[.c]) sp) (by simp) kd_25 (by simp) (by simp) (by simp[srcOf]) (by simp[-one1,o1x]) (by simpa using hb6) ?_
 rintro v8 H9 n10 sp hfr11 hle12
 replace sp:Sep H9 n10 [oS v8 l7] []:=by refine Sep.ap el7 ?_;exact sp
 simp[hh,dc2]
 apply hk'
 refine Runs.cut (fun ρ H n=>∃ (v14:AVal),ρ 2=v14∧Sep H n [oS v14 l7] []) (by refine⟨v8,by simp[hh,dc2],sp⟩) ?_
 clear hh
 rintro ρ H n15 ⟨v14,hh,sp⟩
 exact Runs.ret1 (v:=v14) Tryz.func111 Tryz.results111 (by simp[hh]) (hQ _ _ _ _ (Sep.sub (ids':=[]) sp (by simp)) ⟨l7,h,rfl⟩)
theorem cloneS_ok (s:List Str) (hp:cloneS_pre s):OwnS Tryz.prog 111 [.list false (s.map strC)] (.s [.c]) (fun r=>r = .list true ((cloneS s).map strC)):=(cloneS_walk s _ (cloneS_vc s hp)).mono (by rintro _ ⟨_,rfl,rfl⟩;rfl)
end Go.Ab.Vg
