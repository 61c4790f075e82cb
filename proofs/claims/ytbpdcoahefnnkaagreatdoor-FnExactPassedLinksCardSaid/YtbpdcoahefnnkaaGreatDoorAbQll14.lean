/- Merged texts (14 of 15) of the proof that ends in Lly: Naw Nbw Rm Llz. -/
import Derived.Test.YtbpdcoahefnnkaaGreatDoorAbQll13
/- Walks by program for YtbpdcoahefnnkaaGreatDoorAbNa. -/
namespace Go.Ab.Vg
open Go.Proofs
set_option maxRecDepth 100000
set_option linter.unusedSimpArgs false
set_option linter.unusedVariables false
attribute [local simp] Control.cells GNode.cells Wire.cells intC intC2 sliceC strC bC mC pA
theorem e138:Ent Tryz.prog 138:=Ent.of Tryz.func138 (by kernel_rfl) rfl
theorem sortInt_ok (l:List Int) (h:l.length≤1073741824):MutS Tryz.prog 138 (fun v=>[v]) (.s [.c]) (.list true (l.map intC)) (fun e r=>e = .list true ((sortZ l).1.map intC)∧r = .tup []):=MutS.sortI (by omega) (fun blk off cap w hH hb=>Tryz.slices_Sort_int blk off cap l w hH hb (by omega)) (fun w=>(Tryz.slices_Sort_int_none none 0 w).mono (by rintro e w' ⟨h1,h2⟩;exact⟨h1,h2 ▸ Go.RowKit.Below.refl _ _⟩))
theorem e139:Ent Tryz.prog 139:=Ent.of Tryz.func139 (by kernel_rfl) rfl
theorem compactInt_ok (l:List Int) (h:l.length≤1073741824):TakeS Tryz.prog 139 (fun v=>[v]) (.s [.c]) (.list true (l.map intC)) (.s [.c]) (fun e=>e = .list true ((compactZ l).map intC)):=TakeS.compactI (compactZ_le l) (fun blk off cap w hH hc=>Tryz.slices_Compact_int blk off cap l w hH (by omega) hc) (fun _ w=>Tryz.slices_Compact_int_empty none 0 w)
theorem e140:Ent Tryz.prog 140:=Ent.of Tryz.func140 (by kernel_rfl) rfl
theorem hasStr_walk (s:List Str) (v_:Str) (Z:Bool→Prop) (h:hasStr_wp s v_ Z):PureC Tryz.prog 140 [.list false (s.map strC),str v_] (fun r=>∃ y:Bool,Z y∧r=bool y):=by
 unfold hasStr_wp at h
 refine PureC.of Tryz.func140 rfl Tryz.ntmps140 (by simp) fun Q hQ=>?_
 refine Runs.cut (fun ρ H n=>(ρ 0 = .list false (s.map strC)∧ρ 1=str v_)) (by simp) ?_
 rintro ρ H n1 hh
 refine zE fun k' hk'=>?_
 simp[hh]
 apply hk'
 refine zE fun k' hk'=>?_
 obtain⟨hb2,h⟩:=h
 obtain⟨r3,er3,h⟩:=atm h
 simp[hh]
 refine RunK.callA Ty_ok (indexS_ok s v_ hb2) e176 (.cons (argS false s) (.cons (.v _ _ _) .nil)) (by decide) (by decide) rfl (by simp[hh]) ?_
 rintro _ rfl
 rw[← er3]
 obtain⟨c4,ec4,h⟩:=atm h
 have f5:=ib_geq (k:=.i64) ec4
 simp[hh,f5,-intBin]
 apply hk'
 exact Runs.ret1 (v:=bool c4) Tryz.func140 Tryz.results140 (by simp[hh]) (hQ _ _ _ _ (.of (.v _)) ⟨c4,h,rfl⟩)
theorem hasStr_ok (s:List Str) (v_:Str) (hp:hasStr_pre s v_):PureC Tryz.prog 140 [.list false (s.map strC),str v_] (fun r=>r=bool (hasStr s v_)):=(hasStr_walk s v_ _ (hasStr_vc s v_ hp)).mono (by rintro _ ⟨_,rfl,rfl⟩;rfl)
theorem e85:Ent Tryz.prog 85:=Ent.of Tryz.func85 (by kernel_rfl) rfl
theorem passedLinks_walk (redex:Big) (agent:Big) (m:Match) (Z:((List Int) × (List Str) × Bool)→Prop) (h:passedLinks_wp redex agent m Z):OwnS Tryz.prog 85 [.agg (bC false redex),.agg (bC false agent),.agg (mC false m)] (.t [.s [.c],.s [.c],.c]) (fun r=>∃ y:(List Int) × (List Str) × Bool,Z y∧r = .tup [.list true (y.1.map intC),.list true (y.2.1.map strC),bool y.2.2]):=by
 unfold passedLinks_wp at h
 have sp:Sep noHeap 0 [] []:=Sep.nil (by simp)
 refine OwnS.of Tryz.func85 rfl Tryz.ntmps85 (by simp) fun Q hQ=>?_
 refine Runs.cut (fun ρ H n=>(ρ 0 = .agg (bC false redex)∧ρ 1 = .agg (bC false agent)∧ρ 2 = .agg (mC false m))∧Sep H n [] []) (by refine⟨?_,sp⟩<;>simp ) ?_
 rintro ρ H n1 ⟨hh,sp⟩
 refine zE fun k' hk'=>?_
 simp[hh]
 apply hk'
 refine Runs.cut (fun ρ H n=>(ρ 3=pA n1 3∧ρ 4=pA (n1+1) 4∧ρ 5=pA (n1+2) 5)∧H (n1,3)=some ⟨6,[bC false redex]⟩∧H (n1+1,4)=some ⟨6,[bC false agent]⟩∧H (n1+2,5)=some ⟨2,[mC false m]⟩∧Sep H n [] [(n1+2,5),(n1+1,4),(n1,3)]) (by refine⟨?_,?_,?_,?_,sp.var.var.var⟩<;>simp[hh]) ?_
 clear hh
 rintro ρ H n5 ⟨hh,m3_1,m4_2,m5_3,sp⟩
 refine zE fun k' hk'=>?_
 simp[hh,m3_1,m4_2,m5_3]
 apply hk'
 refine Runs.cut (fun ρ H n=>∃ (v8 v9:AVal),(ρ 3=pA n1 3∧ρ 4=pA (n1+1) 4∧ρ 5=pA (n1+2) 5∧ρ 9=v9∧ρ 10=v8)∧H (n1,3)=some ⟨6,[bC false redex]⟩∧H (n1+1,4)=some ⟨6,[bC false agent]⟩∧H (n1+2,5)=some ⟨2,[mC false m]⟩∧Sep H n [oS v8 ([]:List Str),oI v9 ([]:List Int)] [(n1+2,5),(n1+1,4),(n1,3)]) (by refine⟨.arr (n5+1,16) 0 0 0,.arr (n5,15) 0 0 0,?_,?_,?_,?_,(Sep.addEmpty (l:=[.c]) (Sep.addEmpty (l:=[.c]) sp))⟩<;>simp[hh,m3_1,m4_2,m5_3]) ?_
 clear hh m3_1 m4_2 m5_3
 rintro ρ H n10 ⟨v8,v9,hh,m3_1,m4_2,m5_3,sp⟩
 refine Runs.seq ?_
 refine zE fun k' hk'=>?_
 obtain⟨hb11,h⟩:=h
 obtain⟨r12,er12,h⟩:=atm h
 simp[hh,m3_1,m4_2,m5_3]
 refine RunK.callW Ty_ok (parameterOf_ok agent m hb11) e105 (.cons (argB false agent) (.cons (argM false m) .nil)) sp (by decide) (by decide) rfl (by simp[hh,m3_1,m4_2,m5_3]) ?_
 rintro v13 H14 n15 _ sp rfl hle17 hfr16
 rw[← er12] at sp
 have m3_1:H14 (n1,3)=some ⟨6,[bC false redex]⟩:=(hfr16 _ (by simp)).trans (by simp[hh,m3_1,m4_2,m5_3,Heap.get_set])
 have m4_2:H14 (n1+1,4)=some ⟨6,[bC false agent]⟩:=(hfr16 _ (by simp)).trans (by simp[hh,m3_1,m4_2,m5_3,Heap.get_set])
 have m5_3:H14 (n1+2,5)=some ⟨2,[mC false m]⟩:=(hfr16 _ (by simp)).trans (by simp[hh,m3_1,m4_2,m5_3,Heap.get_set])
 obtain⟨len20,elen20,h⟩:=atm h
 have f21:=len_own (Sep.len (m:=len20) sp kd_24 (by rw[elen20,List.length_map]))
 simp[hh,m3_1,m4_2,m5_3,f21,-lenF]
 apply hk'
 refine Runs.cut (fun ρ H n=>∃ (v22 v23 v24:AVal),(ρ 3=pA n1 3∧ρ 4=pA (n1+1) 4∧ρ 9=v24∧ρ 10=v23∧ρ 19=v22∧ρ 20=int len20∧ρ 21=int 0)∧H (n1,3)=some ⟨6,[bC false redex]⟩∧H (n1+1,4)=some ⟨6,[bC false agent]⟩∧Sep H n [oI v22 r12,oS v23 ([]:List Str),oI v24 ([]:List Int)] [(n1+1,4),(n1,3)]) (by refine⟨v13,v8,v9,?_,?_,?_,(Sep.sub sp (by simp +contextual))⟩<;>simp[hh,m3_1,m4_2,m5_3,f21,-lenF]) ?_
 clear hh m3_1 m4_2 m5_3
 rintro ρ H n25 ⟨v22,v23,v24,hh,m3_1,m4_2,sp⟩
 refine Runs.block ?_
 refine Runs.loopW h (fun (sJ:Int × (List Int)) ρ H n=>match sJ with | (v37,l38)=>∃ (v39 v40 v41:AVal),(ρ 3=pA n1 3∧ρ 4=pA (n1+1) 4∧ρ 9=v41∧ρ 10=v40∧ρ 19=v39∧ρ 20=int len20∧ρ 21=int v37)∧H (n1,3)=some ⟨6,[bC false redex]⟩∧H (n1+1,4)=some ⟨6,[bC false agent]⟩∧Sep H n [oI v39 r12,oS v40 ([]:List Str),oI v41 l38] [(n1+1,4),(n1,3)]) (by refine⟨v22,v23,v24,?_,?_,?_,sp⟩<;>simp[hh,m3_1,m4_2]) ?_
 clear hh m3_1 m4_2
 rintro⟨v37,l38⟩ ρ H n42 K h ⟨v39,v40,v41,hh,m3_1,m4_2,sp⟩ IH43
 refine zE fun k' hk'=>?_
 obtain⟨c45,ec45,h⟩:=atm h
 have f46:=ib_lss (k:=.i64) ec45
 simp[hh,m3_1,m4_2,f46,-intBin]
 apply hk'
 refine Runs.seq ?_
 refine Runs.ite (b:=c45) (by simp[hh,m3_1,m4_2]) (fun dc45=>?_) (fun dc45=>?_)
 ·replace h:=h.1 dc45
  refine Runs.skip ?_
  refine Runs.seq ?_
  refine Runs.block ?_
  refine zE fun k' hk'=>?_
  obtain⟨hb47,h⟩:=h
  obtain⟨id48,hv,mo49,ln50,ni51⟩:=Sep.openF sp (by simp) hb47
  subst hv
  simp at ni51
  obtain⟨x52,ex52,h⟩:=atm h
  have f53:=fun H (hm:H id48=some ⟨1,r12.map intC⟩)=>ix_arr (H:=H) (k:=.i64) (off:=0) (len:=r12.length) (g:=r12.length) kd_24 hm (by simp) rfl hb47
  have f54:=at_some (q:=v37.toNat) hb47 ex52 rfl
  simp[hh,m3_1,m4_2,mo49,ni51,f53,f54,dc45,-indexAddrF]
  apply hk'
  refine zF fun k' hk'=>?_
  obtain⟨hb55,h⟩:=h
  obtain⟨x56,ex56,h⟩:=atm h
  have f57:=fun H=>ix_list (H:=H) (fr:=false) (f:=(GNode.cells false)) (k:=.i64) kd_44 (fun _=>rfl) hb55 ex56
  obtain⟨hb58,h⟩:=h
  obtain⟨l59,el59,h⟩:=atm h
  simp[hh,m3_1,m4_2,mo49,ni51,f57,dc45,-indexAddrF,-appendF]
  refine bind_append0 (x56.links.map intC) sp.f2 (by simp) kd_24 (by simp) (by simp) (by simp[srcOf]) (by simp[-one1,o1x]) (by simpa using hb58) ?_
  rintro v60 H61 n62 sp hfr63 hle64
  replace sp:Sep H61 n62 [oI v60 l59,oI (.arr id48 r12.length 0 r12.length) r12,oS v40 ([]:List Str)] [(n1+1,4),(n1,3)]:=by refine Sep.ap el59 ?_;exact sp
  have m3_1:H61 (n1,3)=some ⟨6,[bC false redex]⟩:=(hfr63 _ (by simp)).trans (by simp[hh,m3_1,m4_2,mo49,ni51,Heap.get_set])
  have m4_2:H61 (n1+1,4)=some ⟨6,[bC false agent]⟩:=(hfr63 _ (by simp)).trans (by simp[hh,m3_1,m4_2,mo49,ni51,Heap.get_set])
  simp[hh,m3_1,m4_2,ni51,f57,dc45,-indexAddrF]
  apply hk'
  refine Runs.cut (fun ρ H n=>∃ (v66 v67 v68:AVal),(ρ 3=pA n1 3∧ρ 4=pA (n1+1) 4∧ρ 9=v66∧ρ 10=v68∧ρ 19=v67∧ρ 20=int len20∧ρ 21=int v37)∧H (n1,3)=some ⟨6,[bC false redex]⟩∧H (n1+1,4)=some ⟨6,[bC false agent]⟩∧Sep H n [oI v66 l59,oI v67 r12,oS v68 ([]:List Str)] [(n1+1,4),(n1,3)]) (by refine⟨v60,.arr id48 r12.length 0 r12.length,v40,?_,?_,?_,sp⟩<;>simp[hh,m3_1,m4_2,ni51,f57,dc45,-indexAddrF]) ?_
  clear hh m3_1 m4_2 ni51
  rintro ρ H n69 ⟨v66,v67,v68,hh,m3_1,m4_2,sp⟩
  refine Runs.inBlock ?_
  refine zF fun k' hk'=>?_
  obtain⟨hb70,h⟩:=h
  obtain⟨v71,ev71,h⟩:=atm h
  have f72:=ib_add hb70 ev71
  simp[hh,m3_1,m4_2,f72,-intBin]
  apply hk'
  refine IH43 (v71,l59) _ _ _ h (by refine⟨v67,v68,v66,?_,?_,?_,sp.f2.f2⟩<;>simp[hh,m3_1,m4_2])
 replace h:=h.2 dc45
 refine Runs.exit rfl ?_
 refine zE fun k' hk'=>?_
 obtain⟨hb73,h⟩:=h
 obtain⟨r74,er74,h⟩:=atm h
 have f75:=Sep.oc sp.f2
 simp[hh,m3_1,m4_2,f75,dc45,-cellsA,-one1,cAx,o1x]
 refine RunK.callM (v:=v41) Ty_ok (sortInt_ok l38 hb73) e138 sp.f2 (by decide) (by decide) rfl (by simp[hh,m3_1,m4_2,f75,dc45,-cellsA,-one1,cAx,o1x]) ?_
 rintro _ H76 n77 _ ⟨rfl,rfl⟩ sp hle79 hfr78
 rw[← er74] at sp
 replace sp:Sep H76 n77 [oI v41 r74.1,oI v39 r12,oS v40 ([]:List Str)] [(n1+1,4),(n1,3)]:=sp
 have m3_1:H76 (n1,3)=some ⟨6,[bC false redex]⟩:=(hfr78 _ (by simp)).trans (by simp[hh,m3_1,m4_2,Heap.get_set])
 have m4_2:H76 (n1+1,4)=some ⟨6,[bC false agent]⟩:=(hfr78 _ (by simp)).trans (by simp[hh,m3_1,m4_2,Heap.get_set])
 simp[hh,m3_1,m4_2,f75,dc45,-cellsA,-one1,cAx,o1x]
 apply hk'
 refine Runs.cut (fun ρ H n=>∃ (v81 v82:AVal),(ρ 3=pA n1 3∧ρ 9=v81∧ρ 10=v82)∧H (n1,3)=some ⟨6,[bC false redex]⟩∧Sep H n [oI v81 r74.1,oS v82 ([]:List Str)] [(n1,3)]) (by refine⟨v41,v40,?_,?_,(Sep.sub sp.f1.dr (by simp +contextual))⟩<;>simp[hh,m3_1,m4_2,f75,dc45,-cellsA,-one1,cAx,o1x]) ?_
 clear hh m3_1 m4_2
 rintro ρ H n83 ⟨v81,v82,hh,m3_1,sp⟩
 refine zE fun k' hk'=>?_
 obtain⟨hb84,h⟩:=h
 obtain⟨r85,er85,h⟩:=atm h
 simp[hh,m3_1]
 refine RunK.callT' (v:=v81) Ty_ok (compactInt_ok r74.1 hb84) e139 sp (by decide) (by decide) rfl (by simp[hh,m3_1]) ?_
 rintro v86 H87 n88 _ rfl sp hle90 hfr89
 rw[← er85] at sp
 replace sp:Sep H87 n88 [oI v86 r85,oS v82 ([]:List Str)] [(n1,3)]:=sp
 have m3_1:H87 (n1,3)=some ⟨6,[bC false redex]⟩:=(hfr89 _ (by simp)).trans (by simp[hh,m3_1,Heap.get_set])
 simp[hh,m3_1]
 apply hk'
 refine Runs.cut (fun ρ H n=>∃ (v93 v94:AVal),(ρ 3=pA n1 3∧ρ 9=v93∧ρ 10=v94)∧H (n1,3)=some ⟨6,[bC false redex]⟩∧Sep H n [oI v93 r85,oS v94 ([]:List Str)] [(n1,3)]) (by refine⟨v86,v82,?_,?_,sp⟩<;>simp[hh,m3_1]) ?_
 clear hh m3_1
 rintro ρ H n95 ⟨v93,v94,hh,m3_1,sp⟩
 refine Runs.seq ?_
 refine zE fun k' hk'=>?_
 simp[hh,m3_1]
 apply hk'
 refine Runs.block ?_
 refine Runs.loopW h (fun (sJ:Int × (List Str)) ρ H n=>match sJ with | (c105,l106)=>∃ (v107 v108:AVal),(ρ 3=pA n1 3∧ρ 9=v107∧ρ 10=v108∧ρ 13 = .v (.int .i32 c105))∧H (n1,3)=some ⟨6,[bC false redex]⟩∧Sep H n [oI v107 r85,oS v108 l106] [(n1,3)]) (by refine⟨v93,v94,?_,?_,sp⟩<;>simp[hh,m3_1]) ?_
 clear hh m3_1
 rintro⟨c105,l106⟩ ρ H n109 K h ⟨v107,v108,hh,m3_1,sp⟩ IH110
 refine Runs.seq ?_
 refine zE fun k' hk'=>?_
 obtain⟨len112,elen112,h⟩:=atm h
 have f113:=len_own (Sep.len (m:=len112) sp.f1 kd_25 (by rw[elen112,List.length_map]))
 obtain⟨len114,elen114,h⟩:=atm h
 have f115:=len_own (Sep.len (m:=len114) sp kd_24 (by rw[elen114,List.length_map]))
 obtain⟨c116,ec116,h⟩:=atm h
 have f117:=ib_lss (k:=.i64) ec116
 simp[hh,m3_1,f113,f115,f117,-intBin,-lenF]
 apply hk'
 refine Runs.ite (b:=c116) (by simp[hh,m3_1]) (fun dc116=>?_) (fun dc116=>?_)
 ·replace h:=h.1 dc116
  refine Runs.skip ?_
  refine Runs.seq ?_
  refine Runs.block ?_
  refine zE fun k' hk'=>?_
  simp[hh,m3_1,dc116]
  refine RunK.runeS (k1:=.i32) (a:=c105) Ty_ok (by decide) (by decide) Ty_21 kd_9 (by simp[hh,m3_1,dc116]) ?_
  obtain⟨v118,ev118,h⟩:=atm h
  rw[← ev118]
  obtain⟨hb119,h⟩:=h
  obtain⟨v120,ev120,h⟩:=atm h
  have f121:=sb_add hb119 ev120
  simp[hh,m3_1,f121,dc116,-strBin]
  apply hk'
  refine zE fun k' hk'=>?_
  obtain⟨hb122,h⟩:=h
  obtain⟨r123,er123,h⟩:=atm h
  simp[hh,m3_1,dc116]
  refine RunK.callA Ty_ok (hasStr_ok redex.outer v120 hb122) e140 (.cons (argS false redex.outer) (.cons (.v _ _ _) .nil)) (by decide) (by decide) rfl (by simp[hh,m3_1,dc116]) ?_
  rintro _ rfl
  rw[← er123]
  simp[hh,m3_1,dc116]
  apply hk'
  refine Runs.ite (b:=(!r123)) (by simp[hh,m3_1,dc116]) (fun dr123=>?_) (fun dr123=>?_)
  ·have dr123:r123=false:=by simpa using dr123
   replace h:=h.2 dr123
   refine zF fun k' hk'=>?_
   obtain⟨hb124,h⟩:=h
   obtain⟨l125,el125,h⟩:=atm h
   simp[hh,m3_1,dc116,dr123,-appendF]
   refine bind_append [] [oI v107 r85] [[str v120]] [strC v120] sp.f1 kd_25 (by simp) (by simp) (by simp) (by simp[-one1,o1x]) (rows_one (Fill.v _ Fill.nil)) (by simp) (by simpa using hb124) ?_
   rintro v126 H127 n128 sp hfr129 hle130
   replace sp:Sep H127 n128 [oS v126 l125,oI v107 r85] [(n1,3)]:=Sep.ap el125 sp
   have m3_1:H127 (n1,3)=some ⟨6,[bC false redex]⟩:=(hfr129 _ (by simp)).trans (by simp[hh,m3_1,Heap.get_set])
   simp[hh,m3_1,dc116,dr123]
   apply hk'
   refine Runs.cut (fun ρ H n=>∃ (v132 v133:AVal),(ρ 3=pA n1 3∧ρ 9=v133∧ρ 10=v132∧ρ 13 = .v (.int .i32 c105))∧H (n1,3)=some ⟨6,[bC false redex]⟩∧Sep H n [oS v132 l125,oI v133 r85] [(n1,3)]) (by refine⟨v126,v107,?_,?_,sp⟩<;>simp[hh,m3_1,dc116,dr123]) ?_
   clear hh m3_1
   rintro ρ H n134 ⟨v132,v133,hh,m3_1,sp⟩
   refine Runs.inBlock ?_
   refine zF fun k' hk'=>?_
   obtain⟨hb135,h⟩:=h
   obtain⟨v136,ev136,h⟩:=atm h
   have f137:=ib_add32 hb135 ev136
   simp[hh,m3_1,f137,-intBin]
   apply hk'
   refine IH110 (v136,l125) _ _ _ h (by refine⟨v133,v132,?_,?_,sp.f1⟩<;>simp[hh,m3_1])
  have dr123:r123=true:=by simpa using dr123
  replace h:=h.1 dr123
  refine Runs.skip ?_
  refine Runs.inBlock ?_
  refine zF fun k' hk'=>?_
  obtain⟨hb138,h⟩:=h
  obtain⟨v139,ev139,h⟩:=atm h
  have f140:=ib_add32 hb138 ev139
  simp[hh,m3_1,f140,dc116,dr123,-intBin]
  apply hk'
  refine Runs.cut (fun ρ H n=>∃ (v141 v142:AVal),(ρ 3=pA n1 3∧ρ 9=v141∧ρ 10=v142∧ρ 13 = .v (.int .i32 v139))∧H (n1,3)=some ⟨6,[bC false redex]⟩∧Sep H n [oI v141 r85,oS v142 l106] [(n1,3)]) (by refine⟨v107,v108,?_,?_,sp⟩<;>simp[hh,m3_1,f140,dc116,dr123,-intBin]) ?_
  clear hh m3_1
  rintro ρ H n143 ⟨v141,v142,hh,m3_1,sp⟩
  refine IH110 (v139,l106) _ _ _ h (by refine⟨v141,v142,?_,?_,sp⟩<;>simp[hh,m3_1])
 replace h:=h.2 dc116
 refine Runs.exit rfl ?_
 refine Runs.seqD Ty_ok kindOp_ok draws (by decide) (by kernel_rfl) fun k' hk'=>?_
 obtain⟨len144,elen144,h⟩:=atm h
 have f145:=len_own (Sep.len (m:=len144) sp kd_24 (by rw[elen144,List.length_map]))
 obtain⟨len146,elen146,h⟩:=atm h
 have f147:=fun H=>len_list (H:=H) (fr:=false) (f:=strC) kd_25 elen146
 obtain⟨hb148,h⟩:=h
 obtain⟨v149,ev149,h⟩:=atm h
 have f150:=ib_add hb148 ev149
 obtain⟨c151,ec151,h⟩:=atm h
 have f152:=ib_leq (k:=.i64) ec151
 simp[hh,m3_1,f145,f147,f150,f152,dc116,-intBin,-lenF]
 apply hk'
 refine Runs.cut (fun ρ H n=>∃ (v153 v154:AVal),(ρ 6=v153∧ρ 7=v154∧ρ 8=bool c151)∧Sep H n [oI v153 r85,oS v154 l106] []) (by refine⟨v107,v108,?_,(Sep.sub sp (by simp +contextual))⟩<;>simp[hh,m3_1,f145,f147,f150,f152,dc116,-intBin,-lenF]) ?_
 clear hh m3_1
 rintro ρ H n155 ⟨v153,v154,hh,sp⟩
 exact Runs.ret3 (v:=v153) (w:=v154) (z:=bool c151) Tryz.func85 Tryz.results85 (by simp[hh]) (by simp[hh]) (by simp[hh]) (hQ _ _ _ _ (Sep.sub (ids':=[]) (Sep.packT (Fill.own (Fill.own (Fill.v _ Fill.nil))) sp) (by simp)) ⟨(r85,l106,c151),h,rfl⟩)
theorem passedLinks_ok (redex:Big) (agent:Big) (m:Match) (hp:passedLinks_pre redex agent m):OwnS Tryz.prog 85 [.agg (bC false redex),.agg (bC false agent),.agg (mC false m)] (.t [.s [.c],.s [.c],.c]) (fun r=>r = .tup [.list true (((passedLinks redex agent m).1).map intC),.list true (((passedLinks redex agent m).2.1).map strC),bool ((passedLinks redex agent m).2.2)]):=(passedLinks_walk redex agent m _ (passedLinks_vc redex agent m hp)).mono (by rintro _ ⟨_,rfl,rfl⟩;rfl)
theorem e35:Ent Tryz.prog 35:=Ent.of Tryz.func35 (by kernel_rfl) rfl
theorem PassedLinks_walk (sig:List Control) (redex:Big) (agent:Big) (m:Match) (Z:((List Int) × (List Str) × Bool)→Prop) (h:PassedLinks_wp sig redex agent m Z):OwnS Tryz.prog 35 [.list false (sig.map Control.cells),.agg (bC false redex),.agg (bC false agent),.agg (mC false m)] (.t [.s [.c],.s [.c],.c]) (fun r=>∃ y:(List Int) × (List Str) × Bool,Z y∧r = .tup [.list true (y.1.map intC),.list true (y.2.1.map strC),bool y.2.2]):=by
 unfold PassedLinks_wp at h
 have sp:Sep noHeap 0 [] []:=Sep.nil (by simp)
 refine OwnS.of Tryz.func35 rfl Tryz.ntmps35 (by simp) fun Q hQ=>?_
 refine Runs.cut (fun ρ H n=>(ρ 0 = .list false (sig.map Control.cells)∧ρ 1 = .agg (bC false redex)∧ρ 2 = .agg (bC false agent)∧ρ 3 = .agg (mC false m))∧Sep H n [] []) (by refine⟨?_,sp⟩<;>simp ) ?_
 rintro ρ H n1 ⟨hh,sp⟩
 refine zE fun k' hk'=>?_
 simp[hh]
 apply hk'
 refine Runs.cut (fun ρ H n=>(ρ 0 = .list false (sig.map Control.cells)∧ρ 5=pA n1 5∧ρ 6=pA (n1+1) 6∧ρ 7=pA (n1+2) 7)∧H (n1,5)=some ⟨6,[bC false redex]⟩∧H (n1+1,6)=some ⟨6,[bC false agent]⟩∧H (n1+2,7)=some ⟨2,[mC false m]⟩∧Sep H n [] [(n1+2,7),(n1+1,6),(n1,5)]) (by refine⟨?_,?_,?_,?_,sp.var.var.var⟩<;>simp[hh]) ?_
 clear hh
 rintro ρ H n5 ⟨hh,m5_1,m6_2,m7_3,sp⟩
 refine Runs.seq ?_
 refine zE fun k' hk'=>?_
 obtain⟨hb6,h⟩:=h
 obtain⟨r7,er7,h⟩:=atm h
 simp[hh,m5_1,m6_2,m7_3]
 refine RunK.callA Ty_ok (isMatched_ok sig redex agent m hb6) e56 (.cons (argC false sig) (.cons (argB false redex) (.cons (argB false agent) (.cons (argM false m) .nil)))) (by decide) (by decide) rfl (by simp[hh,m5_1,m6_2,m7_3]) ?_
 rintro _ rfl
 rw[← er7]
 simp[hh,m5_1,m6_2,m7_3]
 apply hk'
 refine Runs.ite (b:=(!r7)) (by simp[hh,m5_1,m6_2,m7_3]) (fun dr7=>?_) (fun dr7=>?_)
 ·have dr7:r7=false:=by simpa using dr7
  replace h:=h.2 dr7
  refine zE fun k' hk'=>?_
  simp[hh,m5_1,m6_2,m7_3,dr7]
  apply hk'
  exact Runs.ret3 (v:=.v (.slice none 0 0)) (w:=.v (.slice none 0 0)) (z:=bool false) Tryz.func35 Tryz.results35 (by simp[hh,m5_1,m6_2,m7_3,dr7]) (by simp[hh,m5_1,m6_2,m7_3,dr7]) (by simp[hh,m5_1,m6_2,m7_3,dr7]) (hQ _ _ _ _ (Sep.sub (ids':=[]) (Sep.packT (Fill.own (Fill.own (Fill.v _ Fill.nil))) (Sep.f1 (Sep.addNil (Sep.addNil sp)))) (by simp)) ⟨([],[],false),h,rfl⟩)
 have dr7:r7=true:=by simpa using dr7
 replace h:=h.1 dr7
 refine Runs.skip ?_
 refine zE fun k' hk'=>?_
 obtain⟨hb11,h⟩:=h
 obtain⟨r12,er12,h⟩:=atm h
 simp[hh,m5_1,m6_2,m7_3,dr7]
 refine RunK.callW Ty_ok (passedLinks_ok redex agent m hb11) e85 (.cons (argB false redex) (.cons (argB false agent) (.cons (argM false m) .nil))) sp (by decide) (by decide) rfl (by simp[hh,m5_1,m6_2,m7_3,dr7]) ?_
 rintro v13 H14 n15 _ sp rfl hle17 hfr16
 rw[← er12] at sp
 have m5_1:H14 (n1,5)=some ⟨6,[bC false redex]⟩:=(hfr16 _ (by simp)).trans (by simp[hh,m5_1,m6_2,m7_3,Heap.get_set])
 have m6_2:H14 (n1+1,6)=some ⟨6,[bC false agent]⟩:=(hfr16 _ (by simp)).trans (by simp[hh,m5_1,m6_2,m7_3,Heap.get_set])
 have m7_3:H14 (n1+2,7)=some ⟨2,[mC false m]⟩:=(hfr16 _ (by simp)).trans (by simp[hh,m5_1,m6_2,m7_3,Heap.get_set])
 replace sp:=Sep.unpackT sp
 obtain⟨L22,hv,hl23,sp⟩:=sp
 subst hv
 obtain⟨v19,v20,v21,hv⟩:=len3 (by simpa using hl23)
 subst hv
 simp only[zip3,List.cons_append,List.nil_append] at sp
 replace sp:=Sep.rot sp
 try simp only[List.cons_append,List.nil_append,List.append_assoc] at sp
 replace sp:=Sep.rot sp
 try simp only[List.cons_append,List.nil_append,List.append_assoc] at sp
 replace sp:=Sep.scalar sp
 obtain⟨hv,sp⟩:=sp
 subst hv
 replace sp:Sep H14 n15 [oI v19 r12.1,oS v20 r12.2.1] [(n1+2,7),(n1+1,6),(n1,5)]:=sp
 simp[hh,m5_1,m6_2,m7_3,dr7]
 apply hk'
 refine Runs.cut (fun ρ H n=>∃ (v26 v27:AVal),(ρ 11=v26∧ρ 12=v27∧ρ 13=bool r12.2.2)∧Sep H n [oI v26 r12.1,oS v27 r12.2.1] []) (by refine⟨v19,v20,?_,(Sep.sub sp (by simp +contextual))⟩<;>simp[hh,m5_1,m6_2,m7_3,dr7]) ?_
 clear hh m5_1 m6_2 m7_3
 rintro ρ H n28 ⟨v26,v27,hh,sp⟩
 refine Runs.seq ?_
 refine zE fun k' hk'=>?_
 simp[hh]
 apply hk'
 refine Runs.ite (b:=(!r12.2.2)) (by simp[hh]) (fun dr12_2_2=>?_) (fun dr12_2_2=>?_)
 ·have dr12_2_2:r12.2.2=false:=by simpa using dr12_2_2
  replace h:=h.2 dr12_2_2
  refine zE fun k' hk'=>?_
  simp[hh,dr12_2_2]
  apply hk'
  exact Runs.ret3 (v:=.v (.slice none 0 0)) (w:=.v (.slice none 0 0)) (z:=bool false) Tryz.func35 Tryz.results35 (by simp[hh,dr12_2_2]) (by simp[hh,dr12_2_2]) (by simp[hh,dr12_2_2]) (hQ _ _ _ _ (Sep.sub (ids':=[]) (Sep.hd (Sep.packT (Fill.own (Fill.own (Fill.v _ Fill.nil))) (Sep.f1 (Sep.addNil (Sep.addNil sp))))) (by simp)) ⟨([],[],false),h,rfl⟩)
 have dr12_2_2:r12.2.2=true:=by simpa using dr12_2_2
 replace h:=h.1 dr12_2_2
 refine Runs.skip ?_
 refine zE fun k' hk'=>?_
 simp[hh,dr12_2_2]
 apply hk'
 exact Runs.ret3 (v:=v26) (w:=v27) (z:=bool true) Tryz.func35 Tryz.results35 (by simp[hh,dr12_2_2]) (by simp[hh,dr12_2_2]) (by simp[hh,dr12_2_2]) (hQ _ _ _ _ (Sep.sub (ids':=[]) (Sep.packT (Fill.own (Fill.own (Fill.v _ Fill.nil))) sp) (by simp)) ⟨(r12.1,r12.2.1,true),h,rfl⟩)
theorem PassedLinks_ok (sig:List Control) (redex:Big) (agent:Big) (m:Match) (hp:PassedLinks_pre sig redex agent m):OwnS Tryz.prog 35 [.list false (sig.map Control.cells),.agg (bC false redex),.agg (bC false agent),.agg (mC false m)] (.t [.s [.c],.s [.c],.c]) (fun r=>r = .tup [.list true (((PassedLinks sig redex agent m).1).map intC),.list true (((PassedLinks sig redex agent m).2.1).map strC),bool ((PassedLinks sig redex agent m).2.2)]):=(PassedLinks_walk sig redex agent m _ (PassedLinks_vc sig redex agent m hp)).mono (by rintro _ ⟨_,rfl,rfl⟩;rfl)
theorem e134:Ent Tryz.prog 134:=Ent.of Tryz.func134 (by kernel_rfl) rfl
theorem l8Parameter_walk (agent:Big) (m:Match) (Z:(List Bool)→Prop) (h:l8Parameter_wp agent m Z):OwnS Tryz.prog 134 [.agg (bC false agent),.agg (mC false m)] (.s [.c]) (fun r=>∃ y:List Bool,Z y∧r = .list true (y.map boolC)):=by
 unfold l8Parameter_wp at h
 have sp:Sep noHeap 0 [] []:=Sep.nil (by simp)
 refine OwnS.of Tryz.func134 rfl Tryz.ntmps134 (by simp) fun Q hQ=>?_
 refine Runs.cut (fun ρ H n=>(ρ 0 = .agg (bC false agent)∧ρ 1 = .agg (mC false m))∧Sep H n [] []) (by refine⟨?_,sp⟩<;>simp ) ?_
 rintro ρ H n1 ⟨hh,sp⟩
 refine zE fun k' hk'=>?_
 simp[hh]
 apply hk'
 refine Runs.cut (fun ρ H n=>(ρ 2=pA n1 2∧ρ 3=pA (n1+1) 3)∧H (n1,2)=some ⟨6,[bC false agent]⟩∧H (n1+1,3)=some ⟨2,[mC false m]⟩∧Sep H n [] [(n1+1,3),(n1,2)]) (by refine⟨?_,?_,?_,sp.var.var⟩<;>simp[hh]) ?_
 clear hh
 rintro ρ H n4 ⟨hh,m2_1,m3_2,sp⟩
 refine zE fun k' hk'=>?_
 simp[hh,m2_1,m3_2,boolC]
 apply hk'
 refine Runs.cut (fun ρ H n=>∃ (v6:AVal),(ρ 2=pA n1 2∧ρ 3=pA (n1+1) 3∧ρ 5=v6)∧H (n1,2)=some ⟨6,[bC false agent]⟩∧H (n1+1,3)=some ⟨2,[mC false m]⟩∧Sep H n [oE [.c] boolC v6 ([]:List Bool)] [(n1+1,3),(n1,2)]) (by refine⟨.arr (n4,7) 0 0 0,?_,?_,?_,(Sep.addEmpty (l:=[.c]) sp)⟩<;>simp[hh,m2_1,m3_2,boolC]) ?_
 clear hh m2_1 m3_2
 rintro ρ H n7 ⟨v6,hh,m2_1,m3_2,sp⟩
 refine Runs.seq ?_
 refine zE fun k' hk'=>?_
 simp[hh,m2_1,m3_2,boolC]
 apply hk'
 refine Runs.block ?_
 refine Runs.loopW h (fun (sJ:Int × (List Bool)) ρ H n=>match sJ with | (i15,l16)=>∃ (v17:AVal),(ρ 2=pA n1 2∧ρ 3=pA (n1+1) 3∧ρ 5=v17∧ρ 6=int i15)∧H (n1,2)=some ⟨6,[bC false agent]⟩∧H (n1+1,3)=some ⟨2,[mC false m]⟩∧Sep H n [oE [.c] boolC v17 l16] [(n1+1,3),(n1,2)]) (by refine⟨v6,?_,?_,?_,sp⟩<;>simp[hh,m2_1,m3_2,boolC]) ?_
 clear hh m2_1 m3_2
 rintro⟨i15,l16⟩ ρ H n18 K h ⟨v17,hh,m2_1,m3_2,sp⟩ IH19
 refine Runs.seq ?_
 refine zE fun k' hk'=>?_
 obtain⟨len21,elen21,h⟩:=atm h
 have f22:=fun H=>len_list (H:=H) (fr:=false) (f:=(GNode.cells false)) kd_44 elen21
 obtain⟨c23,ec23,h⟩:=atm h
 have f24:=ib_lss (k:=.i64) ec23
 simp[hh,m2_1,m3_2,f22,f24,boolC,-intBin,-lenF]
 apply hk'
 refine Runs.ite (b:=c23) (by simp[hh,m2_1,m3_2,boolC]) (fun dc23=>?_) (fun dc23=>?_)
 ·replace h:=h.1 dc23
  refine Runs.skip ?_
  refine Runs.seq ?_
  refine Runs.block ?_
  refine zF fun k' hk'=>?_
  obtain⟨hb25,h⟩:=h
  obtain⟨r26,er26,h⟩:=atm h
  simp[hh,m2_1,m3_2,dc23,boolC]
  refine RunK.callA Ty_ok (l1HasI_ok m.nodes i15 hb25) e163 (.cons (argI false m.nodes) (.cons (.v _ _ _) .nil)) (by decide) (by decide) rfl (by simp[hh,m2_1,m3_2,dc23,boolC]) ?_
  rintro _ rfl
  rw[← er26]
  rcases Bool.eq_false_or_eq_true r26 with dr26 | dr26
  ·replace h:=h.1 dr26
   obtain⟨hb27,h⟩:=h
   obtain⟨l28,el28,h⟩:=atm h
   simp[hh,m2_1,m3_2,dc23,dr26,boolC,-appendF]
   refine bind_append [] [] [[bool false]] [boolC false] sp kd_164 (by simp) (by simp) (by simp[boolC]) (by simp[-one1,o1x]) (rows_one (Fill.v _ Fill.nil)) (by simp) (by simpa using hb27) ?_
   rintro v29 H30 n31 sp hfr32 hle33
   replace sp:Sep H30 n31 [oE [.c] boolC v29 l28] [(n1+1,3),(n1,2)]:=Sep.ap el28 sp
   have m2_1:H30 (n1,2)=some ⟨6,[bC false agent]⟩:=(hfr32 _ (by simp)).trans (by simp[hh,m2_1,m3_2,Heap.get_set])
   have m3_2:H30 (n1+1,3)=some ⟨2,[mC false m]⟩:=(hfr32 _ (by simp)).trans (by simp[hh,m2_1,m3_2,Heap.get_set])
   simp[hh,m2_1,m3_2,dc23,dr26,boolC]
   apply hk'
   refine Runs.cut (fun ρ H n=>∃ (v35:AVal),(ρ 2=pA n1 2∧ρ 3=pA (n1+1) 3∧ρ 5=v35∧ρ 6=int i15)∧H (n1,2)=some ⟨6,[bC false agent]⟩∧H (n1+1,3)=some ⟨2,[mC false m]⟩∧Sep H n [oE [.c] boolC v35 l28] [(n1+1,3),(n1,2)]) (by refine⟨v29,?_,?_,?_,sp⟩<;>simp[hh,m2_1,m3_2,dc23,dr26,boolC]) ?_
   clear hh m2_1 m3_2
   rintro ρ H n36 ⟨v35,hh,m2_1,m3_2,sp⟩
   refine Runs.inBlock ?_
   refine zF fun k' hk'=>?_
   obtain⟨hb37,h⟩:=h
   obtain⟨v38,ev38,h⟩:=atm h
   have f39:=ib_add hb37 ev38
   simp[hh,m2_1,m3_2,f39,boolC,-intBin]
   apply hk'
   refine IH19 (v38,l28) _ _ _ h (by refine⟨v35,?_,?_,?_,sp⟩<;>simp[hh,m2_1,m3_2,boolC])
  replace h:=h.2 dr26
  obtain⟨hb40,h⟩:=h
  obtain⟨r41,er41,h⟩:=atm h
  simp[hh,m2_1,m3_2,dc23,dr26,boolC]
  refine RunK.callA Ty_ok (l8Inside_ok agent m i15 hb40) e172 (.cons (argB false agent) (.cons (argM false m) (.cons (.v _ _ _) .nil))) (by decide) (by decide) rfl (by simp[hh,m2_1,m3_2,dc23,dr26,boolC]) ?_
  rintro _ rfl
  rw[← er41]
  obtain⟨hb42,h⟩:=h
  obtain⟨l43,el43,h⟩:=atm h
  simp[hh,m2_1,m3_2,dc23,dr26,boolC,-appendF]
  refine bind_append [] [] [[bool r41]] [boolC r41] sp kd_164 (by simp) (by simp) (by simp[boolC]) (by simp[-one1,o1x]) (rows_one (Fill.v _ Fill.nil)) (by simp) (by simpa using hb42) ?_
  rintro v44 H45 n46 sp hfr47 hle48
  replace sp:Sep H45 n46 [oE [.c] boolC v44 l43] [(n1+1,3),(n1,2)]:=Sep.ap el43 sp
  have m2_1:H45 (n1,2)=some ⟨6,[bC false agent]⟩:=(hfr47 _ (by simp)).trans (by simp[hh,m2_1,m3_2,Heap.get_set])
  have m3_2:H45 (n1+1,3)=some ⟨2,[mC false m]⟩:=(hfr47 _ (by simp)).trans (by simp[hh,m2_1,m3_2,Heap.get_set])
  simp[hh,m2_1,m3_2,dc23,dr26,boolC]
  apply hk'
  refine Runs.cut (fun ρ H n=>∃ (v50:AVal),(ρ 2=pA n1 2∧ρ 3=pA (n1+1) 3∧ρ 5=v50∧ρ 6=int i15)∧H (n1,2)=some ⟨6,[bC false agent]⟩∧H (n1+1,3)=some ⟨2,[mC false m]⟩∧Sep H n [oE [.c] boolC v50 l43] [(n1+1,3),(n1,2)]) (by refine⟨v44,?_,?_,?_,sp⟩<;>simp[hh,m2_1,m3_2,dc23,dr26,boolC]) ?_
  clear hh m2_1 m3_2
  rintro ρ H n51 ⟨v50,hh,m2_1,m3_2,sp⟩
  refine Runs.inBlock ?_
  refine zF fun k' hk'=>?_
  obtain⟨hb52,h⟩:=h
  obtain⟨v53,ev53,h⟩:=atm h
  have f54:=ib_add hb52 ev53
  simp[hh,m2_1,m3_2,f54,boolC,-intBin]
  apply hk'
  refine IH19 (v53,l43) _ _ _ h (by refine⟨v50,?_,?_,?_,sp⟩<;>simp[hh,m2_1,m3_2,boolC])
 replace h:=h.2 dc23
 refine Runs.exit rfl ?_
 refine zE fun k' hk'=>?_
 simp[hh,m2_1,m3_2,dc23,boolC]
 apply hk'
 exact Runs.ret1 (v:=v17) Tryz.func134 Tryz.results134 (by simp[hh,m2_1,m3_2,dc23,boolC]) (hQ _ _ _ _ (Sep.sub (ids':=[]) sp (by simp)) ⟨l16,h,rfl⟩)
theorem l8Parameter_ok (agent:Big) (m:Match) (hp:l8Parameter_pre agent m):OwnS Tryz.prog 134 [.agg (bC false agent),.agg (mC false m)] (.s [.c]) (fun r=>r = .list true ((l8Parameter agent m).map boolC)):=(l8Parameter_walk agent m _ (l8Parameter_vc agent m hp)).mono (by rintro _ ⟨_,rfl,rfl⟩;rfl)
theorem e135:Ent Tryz.prog 135:=Ent.of Tryz.func135 (by kernel_rfl) rfl
theorem l4Some_walk (b:Big) (link:Int) (kind:List Bool) (is:Bool) (Z:Int→Prop) (h:l4Some_wp b link kind is Z):PureC Tryz.prog 135 [.agg (bC false b),int link,.list false (kind.map boolC),bool is] (fun r=>∃ y:Int,Z y∧r=int y):=by
 unfold l4Some_wp at h
 refine PureC.of Tryz.func135 rfl Tryz.ntmps135 (by simp) fun Q hQ=>?_
 refine Runs.cut (fun ρ H n=>(ρ 0 = .agg (bC false b)∧ρ 1=int link∧ρ 2 = .list false (kind.map boolC)∧ρ 3=bool is)) (by simp[boolC]) ?_
 rintro ρ H n1 hh
 refine zE fun k' hk'=>?_
 simp[hh,boolC]
 apply hk'
 refine Runs.cut (fun ρ H n=>(ρ 1=int link∧ρ 2 = .list false (kind.map boolC)∧ρ 3=bool is∧ρ 4=pA n1 4)∧H (n1,4)=some ⟨6,[bC false b]⟩) (by refine⟨?_,?_⟩<;>simp[hh,boolC]) ?_
 clear hh
 rintro ρ H n3 ⟨hh,m4_1⟩
 refine zE fun k' hk'=>?_
 obtain⟨hb4,h⟩:=h
 obtain⟨r5,er5,h⟩:=atm h
 simp[hh,m4_1,boolC]
 refine RunK.callA Ty_ok ((l2Ports_ok b link hb4).pure) e173 (.cons (argB false b) (.cons (.v _ _ _) .nil)) (by decide) (by decide) rfl (by simp[hh,m4_1,boolC]) ?_
 rintro _ rfl
 rw[← er5]
 simp[hh,m4_1,boolC]
 apply hk'
 refine Runs.seq ?_
 refine zE fun k' hk'=>?_
 simp[hh,m4_1,boolC]
 apply hk'
 refine Runs.block ?_
 refine Runs.loopW h (fun (sJ:Int × Int) ρ H n=>match sJ with | (count9,i10)=>(ρ 2 = .list false (kind.map boolC)∧ρ 3=bool is∧ρ 9 = .list true (r5.map intC2)∧ρ 10=int count9∧ρ 11=int i10)) (by simp[hh,m4_1,boolC]) ?_
 clear hh m4_1
 rintro⟨count9,i10⟩ ρ H n11 K h hh IH12
 refine Runs.seq ?_
 refine zE fun k' hk'=>?_
 obtain⟨len14,elen14,h⟩:=atm h
 have f15:=fun H=>len_list (H:=H) (fr:=true) (f:=intC2) kd_186 elen14
 obtain⟨c16,ec16,h⟩:=atm h
 have f17:=ib_lss (k:=.i64) ec16
 simp[hh,f15,f17,boolC,-intBin,-lenF]
 apply hk'
 refine Runs.ite (b:=c16) (by simp[hh,boolC]) (fun dc16=>?_) (fun dc16=>?_)
 ·replace h:=h.1 dc16
  refine Runs.skip ?_
  refine Runs.seq ?_
  refine Runs.block ?_
  refine zE fun k' hk'=>?_
  obtain⟨hb18,h⟩:=h
  obtain⟨x19,ex19,h⟩:=atm h
  have f20:=fun H=>ix_list (H:=H) (fr:=true) (f:=intC2) (k:=.i64) kd_186 (fun _=>rfl) hb18 ex19
  have f21:=fun H=>ixa_i (H:=H) (k:=.i64) (i:=0) (fr:=true) (cs:=[int x19.1,int x19.2]) kd_191 (by decide)
  obtain⟨hb22,h⟩:=h
  obtain⟨x23,ex23,h⟩:=atm h
  have f24:=fun H=>ix_list (H:=H) (fr:=false) (f:=boolC) (k:=.i64) kd_164 (fun _=>rfl) hb22 ex23
  obtain⟨c25,ec25,h⟩:=atm h
  have f26:=bb_eql ec25
  simp[hh,f20,f21,f24,f26,dc16,boolC,-boolBin,-indexAddrF]
  apply hk'
  refine Runs.ite (b:=c25) (by simp[hh,dc16,boolC]) (fun dc25=>?_) (fun dc25=>?_)
  ·replace h:=h.1 dc25
   refine zF fun k' hk'=>?_
   obtain⟨hb27,h⟩:=h
   obtain⟨v28,ev28,h⟩:=atm h
   have f29:=ib_add hb27 ev28
   simp[hh,f29,dc16,dc25,boolC,-intBin]
   apply hk'
   refine Runs.cut (fun ρ H n=>(ρ 2 = .list false (kind.map boolC)∧ρ 3=bool is∧ρ 9 = .list true (r5.map intC2)∧ρ 10=int v28∧ρ 11=int i10)) (by simp[hh,f29,dc16,dc25,boolC,-intBin]) ?_
   clear hh
   rintro ρ H n30 hh
   refine Runs.inBlock ?_
   refine zF fun k' hk'=>?_
   obtain⟨hb31,h⟩:=h
   obtain⟨v32,ev32,h⟩:=atm h
   have f33:=ib_add hb31 ev32
   simp[hh,f33,boolC,-intBin]
   apply hk'
   refine IH12 (v28,v32) _ _ _ h (by simp[hh,boolC])
  replace h:=h.2 dc25
  refine Runs.skip ?_
  refine Runs.inBlock ?_
  refine zF fun k' hk'=>?_
  obtain⟨hb34,h⟩:=h
  obtain⟨v35,ev35,h⟩:=atm h
  have f36:=ib_add hb34 ev35
  simp[hh,f36,dc16,dc25,boolC,-intBin]
  apply hk'
  refine Runs.cut (fun ρ H n=>(ρ 2 = .list false (kind.map boolC)∧ρ 3=bool is∧ρ 9 = .list true (r5.map intC2)∧ρ 10=int count9∧ρ 11=int v35)) (by simp[hh,f36,dc16,dc25,boolC,-intBin]) ?_
  clear hh
  rintro ρ H n37 hh
  refine IH12 (count9,v35) _ _ _ h (by simp[hh,boolC])
 replace h:=h.2 dc16
 refine Runs.exit rfl ?_
 refine zE fun k' hk'=>?_
 simp[hh,dc16,boolC]
 apply hk'
 exact Runs.ret1 (v:=int count9) Tryz.func135 Tryz.results135 (by simp[hh,dc16,boolC]) (hQ _ _ _ _ (.of (.v _)) ⟨count9,h,rfl⟩)
theorem l4Some_ok (b:Big) (link:Int) (kind:List Bool) (is:Bool) (hp:l4Some_pre b link kind is):PureC Tryz.prog 135 [.agg (bC false b),int link,.list false (kind.map boolC),bool is] (fun r=>r=int (l4Some b link kind is)):=(l4Some_walk b link kind is _ (l4Some_vc b link kind is hp)).mono (by rintro _ ⟨_,rfl,rfl⟩;rfl)
theorem e136:Ent Tryz.prog 136:=Ent.of Tryz.func136 (by kernel_rfl) rfl
theorem l4Letter_walk (link:Int) (Z:Str→Prop) (h:l4Letter_wp link Z):PureC Tryz.prog 136 [int link] (fun r=>∃ y:Str,Z y∧r=str y):=by
 unfold l4Letter_wp at h
 refine PureC.of Tryz.func136 rfl Tryz.ntmps136 (by simp) fun Q hQ=>?_
 refine Runs.cut (fun ρ H n=>ρ 0=int link) (by simp[]) ?_
 rintro ρ H n1 hh
 refine zE fun k' hk'=>?_
 simp[hh]
 apply hk'
 refine zE fun k' hk'=>?_
 obtain⟨hb2,h⟩:=h
 obtain⟨v3,ev3,h⟩:=atm h
 have f4:=ib_add hb2 ev3
 obtain⟨hb5,h⟩:=h
 obtain⟨s6,es6,h⟩:=atm h
 have f7:=fun H=>sl_str (H:=H) (lo:=some (int link)) (hi:=some (int v3)) (a:=link) (b:=v3) (by simp[boundOf]) (by simp[boundOf]) kd_9 hb5 es6
 simp[hh,f4,f7,-intBin,-sliceF]
 apply hk'
 exact Runs.ret1 (v:=str s6) Tryz.func136 Tryz.results136 (by simp[hh]) (hQ _ _ _ _ (.of (.v _)) ⟨s6,h,rfl⟩)
theorem l4Letter_ok (link:Int) (hp:l4Letter_pre link):PureC Tryz.prog 136 [int link] (fun r=>r=str (l4Letter link)):=(l4Letter_walk link _ (l4Letter_vc link hp)).mono (by rintro _ ⟨_,rfl,rfl⟩;rfl)
theorem e84:Ent Tryz.prog 84:=Ent.of Tryz.func84 (by kernel_rfl) rfl
theorem l8Passed_walk (redex:Big) (agent:Big) (m:Match) (Z:((List Int) × (List Str) × Bool)→Prop) (h:l8Passed_wp redex agent m Z):OwnS Tryz.prog 84 [.agg (bC false redex),.agg (bC false agent),.agg (mC false m)] (.t [.s [.c],.s [.c],.c]) (fun r=>∃ y:(List Int) × (List Str) × Bool,Z y∧r = .tup [.list true (y.1.map intC),.list true (y.2.1.map strC),bool y.2.2]):=by
 unfold l8Passed_wp at h
 have sp:Sep noHeap 0 [] []:=Sep.nil (by simp)
 refine OwnS.of Tryz.func84 rfl Tryz.ntmps84 (by simp) fun Q hQ=>?_
 refine Runs.cut (fun ρ H n=>(ρ 0 = .agg (bC false redex)∧ρ 1 = .agg (bC false agent)∧ρ 2 = .agg (mC false m))∧Sep H n [] []) (by refine⟨?_,sp⟩<;>simp ) ?_
 rintro ρ H n1 ⟨hh,sp⟩
 refine zE fun k' hk'=>?_
 simp[hh]
 apply hk'
 refine Runs.cut (fun ρ H n=>(ρ 3=pA n1 3∧ρ 4=pA (n1+1) 4∧ρ 5=pA (n1+2) 5)∧H (n1,3)=some ⟨6,[bC false redex]⟩∧H (n1+1,4)=some ⟨6,[bC false agent]⟩∧H (n1+2,5)=some ⟨2,[mC false m]⟩∧Sep H n [] [(n1+2,5),(n1+1,4),(n1,3)]) (by refine⟨?_,?_,?_,?_,sp.var.var.var⟩<;>simp[hh]) ?_
 clear hh
 rintro ρ H n5 ⟨hh,m3_1,m4_2,m5_3,sp⟩
 refine zE fun k' hk'=>?_
 obtain⟨hb8,h⟩:=h
 obtain⟨r9,er9,h⟩:=atm h
 simp[hh,m3_1,m4_2,m5_3]
 refine RunK.callW Ty_ok (l8Parameter_ok agent m hb8) e134 (.cons (argB false agent) (.cons (argM false m) .nil)) (Sep.addEmpty (l:=[.c]) (Sep.addEmpty (l:=[.c]) sp)) (by decide) (by decide) rfl (by simp[hh,m3_1,m4_2,m5_3]) ?_
 rintro v10 H11 n12 _ sp rfl hle14 hfr13
 rw[← er9] at sp
 have m3_1:H11 (n1,3)=some ⟨6,[bC false redex]⟩:=(hfr13 _ (by simp)).trans (by simp[hh,m3_1,m4_2,m5_3,Heap.get_set])
 have m4_2:H11 (n1+1,4)=some ⟨6,[bC false agent]⟩:=(hfr13 _ (by simp)).trans (by simp[hh,m3_1,m4_2,m5_3,Heap.get_set])
 have m5_3:H11 (n1+2,5)=some ⟨2,[mC false m]⟩:=(hfr13 _ (by simp)).trans (by simp[hh,m3_1,m4_2,m5_3,Heap.get_set])
 simp[hh,m3_1,m4_2,m5_3]
 apply hk'
 refine Runs.cut (fun ρ H n=>∃ (v17 v18 v19:AVal),(ρ 3=pA n1 3∧ρ 4=pA (n1+1) 4∧ρ 9=v19∧ρ 10=v18∧ρ 11=v17)∧H (n1,3)=some ⟨6,[bC false redex]⟩∧H (n1+1,4)=some ⟨6,[bC false agent]⟩∧Sep H n [oE [.c] boolC v17 r9,oS v18 ([]:List Str),oI v19 ([]:List Int)] [(n1+1,4),(n1,3)]) (by refine⟨v10,.arr (n5+1,16) 0 0 0,.arr (n5,15) 0 0 0,?_,?_,?_,(Sep.sub sp (by simp +contextual))⟩<;>simp[hh,m3_1,m4_2,m5_3]) ?_
 clear hh m3_1 m4_2 m5_3
 rintro ρ H n20 ⟨v17,v18,v19,hh,m3_1,m4_2,sp⟩
 refine Runs.seq ?_
 refine zE fun k' hk'=>?_
 simp[hh,m3_1,m4_2]
 apply hk'
 refine Runs.block ?_
 refine Runs.loopW h (fun (sJ:Int × (List Int)) ρ H n=>match sJ with | (link32,l33)=>∃ (v34 v35 v36:AVal),(ρ 3=pA n1 3∧ρ 4=pA (n1+1) 4∧ρ 9=v36∧ρ 10=v35∧ρ 11=v34∧ρ 12=int link32)∧H (n1,3)=some ⟨6,[bC false redex]⟩∧H (n1+1,4)=some ⟨6,[bC false agent]⟩∧Sep H n [oE [.c] boolC v34 r9,oS v35 ([]:List Str),oI v36 l33] [(n1+1,4),(n1,3)]) (by refine⟨v17,v18,v19,?_,?_,?_,sp⟩<;>simp[hh,m3_1,m4_2]) ?_
 clear hh m3_1 m4_2
 rintro⟨link32,l33⟩ ρ H n37 K h ⟨v34,v35,v36,hh,m3_1,m4_2,sp⟩ IH38
 refine Runs.seq ?_
 refine zE fun k' hk'=>?_
 obtain⟨len40,elen40,h⟩:=atm h
 have f41:=fun H=>len_list (H:=H) (fr:=false) (f:=strC) kd_25 elen40
 obtain⟨hb42,h⟩:=h
 obtain⟨v43,ev43,h⟩:=atm h
 have f44:=ib_add hb42 ev43
 obtain⟨c45,ec45,h⟩:=atm h
 have f46:=ib_lss (k:=.i64) ec45
 simp[hh,m3_1,m4_2,f41,f44,f46,-intBin,-lenF]
 apply hk'
 refine Runs.ite (b:=c45) (by simp[hh,m3_1,m4_2]) (fun dc45=>?_) (fun dc45=>?_)
 ·replace h:=h.1 dc45
  refine Runs.skip ?_
  refine Runs.seq ?_
  refine Runs.block ?_
  refine zE fun k' hk'=>?_
  obtain⟨hb47,h⟩:=h
  obtain⟨r48,er48,h⟩:=atm h
  simp[hh,m3_1,m4_2,dc45]
  refine RunK.callA Ty_ok (l4Some_ok agent link32 r9 true hb47) e135 (.cons (argB false agent) (.cons (.v _ _ _) (.cons (Sep.argOk' sp (old_listF (flatB _))) (.cons (.v _ _ _) .nil)))) (by decide) (by decide) rfl (by simp[hh,m3_1,m4_2,dc45]) ?_
  rintro _ rfl
  rw[← er48]
  obtain⟨c49,ec49,h⟩:=atm h
  have f50:=ib_gtr (k:=.i64) ec49
  simp[hh,m3_1,m4_2,f50,dc45,-intBin]
  apply hk'
  refine Runs.ite (b:=c49) (by simp[hh,m3_1,m4_2,dc45]) (fun dc49=>?_) (fun dc49=>?_)
  ·replace h:=h.1 dc49
   refine zF fun k' hk'=>?_
   obtain⟨hb51,h⟩:=h
   obtain⟨l52,el52,h⟩:=atm h
   simp[hh,m3_1,m4_2,dc45,dc49,-appendF]
   refine bind_append [] [oE [.c] boolC v34 r9,oS v35 ([]:List Str)] [[int link32]] [intC link32] sp.f2 kd_24 (by simp) (by simp) (by simp) (by simp[-one1,o1x]) (rows_one (Fill.v _ Fill.nil)) (by simp) (by simpa using hb51) ?_
   rintro v53 H54 n55 sp hfr56 hle57
   replace sp:Sep H54 n55 [oI v53 l52,oE [.c] boolC v34 r9,oS v35 ([]:List Str)] [(n1+1,4),(n1,3)]:=Sep.ap el52 sp
   have m3_1:H54 (n1,3)=some ⟨6,[bC false redex]⟩:=(hfr56 _ (by simp)).trans (by simp[hh,m3_1,m4_2,Heap.get_set])
   have m4_2:H54 (n1+1,4)=some ⟨6,[bC false agent]⟩:=(hfr56 _ (by simp)).trans (by simp[hh,m3_1,m4_2,Heap.get_set])
   simp[hh,m3_1,m4_2,dc45,dc49]
   apply hk'
   refine Runs.cut (fun ρ H n=>∃ (v59 v60 v61:AVal),(ρ 3=pA n1 3∧ρ 4=pA (n1+1) 4∧ρ 9=v59∧ρ 10=v61∧ρ 11=v60∧ρ 12=int link32)∧H (n1,3)=some ⟨6,[bC false redex]⟩∧H (n1+1,4)=some ⟨6,[bC false agent]⟩∧Sep H n [oI v59 l52,oE [.c] boolC v60 r9,oS v61 ([]:List Str)] [(n1+1,4),(n1,3)]) (by refine⟨v53,v34,v35,?_,?_,?_,sp⟩<;>simp[hh,m3_1,m4_2,dc45,dc49]) ?_
   clear hh m3_1 m4_2
   rintro ρ H n62 ⟨v59,v60,v61,hh,m3_1,m4_2,sp⟩
   refine Runs.inBlock ?_
   refine zF fun k' hk'=>?_
   obtain⟨hb63,h⟩:=h
   obtain⟨v64,ev64,h⟩:=atm h
   have f65:=ib_add hb63 ev64
   simp[hh,m3_1,m4_2,f65,-intBin]
   apply hk'
   refine IH38 (v64,l52) _ _ _ h (by refine⟨v60,v61,v59,?_,?_,?_,sp.f2.f2⟩<;>simp[hh,m3_1,m4_2])
  replace h:=h.2 dc49
  refine Runs.skip ?_
  refine Runs.inBlock ?_
  refine zF fun k' hk'=>?_
  obtain⟨hb66,h⟩:=h
  obtain⟨v67,ev67,h⟩:=atm h
  have f68:=ib_add hb66 ev67
  simp[hh,m3_1,m4_2,f68,dc45,dc49,-intBin]
  apply hk'
  refine Runs.cut (fun ρ H n=>∃ (v69 v70 v71:AVal),(ρ 3=pA n1 3∧ρ 4=pA (n1+1) 4∧ρ 9=v71∧ρ 10=v70∧ρ 11=v69∧ρ 12=int v67)∧H (n1,3)=some ⟨6,[bC false redex]⟩∧H (n1+1,4)=some ⟨6,[bC false agent]⟩∧Sep H n [oE [.c] boolC v69 r9,oS v70 ([]:List Str),oI v71 l33] [(n1+1,4),(n1,3)]) (by refine⟨v34,v35,v36,?_,?_,?_,sp⟩<;>simp[hh,m3_1,m4_2,f68,dc45,dc49,-intBin]) ?_
  clear hh m3_1 m4_2
  rintro ρ H n72 ⟨v69,v70,v71,hh,m3_1,m4_2,sp⟩
  refine IH38 (v67,l33) _ _ _ h (by refine⟨v69,v70,v71,?_,?_,?_,sp⟩<;>simp[hh,m3_1,m4_2])
 replace h:=h.2 dc45
 refine Runs.exit rfl ?_
 refine Runs.seq ?_
 refine zE fun k' hk'=>?_
 obtain⟨len73,elen73,h⟩:=atm h
 have f74:=len_own (Sep.len (m:=len73) sp.f2 kd_24 (by rw[elen73,List.length_map]))
 obtain⟨len75,elen75,h⟩:=atm h
 have f76:=fun H=>len_list (H:=H) (fr:=false) (f:=strC) kd_25 elen75
 obtain⟨hb77,h⟩:=h
 obtain⟨v78,ev78,h⟩:=atm h
 have f79:=ib_add hb77 ev78
 obtain⟨c80,ec80,h⟩:=atm h
 have f81:=ib_gtr (k:=.i64) ec80
 simp[hh,m3_1,m4_2,f74,f76,f79,f81,dc45,-intBin,-lenF]
 apply hk'
 refine Runs.cut (fun ρ H n=>∃ (v82 v83:AVal),(ρ 3=pA n1 3∧ρ 9=v83∧ρ 10=v82∧ρ 45=bool c80)∧H (n1,3)=some ⟨6,[bC false redex]⟩∧Sep H n [oS v82 ([]:List Str),oI v83 l33] [(n1,3)]) (by refine⟨v35,v36,?_,?_,(Sep.sub sp.dr (by simp +contextual))⟩<;>simp[hh,m3_1,m4_2,f74,f76,f79,f81,dc45,-intBin,-lenF]) ?_
 clear hh m3_1 m4_2
 rintro ρ H n84 ⟨v82,v83,hh,m3_1,sp⟩
 refine Runs.ite (b:=c80) (by simp[hh,m3_1]) (fun dc80=>?_) (fun dc80=>?_)
 ·replace h:=h.1 dc80
  refine zE fun k' hk'=>?_
  simp[hh,m3_1,dc80]
  apply hk'
  refine Runs.cut (fun ρ H n=>∃ (v87 v88:AVal),(ρ 6=v88∧ρ 7=v87∧ρ 8=bool false)∧Sep H n [oS v87 ([]:List Str),oI v88 ([]:List Int)] []) (by refine⟨.arr (n84+1,47) 0 0 0,.arr (n84,46) 0 0 0,?_,(Sep.sub (Sep.dr (Sep.f2 (Sep.dr (Sep.f2 (Sep.addEmpty (l:=[.c]) (Sep.addEmpty (l:=[.c]) sp)))))) (by simp +contextual))⟩<;>simp[hh,m3_1,dc80]) ?_
  clear hh m3_1
  rintro ρ H n89 ⟨v87,v88,hh,sp⟩
  exact Runs.ret3 (v:=v88) (w:=v87) (z:=bool false) Tryz.func84 Tryz.results84 (by simp[hh]) (by simp[hh]) (by simp[hh]) (hQ _ _ _ _ (Sep.sub (ids':=[]) (Sep.packT (Fill.own (Fill.own (Fill.v _ Fill.nil))) sp.f1) (by simp)) ⟨(([]:List Int),([]:List Str),false),h,rfl⟩)
 replace h:=h.2 dc80
 refine Runs.skip ?_
 refine Runs.seq ?_
 refine zE fun k' hk'=>?_
 simp[hh,m3_1,dc80]
 apply hk'
 refine Runs.block ?_
 refine Runs.loopW h (fun (sJ:Int × (List Str)) ρ H n=>match sJ with | (i100,l101)=>∃ (v102 v103:AVal),(ρ 3=pA n1 3∧ρ 9=v103∧ρ 10=v102∧ρ 13=int i100)∧H (n1,3)=some ⟨6,[bC false redex]⟩∧Sep H n [oS v102 l101,oI v103 l33] [(n1,3)]) (by refine⟨v82,v83,?_,?_,sp⟩<;>simp[hh,m3_1,dc80]) ?_
 clear hh m3_1
 rintro⟨i100,l101⟩ ρ H n104 K h ⟨v102,v103,hh,m3_1,sp⟩ IH105
 refine Runs.seq ?_
 refine zE fun k' hk'=>?_
 obtain⟨len107,elen107,h⟩:=atm h
 have f108:=len_own (Sep.len (m:=len107) sp kd_25 (by rw[elen107,List.length_map]))
 obtain⟨len109,elen109,h⟩:=atm h
 have f110:=len_own (Sep.len (m:=len109) sp.f1 kd_24 (by rw[elen109,List.length_map]))
 obtain⟨c111,ec111,h⟩:=atm h
 have f112:=ib_lss (k:=.i64) ec111
 simp[hh,m3_1,f108,f110,f112,-intBin,-lenF]
 apply hk'
 refine Runs.ite (b:=c111) (by simp[hh,m3_1]) (fun dc111=>?_) (fun dc111=>?_)
 ·replace h:=h.1 dc111
  refine Runs.skip ?_
  refine Runs.seq ?_
  refine Runs.block ?_
  refine zE fun k' hk'=>?_
  obtain⟨hb113,h⟩:=h
  obtain⟨r114,er114,h⟩:=atm h
  simp[hh,m3_1,dc111]
  refine RunK.callA Ty_ok (l4Letter_ok i100 hb113) e136 (.cons (.v _ _ _) .nil) (by decide) (by decide) rfl (by simp[hh,m3_1,dc111]) ?_
  rintro _ rfl
  rw[← er114]
  obtain⟨hb115,h⟩:=h
  obtain⟨v116,ev116,h⟩:=atm h
  have f117:=sb_add hb115 ev116
  simp[hh,m3_1,f117,dc111,-strBin]
  apply hk'
  refine zE fun k' hk'=>?_
  obtain⟨hb118,h⟩:=h
  obtain⟨r119,er119,h⟩:=atm h
  simp[hh,m3_1,dc111]
  refine RunK.callA Ty_ok (l2At_ok redex.outer v116 hb118) e137 (.cons (argS false redex.outer) (.cons (.v _ _ _) .nil)) (by decide) (by decide) rfl (by simp[hh,m3_1,dc111]) ?_
  rintro _ rfl
  rw[← er119]
  obtain⟨c120,ec120,h⟩:=atm h
  have f121:=ib_lss (k:=.i64) ec120
  simp[hh,m3_1,f121,dc111,-intBin]
  apply hk'
  refine Runs.ite (b:=c120) (by simp[hh,m3_1,dc111]) (fun dc120=>?_) (fun dc120=>?_)
  ·replace h:=h.1 dc120
   refine zF fun k' hk'=>?_
   obtain⟨hb122,h⟩:=h
   obtain⟨l123,el123,h⟩:=atm h
   simp[hh,m3_1,dc111,dc120,-appendF]
   refine bind_append [] [oI v103 l33] [[str v116]] [strC v116] sp kd_25 (by simp) (by simp) (by simp) (by simp[-one1,o1x]) (rows_one (Fill.v _ Fill.nil)) (by simp) (by simpa using hb122) ?_
   rintro v124 H125 n126 sp hfr127 hle128
   replace sp:Sep H125 n126 [oS v124 l123,oI v103 l33] [(n1,3)]:=Sep.ap el123 sp
   have m3_1:H125 (n1,3)=some ⟨6,[bC false redex]⟩:=(hfr127 _ (by simp)).trans (by simp[hh,m3_1,Heap.get_set])
   simp[hh,m3_1,dc111,dc120]
   apply hk'
   refine Runs.cut (fun ρ H n=>∃ (v130 v131:AVal),(ρ 3=pA n1 3∧ρ 9=v131∧ρ 10=v130∧ρ 13=int i100)∧H (n1,3)=some ⟨6,[bC false redex]⟩∧Sep H n [oS v130 l123,oI v131 l33] [(n1,3)]) (by refine⟨v124,v103,?_,?_,sp⟩<;>simp[hh,m3_1,dc111,dc120]) ?_
   clear hh m3_1
   rintro ρ H n132 ⟨v130,v131,hh,m3_1,sp⟩
   refine Runs.inBlock ?_
   refine zF fun k' hk'=>?_
   obtain⟨hb133,h⟩:=h
   obtain⟨v134,ev134,h⟩:=atm h
   have f135:=ib_add hb133 ev134
   simp[hh,m3_1,f135,-intBin]
   apply hk'
   refine IH105 (v134,l123) _ _ _ h (by refine⟨v130,v131,?_,?_,sp⟩<;>simp[hh,m3_1])
  replace h:=h.2 dc120
  refine Runs.skip ?_
  refine Runs.inBlock ?_
  refine zF fun k' hk'=>?_
  obtain⟨hb136,h⟩:=h
  obtain⟨v137,ev137,h⟩:=atm h
  have f138:=ib_add hb136 ev137
  simp[hh,m3_1,f138,dc111,dc120,-intBin]
  apply hk'
  refine Runs.cut (fun ρ H n=>∃ (v139 v140:AVal),(ρ 3=pA n1 3∧ρ 9=v140∧ρ 10=v139∧ρ 13=int v137)∧H (n1,3)=some ⟨6,[bC false redex]⟩∧Sep H n [oS v139 l101,oI v140 l33] [(n1,3)]) (by refine⟨v102,v103,?_,?_,sp⟩<;>simp[hh,m3_1,f138,dc111,dc120,-intBin]) ?_
  clear hh m3_1
  rintro ρ H n141 ⟨v139,v140,hh,m3_1,sp⟩
  refine IH105 (v137,l101) _ _ _ h (by refine⟨v139,v140,?_,?_,sp⟩<;>simp[hh,m3_1])
 replace h:=h.2 dc111
 refine Runs.exit rfl ?_
 refine zE fun k' hk'=>?_
 simp[hh,m3_1,dc111]
 apply hk'
 exact Runs.ret3 (v:=v103) (w:=v102) (z:=bool true) Tryz.func84 Tryz.results84 (by simp[hh,m3_1,dc111]) (by simp[hh,m3_1,dc111]) (by simp[hh,m3_1,dc111]) (hQ _ _ _ _ (Sep.sub (ids':=[]) (Sep.packT (Fill.own (Fill.own (Fill.v _ Fill.nil))) sp.f1) (by simp)) ⟨(l33,l101,true),h,rfl⟩)
theorem l8Passed_ok (redex:Big) (agent:Big) (m:Match) (hp:l8Passed_pre redex agent m):OwnS Tryz.prog 84 [.agg (bC false redex),.agg (bC false agent),.agg (mC false m)] (.t [.s [.c],.s [.c],.c]) (fun r=>r = .tup [.list true (((l8Passed redex agent m).1).map intC),.list true (((l8Passed redex agent m).2.1).map strC),bool ((l8Passed redex agent m).2.2)]):=(l8Passed_walk redex agent m _ (l8Passed_vc redex agent m hp)).mono (by rintro _ ⟨_,rfl,rfl⟩;rfl)
theorem e34:Ent Tryz.prog 34:=Ent.of Tryz.func34 (by kernel_rfl) rfl
theorem sPassedLinks_walk (sig:List Control) (redex:Big) (agent:Big) (m:Match) (Z:((List Int) × (List Str) × Bool)→Prop) (h:sPassedLinks_wp sig redex agent m Z):OwnS Tryz.prog 34 [.list false (sig.map Control.cells),.agg (bC false redex),.agg (bC false agent),.agg (mC false m)] (.t [.s [.c],.s [.c],.c]) (fun r=>∃ y:(List Int) × (List Str) × Bool,Z y∧r = .tup [.list true (y.1.map intC),.list true (y.2.1.map strC),bool y.2.2]):=by
 unfold sPassedLinks_wp at h
 have sp:Sep noHeap 0 [] []:=Sep.nil (by simp)
 refine OwnS.of Tryz.func34 rfl Tryz.ntmps34 (by simp) fun Q hQ=>?_
 refine Runs.cut (fun ρ H n=>(ρ 0 = .list false (sig.map Control.cells)∧ρ 1 = .agg (bC false redex)∧ρ 2 = .agg (bC false agent)∧ρ 3 = .agg (mC false m))∧Sep H n [] []) (by refine⟨?_,sp⟩<;>simp ) ?_
 rintro ρ H n1 ⟨hh,sp⟩
 refine zE fun k' hk'=>?_
 simp[hh]
 apply hk'
 refine Runs.cut (fun ρ H n=>(ρ 0 = .list false (sig.map Control.cells)∧ρ 5=pA n1 5∧ρ 6=pA (n1+1) 6∧ρ 7=pA (n1+2) 7)∧H (n1,5)=some ⟨6,[bC false redex]⟩∧H (n1+1,6)=some ⟨6,[bC false agent]⟩∧H (n1+2,7)=some ⟨2,[mC false m]⟩∧Sep H n [] [(n1+2,7),(n1+1,6),(n1,5)]) (by refine⟨?_,?_,?_,?_,sp.var.var.var⟩<;>simp[hh]) ?_
 clear hh
 rintro ρ H n5 ⟨hh,m5_1,m6_2,m7_3,sp⟩
 refine Runs.seq ?_
 refine zE fun k' hk'=>?_
 obtain⟨hb6,h⟩:=h
 obtain⟨r7,er7,h⟩:=atm h
 simp[hh,m5_1,m6_2,m7_3]
 refine RunK.callA Ty_ok (l8Given_ok sig redex agent m hb6) e47 (.cons (argC false sig) (.cons (argB false redex) (.cons (argB false agent) (.cons (argM false m) .nil)))) (by decide) (by decide) rfl (by simp[hh,m5_1,m6_2,m7_3]) ?_
 rintro _ rfl
 rw[← er7]
 simp[hh,m5_1,m6_2,m7_3]
 apply hk'
 refine Runs.ite (b:=(!r7)) (by simp[hh,m5_1,m6_2,m7_3]) (fun dr7=>?_) (fun dr7=>?_)
 ·have dr7:r7=false:=by simpa using dr7
  replace h:=h.2 dr7
  refine zE fun k' hk'=>?_
  simp[hh,m5_1,m6_2,m7_3,dr7]
  apply hk'
  refine Runs.cut (fun ρ H n=>∃ (v10 v11:AVal),(ρ 8=v11∧ρ 9=v10∧ρ 10=bool false)∧Sep H n [oS v10 ([]:List Str),oI v11 ([]:List Int)] []) (by refine⟨.arr (n5+1,18) 0 0 0,.arr (n5,17) 0 0 0,?_,(Sep.sub (Sep.addEmpty (l:=[.c]) (Sep.addEmpty (l:=[.c]) sp)) (by simp +contextual))⟩<;>simp[hh,m5_1,m6_2,m7_3,dr7]) ?_
  clear hh m5_1 m6_2 m7_3
  rintro ρ H n12 ⟨v10,v11,hh,sp⟩
  exact Runs.ret3 (v:=v11) (w:=v10) (z:=bool false) Tryz.func34 Tryz.results34 (by simp[hh]) (by simp[hh]) (by simp[hh]) (hQ _ _ _ _ (Sep.sub (ids':=[]) (Sep.packT (Fill.own (Fill.own (Fill.v _ Fill.nil))) sp.f1) (by simp)) ⟨(([]:List Int),([]:List Str),false),h,rfl⟩)
 have dr7:r7=true:=by simpa using dr7
 replace h:=h.1 dr7
 refine Runs.skip ?_
 refine zE fun k' hk'=>?_
 obtain⟨hb14,h⟩:=h
 obtain⟨r15,er15,h⟩:=atm h
 simp[hh,m5_1,m6_2,m7_3,dr7]
 refine RunK.callW Ty_ok (l8Passed_ok redex agent m hb14) e84 (.cons (argB false redex) (.cons (argB false agent) (.cons (argM false m) .nil))) sp (by decide) (by decide) rfl (by simp[hh,m5_1,m6_2,m7_3,dr7]) ?_
 rintro v16 H17 n18 _ sp rfl hle20 hfr19
 rw[← er15] at sp
 have m5_1:H17 (n1,5)=some ⟨6,[bC false redex]⟩:=(hfr19 _ (by simp)).trans (by simp[hh,m5_1,m6_2,m7_3,Heap.get_set])
 have m6_2:H17 (n1+1,6)=some ⟨6,[bC false agent]⟩:=(hfr19 _ (by simp)).trans (by simp[hh,m5_1,m6_2,m7_3,Heap.get_set])
 have m7_3:H17 (n1+2,7)=some ⟨2,[mC false m]⟩:=(hfr19 _ (by simp)).trans (by simp[hh,m5_1,m6_2,m7_3,Heap.get_set])
 replace sp:=Sep.unpackT sp
 obtain⟨L25,hv,hl26,sp⟩:=sp
 subst hv
 obtain⟨v22,v23,v24,hv⟩:=len3 (by simpa using hl26)
 subst hv
 simp only[zip3,List.cons_append,List.nil_append] at sp
 replace sp:=Sep.rot sp
 try simp only[List.cons_append,List.nil_append,List.append_assoc] at sp
 replace sp:=Sep.rot sp
 try simp only[List.cons_append,List.nil_append,List.append_assoc] at sp
 replace sp:=Sep.scalar sp
 obtain⟨hv,sp⟩:=sp
 subst hv
 replace sp:Sep H17 n18 [oI v22 r15.1,oS v23 r15.2.1] [(n1+2,7),(n1+1,6),(n1,5)]:=sp
 simp[hh,m5_1,m6_2,m7_3,dr7]
 apply hk'
 refine Runs.cut (fun ρ H n=>∃ (v29 v30:AVal),(ρ 8=v29∧ρ 9=v30∧ρ 10=bool r15.2.2)∧Sep H n [oI v29 r15.1,oS v30 r15.2.1] []) (by refine⟨v22,v23,?_,(Sep.sub sp (by simp +contextual))⟩<;>simp[hh,m5_1,m6_2,m7_3,dr7]) ?_
 clear hh m5_1 m6_2 m7_3
 rintro ρ H n31 ⟨v29,v30,hh,sp⟩
 exact Runs.ret3 (v:=v29) (w:=v30) (z:=bool r15.2.2) Tryz.func34 Tryz.results34 (by simp[hh]) (by simp[hh]) (by simp[hh]) (hQ _ _ _ _ (Sep.sub (ids':=[]) (Sep.packT (Fill.own (Fill.own (Fill.v _ Fill.nil))) sp) (by simp)) ⟨(r15.1,r15.2.1,r15.2.2),h,rfl⟩)
theorem sPassedLinks_ok (sig:List Control) (redex:Big) (agent:Big) (m:Match) (hp:sPassedLinks_pre sig redex agent m):OwnS Tryz.prog 34 [.list false (sig.map Control.cells),.agg (bC false redex),.agg (bC false agent),.agg (mC false m)] (.t [.s [.c],.s [.c],.c]) (fun r=>r = .tup [.list true (((sPassedLinks sig redex agent m).1).map intC),.list true (((sPassedLinks sig redex agent m).2.1).map strC),bool ((sPassedLinks sig redex agent m).2.2)]):=(sPassedLinks_walk sig redex agent m _ (sPassedLinks_vc sig redex agent m hp)).mono (by rintro _ ⟨_,rfl,rfl⟩;rfl)
end Go.Ab.Vg
/- Walks by program for YtbpdcoahefnnkaaGreatDoorAbNb. -/
namespace Go.Ab.Vg
open Go.Proofs
set_option maxRecDepth 100000
set_option linter.unusedSimpArgs false
set_option linter.unusedVariables false
attribute [local simp] Control.cells GNode.cells Wire.cells intC sliceC strC bC mC pA
set_option maxHeartbeats 4000000 in
theorem lawPass_walk (aSig:List Control) (aRedex:Big) (aAgent:Big) (aM:Match) (Z:Bool→Prop) (h:lawPass_wp aSig aRedex aAgent aM Z):PureC Tryz.prog 5 [.list false (aSig.map Control.cells),.agg (bC false aRedex),.agg (bC false aAgent),.agg (mC false aM)] (fun r=>∃ y:Bool,Z y∧r=bool y):=by
 unfold lawPass_wp at h
 have sp:Sep noHeap 0 [] []:=Sep.nil (by simp)
 refine PureC.of Tryz.func5 rfl Tryz.ntmps5 (by simp) fun Q hQ=>?_
 refine Runs.cut (fun ρ H n=>(ρ 0 = .list false (aSig.map Control.cells)∧ρ 1 = .agg (bC false aRedex)∧ρ 2 = .agg (bC false aAgent)∧ρ 3 = .agg (mC false aM))∧Sep H n [] []) (by refine⟨?_,sp⟩<;>simp ) ?_
 rintro ρ H n1 ⟨hh,sp⟩
 refine zE fun k' hk'=>?_
 simp[hh]
 apply hk'
 refine Runs.cut (fun ρ H n=>(ρ 0 = .list false (aSig.map Control.cells)∧ρ 5=pA n1 5∧ρ 6=pA (n1+1) 6∧ρ 7=pA (n1+2) 7)∧H (n1,5)=some ⟨6,[bC false aRedex]⟩∧H (n1+1,6)=some ⟨6,[bC false aAgent]⟩∧H (n1+2,7)=some ⟨2,[mC false aM]⟩∧Sep H n [] [(n1+2,7),(n1+1,6),(n1,5)]) (by refine⟨?_,?_,?_,?_,sp.var.var.var⟩<;>simp[hh]) ?_
 clear hh
 rintro ρ H n5 ⟨hh,m5_1,m6_2,m7_3,sp⟩
 refine zE fun k' hk'=>?_
 simp[hh,m5_1,m6_2,m7_3]
 apply hk'
 refine zE fun k' hk'=>?_
 obtain⟨hb6,h⟩:=h
 obtain⟨r7,er7,h⟩:=atm h
 simp[hh,m5_1,m6_2,m7_3]
 refine RunK.callA Ty_ok (szControlS_ok aSig 1048576 hb6.1.1 hb6.1.2 hb6.2.len hb6.2.names) e6 (.cons (argC false aSig) (.cons (.v _ _ _) .nil)) (by decide) (by decide) rfl (by simp[hh,m5_1,m6_2,m7_3]) ?_
 rintro _ rfl
 rw[← er7]
 simp[hh,m5_1,m6_2,m7_3]
 apply hk'
 refine Runs.seq ?_
 refine zE fun k' hk'=>?_
 obtain⟨c8,ec8,h⟩:=atm h
 have f9:=ib_lss (k:=.i64) ec8
 simp[hh,m5_1,m6_2,m7_3,f9,-intBin]
 apply hk'
 refine Runs.ite (b:=c8) (by simp[hh,m5_1,m6_2,m7_3]) (fun dc8=>?_) (fun dc8=>?_)
 ·replace h:=h.1 dc8
  refine zE fun k' hk'=>?_
  simp[hh,m5_1,m6_2,m7_3,dc8]
  apply hk'
  exact Runs.ret1 (v:=bool true) Tryz.func5 Tryz.results5 (by simp[hh,m5_1,m6_2,m7_3,dc8]) (hQ _ _ _ _ (.of (.v _)) ⟨true,h,rfl⟩)
 replace h:=h.2 dc8
 refine Runs.skip ?_
 refine zE fun k' hk'=>?_
 obtain⟨hb10,h⟩:=h
 obtain⟨r11,er11,h⟩:=atm h
 simp[hh,m5_1,m6_2,m7_3,dc8]
 refine RunK.callA Ty_ok (szBigraph_ok aRedex r7 hb10.1.1 hb10.1.2 hb10.2) e9 (.cons (argB false aRedex) (.cons (.v _ _ _) .nil)) (by decide) (by decide) rfl (by simp[hh,m5_1,m6_2,m7_3,dc8]) ?_
 rintro _ rfl
 rw[← er11]
 simp[hh,m5_1,m6_2,m7_3,dc8]
 apply hk'
 refine Runs.seq ?_
 refine zE fun k' hk'=>?_
 obtain⟨c12,ec12,h⟩:=atm h
 have f13:=ib_lss (k:=.i64) ec12
 simp[hh,m5_1,m6_2,m7_3,f13,dc8,-intBin]
 apply hk'
 refine Runs.ite (b:=c12) (by simp[hh,m5_1,m6_2,m7_3,dc8]) (fun dc12=>?_) (fun dc12=>?_)
 ·replace h:=h.1 dc12
  refine zE fun k' hk'=>?_
  simp[hh,m5_1,m6_2,m7_3,dc8,dc12]
  apply hk'
  exact Runs.ret1 (v:=bool true) Tryz.func5 Tryz.results5 (by simp[hh,m5_1,m6_2,m7_3,dc8,dc12]) (hQ _ _ _ _ (.of (.v _)) ⟨true,h,rfl⟩)
 replace h:=h.2 dc12
 refine Runs.skip ?_
 refine zE fun k' hk'=>?_
 obtain⟨hb14,h⟩:=h
 obtain⟨r15,er15,h⟩:=atm h
 simp[hh,m5_1,m6_2,m7_3,dc8,dc12]
 refine RunK.callA Ty_ok (szBigraph_ok aAgent r11 hb14.1.1 hb14.1.2 hb14.2) e9 (.cons (argB false aAgent) (.cons (.v _ _ _) .nil)) (by decide) (by decide) rfl (by simp[hh,m5_1,m6_2,m7_3,dc8,dc12]) ?_
 rintro _ rfl
 rw[← er15]
 simp[hh,m5_1,m6_2,m7_3,dc8,dc12]
 apply hk'
 refine Runs.cut (fun ρ H n=>(ρ 0 = .list false (aSig.map Control.cells)∧ρ 5=pA n1 5∧ρ 6=pA (n1+1) 6∧ρ 7=pA (n1+2) 7∧ρ 9=int r15)∧H (n1,5)=some ⟨6,[bC false aRedex]⟩∧H (n1+1,6)=some ⟨6,[bC false aAgent]⟩∧H (n1+2,7)=some ⟨2,[mC false aM]⟩∧Sep H n [] [(n1+2,7),(n1+1,6),(n1,5)]) (by refine⟨?_,?_,?_,?_,sp⟩<;>simp[hh,m5_1,m6_2,m7_3,dc8,dc12]) ?_
 clear hh m5_1 m6_2 m7_3
 rintro ρ H n16 ⟨hh,m5_1,m6_2,m7_3,sp⟩
 refine Runs.seq ?_
 refine zE fun k' hk'=>?_
 obtain⟨c17,ec17,h⟩:=atm h
 have f18:=ib_lss (k:=.i64) ec17
 simp[hh,m5_1,m6_2,m7_3,f18,-intBin]
 apply hk'
 refine Runs.ite (b:=c17) (by simp[hh,m5_1,m6_2,m7_3]) (fun dc17=>?_) (fun dc17=>?_)
 ·replace h:=h.1 dc17
  refine zE fun k' hk'=>?_
  simp[hh,m5_1,m6_2,m7_3,dc17]
  apply hk'
  exact Runs.ret1 (v:=bool true) Tryz.func5 Tryz.results5 (by simp[hh,m5_1,m6_2,m7_3,dc17]) (hQ _ _ _ _ (.of (.v _)) ⟨true,h,rfl⟩)
 replace h:=h.2 dc17
 refine Runs.skip ?_
 refine zE fun k' hk'=>?_
 obtain⟨hb19,h⟩:=h
 obtain⟨r20,er20,h⟩:=atm h
 simp[hh,m5_1,m6_2,m7_3,dc17]
 refine RunK.callA Ty_ok (szM_ok aM r15 hb19) e10 (.cons (argM false aM) (.cons (.v _ _ _) .nil)) (by decide) (by decide) rfl (by simp[hh,m5_1,m6_2,m7_3,dc17]) ?_
 rintro _ rfl
 rw[← er20]
 simp[hh,m5_1,m6_2,m7_3,dc17]
 apply hk'
 refine Runs.seq ?_
 refine zE fun k' hk'=>?_
 obtain⟨c21,ec21,h⟩:=atm h
 have f22:=ib_lss (k:=.i64) ec21
 simp[hh,m5_1,m6_2,m7_3,f22,dc17,-intBin]
 apply hk'
 refine Runs.ite (b:=c21) (by simp[hh,m5_1,m6_2,m7_3,dc17]) (fun dc21=>?_) (fun dc21=>?_)
 ·replace h:=h.1 dc21
  refine zE fun k' hk'=>?_
  simp[hh,m5_1,m6_2,m7_3,dc17,dc21]
  apply hk'
  exact Runs.ret1 (v:=bool true) Tryz.func5 Tryz.results5 (by simp[hh,m5_1,m6_2,m7_3,dc17,dc21]) (hQ _ _ _ _ (.of (.v _)) ⟨true,h,rfl⟩)
 replace h:=h.2 dc21
 refine Runs.skip ?_
 refine Runs.seqD Ty_ok kindOp_ok draws (by decide) (by kernel_rfl) fun k' hk'=>?_
 obtain⟨hb23,h⟩:=h
 obtain⟨r24,er24,h⟩:=atm h
 simp[hh,m5_1,m6_2,m7_3,dc17,dc21]
 refine RunDK.callA Ty_ok kindOp_ok ((toControlS_ok aSig hb23).pure) e12 (.cons (argC false aSig) .nil) (by decide) rfl (by simp[hh,m5_1,m6_2,m7_3,dc17,dc21]) ?_
 rw[← er24]
 obtain⟨hb25,h⟩:=h
 obtain⟨r26,er26,h⟩:=atm h
 simp[hh,m5_1,m6_2,m7_3,dc17,dc21]
 refine RunDK.callA Ty_ok kindOp_ok ((toBigraph_ok aRedex hb25).pure) e15 (.cons (argB false aRedex) .nil) (by decide) rfl (by simp[hh,m5_1,m6_2,m7_3,dc17,dc21]) ?_
 rw[← er26]
 obtain⟨hb27,h⟩:=h
 obtain⟨r28,er28,h⟩:=atm h
 simp[hh,m5_1,m6_2,m7_3,dc17,dc21]
 refine RunDK.callA Ty_ok kindOp_ok ((toBigraph_ok aAgent hb27).pure) e15 (.cons (argB false aAgent) .nil) (by decide) rfl (by simp[hh,m5_1,m6_2,m7_3,dc17,dc21]) ?_
 rw[← er28]
 obtain⟨hb29,h⟩:=h
 obtain⟨r30,er30,h⟩:=atm h
 simp[hh,m5_1,m6_2,m7_3,dc17,dc21]
 refine RunDK.callA Ty_ok kindOp_ok ((toMatch_ok aM hb29).pure) e16 (.cons (argM false aM) .nil) (by decide) rfl (by simp[hh,m5_1,m6_2,m7_3,dc17,dc21]) ?_
 rw[← er30]
 obtain⟨hb31,h⟩:=h
 obtain⟨r32,er32,h⟩:=atm h
 simp[hh,m5_1,m6_2,m7_3,dc17,dc21]
 refine RunDK.callA Ty_ok kindOp_ok ((sPassedLinks_ok r24 r26 r28 r30 hb31).pure) e34 (.cons (argC true r24) (.cons (argB true r26) (.cons (argB true r28) (.cons (argM true r30) .nil)))) (by decide) rfl (by simp[hh,m5_1,m6_2,m7_3,dc17,dc21]) ?_
 rw[← er32]
 simp[hh,m5_1,m6_2,m7_3,dc17,dc21]
 apply hk'
 refine Runs.cut (fun ρ H n=>(ρ 0 = .list false (aSig.map Control.cells)∧ρ 5=pA n1 5∧ρ 6=pA (n1+1) 6∧ρ 7=pA (n1+2) 7∧ρ 10 = .list true (r32.1.map intC)∧ρ 11 = .list true (r32.2.1.map strC)∧ρ 12=bool r32.2.2)∧H (n1,5)=some ⟨6,[bC false aRedex]⟩∧H (n1+1,6)=some ⟨6,[bC false aAgent]⟩∧H (n1+2,7)=some ⟨2,[mC false aM]⟩∧Sep H n [] [(n1+2,7),(n1+1,6),(n1,5)]) (by refine⟨?_,?_,?_,?_,sp⟩<;>simp[hh,m5_1,m6_2,m7_3,dc17,dc21]) ?_
 clear hh m5_1 m6_2 m7_3
 rintro ρ H n33 ⟨hh,m5_1,m6_2,m7_3,sp⟩
 refine zE fun k' hk'=>?_
 obtain⟨hb34,h⟩:=h
 obtain⟨r35,er35,h⟩:=atm h
 simp[hh,m5_1,m6_2,m7_3]
 refine RunK.callW Ty_ok (toControlS_ok aSig hb34) e12 (.cons (argC false aSig) .nil) sp (by decide) (by decide) rfl (by simp[hh,m5_1,m6_2,m7_3]) ?_
 rintro v36 H37 n38 _ sp rfl hle40 hfr39
 rw[← er35] at sp
 have m5_1:H37 (n1,5)=some ⟨6,[bC false aRedex]⟩:=(hfr39 _ (by simp)).trans (by simp[hh,m5_1,m6_2,m7_3,Heap.get_set])
 have m6_2:H37 (n1+1,6)=some ⟨6,[bC false aAgent]⟩:=(hfr39 _ (by simp)).trans (by simp[hh,m5_1,m6_2,m7_3,Heap.get_set])
 have m7_3:H37 (n1+2,7)=some ⟨2,[mC false aM]⟩:=(hfr39 _ (by simp)).trans (by simp[hh,m5_1,m6_2,m7_3,Heap.get_set])
 simp[hh,m5_1,m6_2,m7_3]
 apply hk'
 refine Runs.cut (fun ρ H n=>∃ (v43:AVal),(ρ 0 = .list false (aSig.map Control.cells)∧ρ 5=pA n1 5∧ρ 6=pA (n1+1) 6∧ρ 7=pA (n1+2) 7∧ρ 10 = .list true (r32.1.map intC)∧ρ 11 = .list true (r32.2.1.map strC)∧ρ 12=bool r32.2.2∧ρ 13=v43)∧H (n1,5)=some ⟨6,[bC false aRedex]⟩∧H (n1+1,6)=some ⟨6,[bC false aAgent]⟩∧H (n1+2,7)=some ⟨2,[mC false aM]⟩∧Sep H n [oE [.c,.c,.c] Control.cells v43 r35] [(n1+2,7),(n1+1,6),(n1,5)]) (by refine⟨v36,?_,?_,?_,?_,sp⟩<;>simp[hh,m5_1,m6_2,m7_3]) ?_
 clear hh m5_1 m6_2 m7_3
 rintro ρ H n44 ⟨v43,hh,m5_1,m6_2,m7_3,sp⟩
 refine zE fun k' hk'=>?_
 obtain⟨hb45,h⟩:=h
 obtain⟨r46,er46,h⟩:=atm h
 simp[hh,m5_1,m6_2,m7_3]
 refine RunK.callW Ty_ok (toBigraph_ok aRedex hb45) e15 (.cons (argB false aRedex) .nil) sp (by decide) (by decide) rfl (by simp[hh,m5_1,m6_2,m7_3]) ?_
 rintro v47 H48 n49 _ sp rfl hle51 hfr50
 rw[← er46] at sp
 have m5_1:H48 (n1,5)=some ⟨6,[bC false aRedex]⟩:=(hfr50 _ (by simp)).trans (by simp[hh,m5_1,m6_2,m7_3,Heap.get_set])
 have m6_2:H48 (n1+1,6)=some ⟨6,[bC false aAgent]⟩:=(hfr50 _ (by simp)).trans (by simp[hh,m5_1,m6_2,m7_3,Heap.get_set])
 have m7_3:H48 (n1+2,7)=some ⟨2,[mC false aM]⟩:=(hfr50 _ (by simp)).trans (by simp[hh,m5_1,m6_2,m7_3,Heap.get_set])
 replace sp:=Sep.unpack sp
 obtain⟨L59,hv,hl60,sp⟩:=sp
 subst hv
 obtain⟨v53,v54,v55,v56,v57,v58,hv⟩:=len6 (by simpa using hl60)
 subst hv
 simp only[zip3,List.cons_append,List.nil_append] at sp
 replace sp:=Sep.scalar sp
 obtain⟨hv,sp⟩:=sp
 subst hv
 replace sp:=Sep.rot sp
 try simp only[List.cons_append,List.nil_append,List.append_assoc] at sp
 replace sp:=Sep.rot sp
 try simp only[List.cons_append,List.nil_append,List.append_assoc] at sp
 replace sp:=Sep.scalar sp
 obtain⟨hv,sp⟩:=sp
 subst hv
 replace sp:=Sep.rot sp
 try simp only[List.cons_append,List.nil_append,List.append_assoc] at sp
 replace sp:=Sep.rot sp
 try simp only[List.cons_append,List.nil_append,List.append_assoc] at sp
 replace sp:Sep H48 n49 [oE [.c,.c,.c] Control.cells v43 r35,oN v54 r46.nodes,oI v55 r46.sites,oS v57 r46.outer,oW v58 r46.inner] [(n1+2,7),(n1+1,6),(n1,5)]:=sp
 have f66:=Sep.oc sp.f1
 have f67:=Sep.oc sp.f2
 have f68:=Sep.oc sp.f3
 have f69:=Sep.oc sp.f4
 simp[hh,m5_1,m6_2,m7_3,f66,f67,f68,f69,-cellsA,-one1,cAx,o1x]
 apply hk'
 refine Runs.cut (fun ρ H n=>∃ (v70 v71 v72 v73 v74:AVal),(ρ 0 = .list false (aSig.map Control.cells)∧ρ 5=pA n1 5∧ρ 6=pA (n1+1) 6∧ρ 7=pA (n1+2) 7∧ρ 10 = .list true (r32.1.map intC)∧ρ 11 = .list true (r32.2.1.map strC)∧ρ 12=bool r32.2.2∧ρ 13=v70∧ρ 14=pA n49 14)∧H (n1,5)=some ⟨6,[bC false aRedex]⟩∧H (n1+1,6)=some ⟨6,[bC false aAgent]⟩∧H (n1+2,7)=some ⟨2,[mC false aM]⟩∧H (n49,14)=some ⟨6,[[int r46.roots,v71,v72,int r46.edges,v73,v74]]⟩∧Sep H n [oE [.c,.c,.c] Control.cells v70 r35,oN v71 r46.nodes,oI v72 r46.sites,oS v73 r46.outer,oW v74 r46.inner] [(n49,14),(n1+2,7),(n1+1,6),(n1,5)]) (by refine⟨v43,v54,v55,v57,v58,?_,?_,?_,?_,?_,sp.var⟩<;>simp[hh,m5_1,m6_2,m7_3,f66,f67,f68,f69,-cellsA,-one1,cAx,o1x]) ?_
 clear hh m5_1 m6_2 m7_3
 rintro ρ H n75 ⟨v70,v71,v72,v73,v74,hh,m5_1,m6_2,m7_3,m14_64,sp⟩
 refine zE fun k' hk'=>?_
 obtain⟨hb76,h⟩:=h
 obtain⟨r77,er77,h⟩:=atm h
 simp[hh,m5_1,m6_2,m7_3,m14_64]
 refine RunK.callW Ty_ok (toBigraph_ok aAgent hb76) e15 (.cons (argB false aAgent) .nil) sp (by decide) (by decide) rfl (by simp[hh,m5_1,m6_2,m7_3,m14_64]) ?_
 rintro v78 H79 n80 _ sp rfl hle82 hfr81
 rw[← er77] at sp
 have m5_1:H79 (n1,5)=some ⟨6,[bC false aRedex]⟩:=(hfr81 _ (by simp)).trans (by simp[hh,m5_1,m6_2,m7_3,m14_64,Heap.get_set])
 have m6_2:H79 (n1+1,6)=some ⟨6,[bC false aAgent]⟩:=(hfr81 _ (by simp)).trans (by simp[hh,m5_1,m6_2,m7_3,m14_64,Heap.get_set])
 have m7_3:H79 (n1+2,7)=some ⟨2,[mC false aM]⟩:=(hfr81 _ (by simp)).trans (by simp[hh,m5_1,m6_2,m7_3,m14_64,Heap.get_set])
 have m14_64:H79 (n49,14)=some ⟨6,[[int r46.roots,v71,v72,int r46.edges,v73,v74]]⟩:=(hfr81 _ (by simp)).trans (by simp[hh,m5_1,m6_2,m7_3,m14_64,Heap.get_set])
 replace sp:=Sep.unpack sp
 obtain⟨L90,hv,hl91,sp⟩:=sp
 subst hv
 obtain⟨v84,v85,v86,v87,v88,v89,hv⟩:=len6 (by simpa using hl91)
 subst hv
 simp only[zip3,List.cons_append,List.nil_append] at sp
 replace sp:=Sep.scalar sp
 obtain⟨hv,sp⟩:=sp
 subst hv
 replace sp:=Sep.rot sp
 try simp only[List.cons_append,List.nil_append,List.append_assoc] at sp
 replace sp:=Sep.rot sp
 try simp only[List.cons_append,List.nil_append,List.append_assoc] at sp
 replace sp:=Sep.scalar sp
 obtain⟨hv,sp⟩:=sp
 subst hv
 replace sp:=Sep.rot sp
 try simp only[List.cons_append,List.nil_append,List.append_assoc] at sp
 replace sp:=Sep.rot sp
 try simp only[List.cons_append,List.nil_append,List.append_assoc] at sp
 replace sp:Sep H79 n80 [oE [.c,.c,.c] Control.cells v70 r35,oN v71 r46.nodes,oI v72 r46.sites,oS v73 r46.outer,oW v74 r46.inner,oN v85 r77.nodes,oI v86 r77.sites,oS v88 r77.outer,oW v89 r77.inner] [(n49,14),(n1+2,7),(n1+1,6),(n1,5)]:=sp
 have f97:=Sep.oc sp.f5
 have f98:=Sep.oc sp.f6
 have f99:=Sep.oc sp.f7
 have f100:=Sep.oc sp.f8
 simp[hh,m5_1,m6_2,m7_3,m14_64,f97,f98,f99,f100,-cellsA,-one1,cAx,o1x]
 apply hk'
 refine Runs.cut (fun ρ H n=>∃ (v101 v102 v103 v104 v105 v106 v107 v108 v109:AVal),(ρ 0 = .list false (aSig.map Control.cells)∧ρ 5=pA n1 5∧ρ 6=pA (n1+1) 6∧ρ 7=pA (n1+2) 7∧ρ 10 = .list true (r32.1.map intC)∧ρ 11 = .list true (r32.2.1.map strC)∧ρ 12=bool r32.2.2∧ρ 13=v101∧ρ 14=pA n49 14∧ρ 15=pA n80 15)∧H (n1,5)=some ⟨6,[bC false aRedex]⟩∧H (n1+1,6)=some ⟨6,[bC false aAgent]⟩∧H (n1+2,7)=some ⟨2,[mC false aM]⟩∧H (n49,14)=some ⟨6,[[int r46.roots,v102,v103,int r46.edges,v104,v105]]⟩∧H (n80,15)=some ⟨6,[[int r77.roots,v106,v107,int r77.edges,v108,v109]]⟩∧Sep H n [oE [.c,.c,.c] Control.cells v101 r35,oN v102 r46.nodes,oI v103 r46.sites,oS v104 r46.outer,oW v105 r46.inner,oN v106 r77.nodes,oI v107 r77.sites,oS v108 r77.outer,oW v109 r77.inner] [(n80,15),(n49,14),(n1+2,7),(n1+1,6),(n1,5)]) (by refine⟨v70,v71,v72,v73,v74,v85,v86,v88,v89,?_,?_,?_,?_,?_,?_,sp.var⟩<;>simp[hh,m5_1,m6_2,m7_3,m14_64,f97,f98,f99,f100,-cellsA,-one1,cAx,o1x]) ?_
 clear hh m5_1 m6_2 m7_3 m14_64
 rintro ρ H n110 ⟨v101,v102,v103,v104,v105,v106,v107,v108,v109,hh,m5_1,m6_2,m7_3,m14_64,m15_95,sp⟩
 refine zE fun k' hk'=>?_
 obtain⟨hb111,h⟩:=h
 obtain⟨r112,er112,h⟩:=atm h
 simp[hh,m5_1,m6_2,m7_3,m14_64,m15_95]
 refine RunK.callW Ty_ok (toMatch_ok aM hb111) e16 (.cons (argM false aM) .nil) sp (by decide) (by decide) rfl (by simp[hh,m5_1,m6_2,m7_3,m14_64,m15_95]) ?_
 rintro v113 H114 n115 _ sp rfl hle117 hfr116
 rw[← er112] at sp
 have m5_1:H114 (n1,5)=some ⟨6,[bC false aRedex]⟩:=(hfr116 _ (by simp)).trans (by simp[hh,m5_1,m6_2,m7_3,m14_64,m15_95,Heap.get_set])
 have m6_2:H114 (n1+1,6)=some ⟨6,[bC false aAgent]⟩:=(hfr116 _ (by simp)).trans (by simp[hh,m5_1,m6_2,m7_3,m14_64,m15_95,Heap.get_set])
 have m7_3:H114 (n1+2,7)=some ⟨2,[mC false aM]⟩:=(hfr116 _ (by simp)).trans (by simp[hh,m5_1,m6_2,m7_3,m14_64,m15_95,Heap.get_set])
 have m14_64:H114 (n49,14)=some ⟨6,[[int r46.roots,v102,v103,int r46.edges,v104,v105]]⟩:=(hfr116 _ (by simp)).trans (by simp[hh,m5_1,m6_2,m7_3,m14_64,m15_95,Heap.get_set])
 have m15_95:H114 (n80,15)=some ⟨6,[[int r77.roots,v106,v107,int r77.edges,v108,v109]]⟩:=(hfr116 _ (by simp)).trans (by simp[hh,m5_1,m6_2,m7_3,m14_64,m15_95,Heap.get_set])
 replace sp:=Sep.unpack sp
 obtain⟨L121,hv,hl122,sp⟩:=sp
 subst hv
 obtain⟨v119,v120,hv⟩:=len2 (by simpa using hl122)
 subst hv
 simp only[zip3,List.cons_append,List.nil_append] at sp
 replace sp:=Sep.rot sp
 try simp only[List.cons_append,List.nil_append,List.append_assoc] at sp
 replace sp:=Sep.rot sp
 try simp only[List.cons_append,List.nil_append,List.append_assoc] at sp
 replace sp:Sep H114 n115 [oE [.c,.c,.c] Control.cells v101 r35,oN v102 r46.nodes,oI v103 r46.sites,oS v104 r46.outer,oW v105 r46.inner,oN v106 r77.nodes,oI v107 r77.sites,oS v108 r77.outer,oW v109 r77.inner,oI v119 r112.nodes,oI v120 r112.roots] [(n80,15),(n49,14),(n1+2,7),(n1+1,6),(n1,5)]:=sp
 have f126:=Sep.oc sp.f9
 have f127:=Sep.oc sp.f10
 simp[hh,m5_1,m6_2,m7_3,m14_64,m15_95,f126,f127,-cellsA,-one1,cAx,o1x]
 apply hk'
 refine Runs.cut (fun ρ H n=>∃ (v128 v129 v130 v131 v132 v133 v134 v135 v136 v137 v138:AVal),(ρ 0 = .list false (aSig.map Control.cells)∧ρ 5=pA n1 5∧ρ 6=pA (n1+1) 6∧ρ 7=pA (n1+2) 7∧ρ 10 = .list true (r32.1.map intC)∧ρ 11 = .list true (r32.2.1.map strC)∧ρ 12=bool r32.2.2∧ρ 13=v128∧ρ 14=pA n49 14∧ρ 15=pA n80 15∧ρ 16=pA n115 16)∧H (n1,5)=some ⟨6,[bC false aRedex]⟩∧H (n1+1,6)=some ⟨6,[bC false aAgent]⟩∧H (n1+2,7)=some ⟨2,[mC false aM]⟩∧H (n49,14)=some ⟨6,[[int r46.roots,v129,v130,int r46.edges,v131,v132]]⟩∧H (n80,15)=some ⟨6,[[int r77.roots,v133,v134,int r77.edges,v135,v136]]⟩∧H (n115,16)=some ⟨2,[[v137,v138]]⟩∧Sep H n [oE [.c,.c,.c] Control.cells v128 r35,oN v129 r46.nodes,oI v130 r46.sites,oS v131 r46.outer,oW v132 r46.inner,oN v133 r77.nodes,oI v134 r77.sites,oS v135 r77.outer,oW v136 r77.inner,oI v137 r112.nodes,oI v138 r112.roots] [(n115,16),(n80,15),(n49,14),(n1+2,7),(n1+1,6),(n1,5)]) (by refine⟨v101,v102,v103,v104,v105,v106,v107,v108,v109,v119,v120,?_,?_,?_,?_,?_,?_,?_,sp.var⟩<;>simp[hh,m5_1,m6_2,m7_3,m14_64,m15_95,f126,f127,-cellsA,-one1,cAx,o1x]) ?_
 clear hh m5_1 m6_2 m7_3 m14_64 m15_95
 rintro ρ H n139 ⟨v128,v129,v130,v131,v132,v133,v134,v135,v136,v137,v138,hh,m5_1,m6_2,m7_3,m14_64,m15_95,m16_124,sp⟩
 refine zE fun k' hk'=>?_
 obtain⟨hb140,h⟩:=h
 obtain⟨r141,er141,h⟩:=atm h
 simp[hh,m5_1,m6_2,m7_3,m14_64,m15_95,m16_124]
 refine RunK.callW Ty_ok (PassedLinks_ok r35 r46 r77 r112 hb140) e35 (.cons (Sep.argOk' sp (old_listF (by simp))) (.cons (ArgOk.agg (.cons (.v _ _ _) (.cons (Sep.argOk' sp.f1 (old_nest_Node true r46.nodes)) (.cons (Sep.argOk' sp.f2 (old_listF (by simp))) (.cons (.v _ _ _) (.cons (Sep.argOk' sp.f3 (old_listF (by simp))) (.cons (Sep.argOk' sp.f4 (old_listF (by simp))) .nil))))))) (.cons (ArgOk.agg (.cons (.v _ _ _) (.cons (Sep.argOk' sp.f5 (old_nest_Node true r77.nodes)) (.cons (Sep.argOk' sp.f6 (old_listF (by simp))) (.cons (.v _ _ _) (.cons (Sep.argOk' sp.f7 (old_listF (by simp))) (.cons (Sep.argOk' sp.f8 (old_listF (by simp))) .nil))))))) (.cons (ArgOk.agg (.cons (Sep.argOk' sp.f9 (old_listF (by simp))) (.cons (Sep.argOk' sp.f10 (old_listF (by simp))) .nil))) .nil)))) sp (by decide) (by decide) rfl (by simp[hh,m5_1,m6_2,m7_3,m14_64,m15_95,m16_124]) ?_
 rintro v142 H143 n144 _ sp rfl hle146 hfr145
 rw[← er141] at sp
 have m5_1:H143 (n1,5)=some ⟨6,[bC false aRedex]⟩:=(hfr145 _ (by simp)).trans (by simp[hh,m5_1,m6_2,m7_3,m14_64,m15_95,m16_124,Heap.get_set])
 have m6_2:H143 (n1+1,6)=some ⟨6,[bC false aAgent]⟩:=(hfr145 _ (by simp)).trans (by simp[hh,m5_1,m6_2,m7_3,m14_64,m15_95,m16_124,Heap.get_set])
 have m7_3:H143 (n1+2,7)=some ⟨2,[mC false aM]⟩:=(hfr145 _ (by simp)).trans (by simp[hh,m5_1,m6_2,m7_3,m14_64,m15_95,m16_124,Heap.get_set])
 have m14_64:H143 (n49,14)=some ⟨6,[[int r46.roots,v129,v130,int r46.edges,v131,v132]]⟩:=(hfr145 _ (by simp)).trans (by simp[hh,m5_1,m6_2,m7_3,m14_64,m15_95,m16_124,Heap.get_set])
 have m15_95:H143 (n80,15)=some ⟨6,[[int r77.roots,v133,v134,int r77.edges,v135,v136]]⟩:=(hfr145 _ (by simp)).trans (by simp[hh,m5_1,m6_2,m7_3,m14_64,m15_95,m16_124,Heap.get_set])
 have m16_124:H143 (n115,16)=some ⟨2,[[v137,v138]]⟩:=(hfr145 _ (by simp)).trans (by simp[hh,m5_1,m6_2,m7_3,m14_64,m15_95,m16_124,Heap.get_set])
 replace sp:=Sep.unpackT sp
 obtain⟨L151,hv,hl152,sp⟩:=sp
 subst hv
 obtain⟨v148,v149,v150,hv⟩:=len3 (by simpa using hl152)
 subst hv
 simp only[zip3,List.cons_append,List.nil_append] at sp
 replace sp:=Sep.rot sp
 try simp only[List.cons_append,List.nil_append,List.append_assoc] at sp
 replace sp:=Sep.rot sp
 try simp only[List.cons_append,List.nil_append,List.append_assoc] at sp
 replace sp:=Sep.scalar sp
 obtain⟨hv,sp⟩:=sp
 subst hv
 replace sp:Sep H143 n144 [oE [.c,.c,.c] Control.cells v128 r35,oN v129 r46.nodes,oI v130 r46.sites,oS v131 r46.outer,oW v132 r46.inner,oN v133 r77.nodes,oI v134 r77.sites,oS v135 r77.outer,oW v136 r77.inner,oI v137 r112.nodes,oI v138 r112.roots,oI v148 r141.1,oS v149 r141.2.1] [(n115,16),(n80,15),(n49,14),(n1+2,7),(n1+1,6),(n1,5)]:=sp
 simp[hh,m5_1,m6_2,m7_3,m14_64,m15_95,m16_124]
 apply hk'
 refine Runs.cut (fun ρ H n=>∃ (v155 v156 v157 v158 v159 v160 v161 v162 v163 v164 v165 v166 v167:AVal),(ρ 0 = .list false (aSig.map Control.cells)∧ρ 5=pA n1 5∧ρ 6=pA (n1+1) 6∧ρ 7=pA (n1+2) 7∧ρ 10 = .list true (r32.1.map intC)∧ρ 11 = .list true (r32.2.1.map strC)∧ρ 12=bool r32.2.2∧ρ 13=v155∧ρ 14=pA n49 14∧ρ 15=pA n80 15∧ρ 16=pA n115 16∧ρ 17=v166∧ρ 18=v167∧ρ 19=bool r141.2.2)∧H (n1,5)=some ⟨6,[bC false aRedex]⟩∧H (n1+1,6)=some ⟨6,[bC false aAgent]⟩∧H (n1+2,7)=some ⟨2,[mC false aM]⟩∧H (n49,14)=some ⟨6,[[int r46.roots,v156,v157,int r46.edges,v158,v159]]⟩∧H (n80,15)=some ⟨6,[[int r77.roots,v160,v161,int r77.edges,v162,v163]]⟩∧H (n115,16)=some ⟨2,[[v164,v165]]⟩∧Sep H n [oE [.c,.c,.c] Control.cells v155 r35,oN v156 r46.nodes,oI v157 r46.sites,oS v158 r46.outer,oW v159 r46.inner,oN v160 r77.nodes,oI v161 r77.sites,oS v162 r77.outer,oW v163 r77.inner,oI v164 r112.nodes,oI v165 r112.roots,oI v166 r141.1,oS v167 r141.2.1] [(n115,16),(n80,15),(n49,14),(n1+2,7),(n1+1,6),(n1,5)]) (by refine⟨v128,v129,v130,v131,v132,v133,v134,v135,v136,v137,v138,v148,v149,?_,?_,?_,?_,?_,?_,?_,sp⟩<;>simp[hh,m5_1,m6_2,m7_3,m14_64,m15_95,m16_124]) ?_
 clear hh m5_1 m6_2 m7_3 m14_64 m15_95 m16_124
 rintro ρ H n168 ⟨v155,v156,v157,v158,v159,v160,v161,v162,v163,v164,v165,v166,v167,hh,m5_1,m6_2,m7_3,m14_64,m15_95,m16_124,sp⟩
 refine Runs.seq ?_
 refine zE fun k' hk'=>?_
 obtain⟨J169,hJ170,hr171⟩:=h
 have fin186:∀ (sJ:Bool) (ρ:Env) (H:Heap) (n:Nat),J169 sJ→(match sJ with | b172=>∃ (v173 v174 v175 v176 v177 v178 v179 v180 v181 v182 v183 v184 v185:AVal),(ρ 0 = .list false (aSig.map Control.cells)∧ρ 5=pA n1 5∧ρ 6=pA (n1+1) 6∧ρ 7=pA (n1+2) 7∧ρ 10 = .list true (r32.1.map intC)∧ρ 11 = .list true (r32.2.1.map strC)∧ρ 12=bool r32.2.2∧ρ 13=v173∧ρ 14=pA n49 14∧ρ 15=pA n80 15∧ρ 16=pA n115 16∧ρ 17=v184∧ρ 18=v185∧ρ 19=bool r141.2.2∧ρ 90=bool b172)∧H (n1,5)=some ⟨6,[bC false aRedex]⟩∧H (n1+1,6)=some ⟨6,[bC false aAgent]⟩∧H (n1+2,7)=some ⟨2,[mC false aM]⟩∧H (n49,14)=some ⟨6,[[int r46.roots,v174,v175,int r46.edges,v176,v177]]⟩∧H (n80,15)=some ⟨6,[[int r77.roots,v178,v179,int r77.edges,v180,v181]]⟩∧H (n115,16)=some ⟨2,[[v182,v183]]⟩∧Sep H n [oE [.c,.c,.c] Control.cells v173 r35,oN v174 r46.nodes,oI v175 r46.sites,oS v176 r46.outer,oW v177 r46.inner,oN v178 r77.nodes,oI v179 r77.sites,oS v180 r77.outer,oW v181 r77.inner,oI v182 r112.nodes,oI v183 r112.roots,oI v184 r141.1,oS v185 r141.2.1] [(n115,16),(n80,15),(n49,14),(n1+2,7),(n1+1,6),(n1,5)])→Runs Tryz.prog 5 202 k' ρ H n Q:=by
  rintro b172 ρ H n187 h ⟨v173,v174,v175,v176,v177,v178,v179,v180,v181,v182,v183,v184,v185,hh,m5_1,m6_2,m7_3,m14_64,m15_95,m16_124,sp⟩
  replace h:=hr171 _ h
  apply hk'
  refine Runs.ite (b:=b172) (by simp[hh,m5_1,m6_2,m7_3,m14_64,m15_95,m16_124]) (fun db172=>?_) (fun db172=>?_)
  ·replace h:=h.1 db172
   refine zE fun k' hk'=>?_
   simp[hh,m5_1,m6_2,m7_3,m14_64,m15_95,m16_124,db172]
   apply hk'
   exact Runs.ret1 (v:=bool false) Tryz.func5 Tryz.results5 (by simp[hh,m5_1,m6_2,m7_3,m14_64,m15_95,m16_124,db172]) (hQ _ _ _ _ (.of (.v _)) ⟨false,h,rfl⟩)
  replace h:=h.2 db172
  refine Runs.skip ?_
  refine Runs.seq ?_
  refine zE fun k' hk'=>?_
  obtain⟨hb188,h⟩:=h
  obtain⟨r189,er189,h⟩:=atm h
  simp[hh,m5_1,m6_2,m7_3,m14_64,m15_95,m16_124,db172]
  refine RunK.callW Ty_ok (toControlS_ok aSig hb188) e12 (.cons (argC false aSig) .nil) sp (by decide) (by decide) rfl (by simp[hh,m5_1,m6_2,m7_3,m14_64,m15_95,m16_124,db172]) ?_
  rintro v190 H191 n192 _ sp rfl hle194 hfr193
  rw[← er189] at sp
  have m5_1:H191 (n1,5)=some ⟨6,[bC false aRedex]⟩:=(hfr193 _ (by simp)).trans (by simp[hh,m5_1,m6_2,m7_3,m14_64,m15_95,m16_124,Heap.get_set])
  have m6_2:H191 (n1+1,6)=some ⟨6,[bC false aAgent]⟩:=(hfr193 _ (by simp)).trans (by simp[hh,m5_1,m6_2,m7_3,m14_64,m15_95,m16_124,Heap.get_set])
  have m7_3:H191 (n1+2,7)=some ⟨2,[mC false aM]⟩:=(hfr193 _ (by simp)).trans (by simp[hh,m5_1,m6_2,m7_3,m14_64,m15_95,m16_124,Heap.get_set])
  have m14_64:H191 (n49,14)=some ⟨6,[[int r46.roots,v174,v175,int r46.edges,v176,v177]]⟩:=(hfr193 _ (by simp)).trans (by simp[hh,m5_1,m6_2,m7_3,m14_64,m15_95,m16_124,Heap.get_set])
  have m15_95:H191 (n80,15)=some ⟨6,[[int r77.roots,v178,v179,int r77.edges,v180,v181]]⟩:=(hfr193 _ (by simp)).trans (by simp[hh,m5_1,m6_2,m7_3,m14_64,m15_95,m16_124,Heap.get_set])
  have m16_124:H191 (n115,16)=some ⟨2,[[v182,v183]]⟩:=(hfr193 _ (by simp)).trans (by simp[hh,m5_1,m6_2,m7_3,m14_64,m15_95,m16_124,Heap.get_set])
  obtain⟨hb197,h⟩:=h
  obtain⟨r198,er198,h⟩:=atm h
  simp[hh,m5_1,m6_2,m7_3,m14_64,m15_95,m16_124,db172]
  refine RunK.callA Ty_ok (eqControlS_ok r35 r189 hb197) e18 (.cons (Sep.argOk' sp.f1 (old_listF (by simp))) (.cons (Sep.argOk' sp (old_listF (by simp))) .nil)) (by decide) (by decide) rfl (by simp[hh,m5_1,m6_2,m7_3,m14_64,m15_95,m16_124,db172]) ?_
  rintro _ rfl
  rw[← er198]
  simp[hh,m5_1,m6_2,m7_3,m14_64,m15_95,m16_124,db172]
  apply hk'
  refine Runs.cut (fun ρ H n=>∃ (v199 v200 v201 v202 v203 v204 v205 v206 v207 v208 v209 v210 v211:AVal),(ρ 0 = .list false (aSig.map Control.cells)∧ρ 5=pA n1 5∧ρ 6=pA (n1+1) 6∧ρ 7=pA (n1+2) 7∧ρ 10 = .list true (r32.1.map intC)∧ρ 11 = .list true (r32.2.1.map strC)∧ρ 12=bool r32.2.2∧ρ 13=v199∧ρ 14=pA n49 14∧ρ 15=pA n80 15∧ρ 16=pA n115 16∧ρ 17=v210∧ρ 18=v211∧ρ 19=bool r141.2.2∧ρ 95=bool (!r198))∧H (n1,5)=some ⟨6,[bC false aRedex]⟩∧H (n1+1,6)=some ⟨6,[bC false aAgent]⟩∧H (n1+2,7)=some ⟨2,[mC false aM]⟩∧H (n49,14)=some ⟨6,[[int r46.roots,v200,v201,int r46.edges,v202,v203]]⟩∧H (n80,15)=some ⟨6,[[int r77.roots,v204,v205,int r77.edges,v206,v207]]⟩∧H (n115,16)=some ⟨2,[[v208,v209]]⟩∧Sep H n [oE [.c,.c,.c] Control.cells v199 r35,oN v200 r46.nodes,oI v201 r46.sites,oS v202 r46.outer,oW v203 r46.inner,oN v204 r77.nodes,oI v205 r77.sites,oS v206 r77.outer,oW v207 r77.inner,oI v208 r112.nodes,oI v209 r112.roots,oI v210 r141.1,oS v211 r141.2.1] [(n115,16),(n80,15),(n49,14),(n1+2,7),(n1+1,6),(n1,5)]) (by refine⟨v173,v174,v175,v176,v177,v178,v179,v180,v181,v182,v183,v184,v185,?_,?_,?_,?_,?_,?_,?_,sp.dr⟩<;>simp[hh,m5_1,m6_2,m7_3,m14_64,m15_95,m16_124,db172]) ?_
  clear hh m5_1 m6_2 m7_3 m14_64 m15_95 m16_124
  rintro ρ H n212 ⟨v199,v200,v201,v202,v203,v204,v205,v206,v207,v208,v209,v210,v211,hh,m5_1,m6_2,m7_3,m14_64,m15_95,m16_124,sp⟩
  refine Runs.ite (b:=(!r198)) (by simp[hh,m5_1,m6_2,m7_3,m14_64,m15_95,m16_124]) (fun dr198=>?_) (fun dr198=>?_)
  ·have dr198:r198=false:=by simpa using dr198
   replace h:=h.2 dr198
   refine zE fun k' hk'=>?_
   simp[hh,m5_1,m6_2,m7_3,m14_64,m15_95,m16_124,dr198]
   apply hk'
   exact Runs.ret1 (v:=bool false) Tryz.func5 Tryz.results5 (by simp[hh,m5_1,m6_2,m7_3,m14_64,m15_95,m16_124,dr198]) (hQ _ _ _ _ (.of (.v _)) ⟨false,h,rfl⟩)
  have dr198:r198=true:=by simpa using dr198
  replace h:=h.1 dr198
  refine Runs.skip ?_
  refine Runs.seq ?_
  refine Runs.seqD Ty_ok kindOp_ok draws (by decide) (by kernel_rfl) fun k' hk'=>?_
  obtain⟨hb213,h⟩:=h
  obtain⟨r214,er214,h⟩:=atm h
  simp[hh,m5_1,m6_2,m7_3,m14_64,m15_95,m16_124,dr198]
  refine RunDK.callA Ty_ok kindOp_ok ((toBigraph_ok aRedex hb213).pure) e15 (.cons (argB false aRedex) .nil) (by decide) rfl (by simp[hh,m5_1,m6_2,m7_3,m14_64,m15_95,m16_124,dr198]) ?_
  rw[← er214]
  obtain⟨hb215,h⟩:=h
  obtain⟨r216,er216,h⟩:=atm h
  simp[hh,m5_1,m6_2,m7_3,m14_64,m15_95,m16_124,dr198]
  refine RunDK.callA Ty_ok kindOp_ok (eqBigraph_ok r46 r214 hb215) e21 (.cons (ArgOk.agg (.cons (.v _ _ _) (.cons (Sep.argOk' sp.f1 (old_nest_Node true r46.nodes)) (.cons (Sep.argOk' sp.f2 (old_listF (by simp))) (.cons (.v _ _ _) (.cons (Sep.argOk' sp.f3 (old_listF (by simp))) (.cons (Sep.argOk' sp.f4 (old_listF (by simp))) .nil))))))) (.cons (argB true r214) .nil)) (by decide) rfl (by simp[hh,m5_1,m6_2,m7_3,m14_64,m15_95,m16_124,dr198]) ?_
  rw[← er216]
  simp[hh,m5_1,m6_2,m7_3,m14_64,m15_95,m16_124,dr198]
  apply hk'
  refine Runs.ite (b:=(!r216)) (by simp[hh,m5_1,m6_2,m7_3,m14_64,m15_95,m16_124,dr198]) (fun dr216=>?_) (fun dr216=>?_)
  ·have dr216:r216=false:=by simpa using dr216
   replace h:=h.2 dr216
   refine zE fun k' hk'=>?_
   simp[hh,m5_1,m6_2,m7_3,m14_64,m15_95,m16_124,dr198,dr216]
   apply hk'
   exact Runs.ret1 (v:=bool false) Tryz.func5 Tryz.results5 (by simp[hh,m5_1,m6_2,m7_3,m14_64,m15_95,m16_124,dr198,dr216]) (hQ _ _ _ _ (.of (.v _)) ⟨false,h,rfl⟩)
  have dr216:r216=true:=by simpa using dr216
  replace h:=h.1 dr216
  refine Runs.skip ?_
  refine Runs.seq ?_
  refine Runs.seqD Ty_ok kindOp_ok draws (by decide) (by kernel_rfl) fun k' hk'=>?_
  obtain⟨hb217,h⟩:=h
  obtain⟨r218,er218,h⟩:=atm h
  simp[hh,m5_1,m6_2,m7_3,m14_64,m15_95,m16_124,dr198,dr216]
  refine RunDK.callA Ty_ok kindOp_ok ((toBigraph_ok aAgent hb217).pure) e15 (.cons (argB false aAgent) .nil) (by decide) rfl (by simp[hh,m5_1,m6_2,m7_3,m14_64,m15_95,m16_124,dr198,dr216]) ?_
  rw[← er218]
  obtain⟨hb219,h⟩:=h
  obtain⟨r220,er220,h⟩:=atm h
  simp[hh,m5_1,m6_2,m7_3,m14_64,m15_95,m16_124,dr198,dr216]
  refine RunDK.callA Ty_ok kindOp_ok (eqBigraph_ok r77 r218 hb219) e21 (.cons (ArgOk.agg (.cons (.v _ _ _) (.cons (Sep.argOk' sp.f5 (old_nest_Node true r77.nodes)) (.cons (Sep.argOk' sp.f6 (old_listF (by simp))) (.cons (.v _ _ _) (.cons (Sep.argOk' sp.f7 (old_listF (by simp))) (.cons (Sep.argOk' sp.f8 (old_listF (by simp))) .nil))))))) (.cons (argB true r218) .nil)) (by decide) rfl (by simp[hh,m5_1,m6_2,m7_3,m14_64,m15_95,m16_124,dr198,dr216]) ?_
  rw[← er220]
  simp[hh,m5_1,m6_2,m7_3,m14_64,m15_95,m16_124,dr198,dr216]
  apply hk'
  refine Runs.ite (b:=(!r220)) (by simp[hh,m5_1,m6_2,m7_3,m14_64,m15_95,m16_124,dr198,dr216]) (fun dr220=>?_) (fun dr220=>?_)
  ·have dr220:r220=false:=by simpa using dr220
   replace h:=h.2 dr220
   refine zE fun k' hk'=>?_
   simp[hh,m5_1,m6_2,m7_3,m14_64,m15_95,m16_124,dr198,dr216,dr220]
   apply hk'
   exact Runs.ret1 (v:=bool false) Tryz.func5 Tryz.results5 (by simp[hh,m5_1,m6_2,m7_3,m14_64,m15_95,m16_124,dr198,dr216,dr220]) (hQ _ _ _ _ (.of (.v _)) ⟨false,h,rfl⟩)
  have dr220:r220=true:=by simpa using dr220
  replace h:=h.1 dr220
  refine Runs.skip ?_
  refine Runs.seq ?_
  refine Runs.seqD Ty_ok kindOp_ok draws (by decide) (by kernel_rfl) fun k' hk'=>?_
  obtain⟨hb221,h⟩:=h
  obtain⟨r222,er222,h⟩:=atm h
  simp[hh,m5_1,m6_2,m7_3,m14_64,m15_95,m16_124,dr198,dr216,dr220]
  refine RunDK.callA Ty_ok kindOp_ok ((toMatch_ok aM hb221).pure) e16 (.cons (argM false aM) .nil) (by decide) rfl (by simp[hh,m5_1,m6_2,m7_3,m14_64,m15_95,m16_124,dr198,dr216,dr220]) ?_
  rw[← er222]
  obtain⟨hb223,h⟩:=h
  obtain⟨r224,er224,h⟩:=atm h
  simp[hh,m5_1,m6_2,m7_3,m14_64,m15_95,m16_124,dr198,dr216,dr220]
  refine RunDK.callA Ty_ok kindOp_ok (eqM_ok r112 r222 hb223) e22 (.cons (ArgOk.agg (.cons (Sep.argOk' sp.f9 (old_listF (by simp))) (.cons (Sep.argOk' sp.f10 (old_listF (by simp))) .nil))) (.cons (argM true r222) .nil)) (by decide) rfl (by simp[hh,m5_1,m6_2,m7_3,m14_64,m15_95,m16_124,dr198,dr216,dr220]) ?_
  rw[← er224]
  simp[hh,m5_1,m6_2,m7_3,m14_64,m15_95,m16_124,dr198,dr216,dr220]
  apply hk'
  refine Runs.cut (fun ρ H n=>∃ (v225 v226 v227 v228 v229 v230 v231 v232 v233 v234 v235 v236 v237:AVal),(ρ 0 = .list false (aSig.map Control.cells)∧ρ 5=pA n1 5∧ρ 6=pA (n1+1) 6∧ρ 7=pA (n1+2) 7∧ρ 10 = .list true (r32.1.map intC)∧ρ 11 = .list true (r32.2.1.map strC)∧ρ 12=bool r32.2.2∧ρ 13=v225∧ρ 14=pA n49 14∧ρ 15=pA n80 15∧ρ 16=pA n115 16∧ρ 17=v236∧ρ 18=v237∧ρ 19=bool r141.2.2∧ρ 110=bool (!r224))∧H (n1,5)=some ⟨6,[bC false aRedex]⟩∧H (n1+1,6)=some ⟨6,[bC false aAgent]⟩∧H (n1+2,7)=some ⟨2,[mC false aM]⟩∧H (n49,14)=some ⟨6,[[int r46.roots,v226,v227,int r46.edges,v228,v229]]⟩∧H (n80,15)=some ⟨6,[[int r77.roots,v230,v231,int r77.edges,v232,v233]]⟩∧H (n115,16)=some ⟨2,[[v234,v235]]⟩∧Sep H n [oE [.c,.c,.c] Control.cells v225 r35,oN v226 r46.nodes,oI v227 r46.sites,oS v228 r46.outer,oW v229 r46.inner,oN v230 r77.nodes,oI v231 r77.sites,oS v232 r77.outer,oW v233 r77.inner,oI v234 r112.nodes,oI v235 r112.roots,oI v236 r141.1,oS v237 r141.2.1] [(n115,16),(n80,15),(n49,14),(n1+2,7),(n1+1,6),(n1,5)]) (by refine⟨v199,v200,v201,v202,v203,v204,v205,v206,v207,v208,v209,v210,v211,?_,?_,?_,?_,?_,?_,?_,sp⟩<;>simp[hh,m5_1,m6_2,m7_3,m14_64,m15_95,m16_124,dr198,dr216,dr220]) ?_
  clear hh m5_1 m6_2 m7_3 m14_64 m15_95 m16_124
  rintro ρ H n238 ⟨v225,v226,v227,v228,v229,v230,v231,v232,v233,v234,v235,v236,v237,hh,m5_1,m6_2,m7_3,m14_64,m15_95,m16_124,sp⟩
  refine Runs.ite (b:=(!r224)) (by simp[hh,m5_1,m6_2,m7_3,m14_64,m15_95,m16_124]) (fun dr224=>?_) (fun dr224=>?_)
  ·have dr224:r224=false:=by simpa using dr224
   replace h:=h.2 dr224
   refine zE fun k' hk'=>?_
   simp[hh,m5_1,m6_2,m7_3,m14_64,m15_95,m16_124,dr224]
   apply hk'
   exact Runs.ret1 (v:=bool false) Tryz.func5 Tryz.results5 (by simp[hh,m5_1,m6_2,m7_3,m14_64,m15_95,m16_124,dr224]) (hQ _ _ _ _ (.of (.v _)) ⟨false,h,rfl⟩)
  have dr224:r224=true:=by simpa using dr224
  replace h:=h.1 dr224
  refine Runs.skip ?_
  refine zE fun k' hk'=>?_
  simp[hh,m5_1,m6_2,m7_3,m14_64,m15_95,m16_124,dr224]
  apply hk'
  refine zE fun k' hk'=>?_
  obtain⟨hb239,h⟩:=h
  obtain⟨r240,er240,h⟩:=atm h
  have f241:=Sep.oc sp
  simp[hh,m5_1,m6_2,m7_3,m14_64,m15_95,m16_124,f241,dr224,-cellsA,-one1,cAx,o1x]
  refine RunK.callM (v:=v225) Ty_ok (markControlS_ok r35 1 hb239) e29 sp (by decide) (by decide) rfl (by simp[hh,m5_1,m6_2,m7_3,m14_64,m15_95,m16_124,f241,dr224,-cellsA,-one1,cAx,o1x]) ?_
  rintro _ H242 n243 _ ⟨rfl,rfl⟩ sp hle245 hfr244
  rw[← er240] at sp
  rw[← er240]
  replace sp:Sep H242 n243 [oE [.c,.c,.c] Control.cells v225 r240.1,oN v226 r46.nodes,oI v227 r46.sites,oS v228 r46.outer,oW v229 r46.inner,oN v230 r77.nodes,oI v231 r77.sites,oS v232 r77.outer,oW v233 r77.inner,oI v234 r112.nodes,oI v235 r112.roots,oI v236 r141.1,oS v237 r141.2.1] [(n115,16),(n80,15),(n49,14),(n1+2,7),(n1+1,6),(n1,5)]:=sp
  have m5_1:H242 (n1,5)=some ⟨6,[bC false aRedex]⟩:=(hfr244 _ (by simp)).trans (by simp[hh,m5_1,m6_2,m7_3,m14_64,m15_95,m16_124,Heap.get_set])
  have m6_2:H242 (n1+1,6)=some ⟨6,[bC false aAgent]⟩:=(hfr244 _ (by simp)).trans (by simp[hh,m5_1,m6_2,m7_3,m14_64,m15_95,m16_124,Heap.get_set])
  have m7_3:H242 (n1+2,7)=some ⟨2,[mC false aM]⟩:=(hfr244 _ (by simp)).trans (by simp[hh,m5_1,m6_2,m7_3,m14_64,m15_95,m16_124,Heap.get_set])
  have m14_64:H242 (n49,14)=some ⟨6,[[int r46.roots,v226,v227,int r46.edges,v228,v229]]⟩:=(hfr244 _ (by simp)).trans (by simp[hh,m5_1,m6_2,m7_3,m14_64,m15_95,m16_124,Heap.get_set])
  have m15_95:H242 (n80,15)=some ⟨6,[[int r77.roots,v230,v231,int r77.edges,v232,v233]]⟩:=(hfr244 _ (by simp)).trans (by simp[hh,m5_1,m6_2,m7_3,m14_64,m15_95,m16_124,Heap.get_set])
  have m16_124:H242 (n115,16)=some ⟨2,[[v234,v235]]⟩:=(hfr244 _ (by simp)).trans (by simp[hh,m5_1,m6_2,m7_3,m14_64,m15_95,m16_124,Heap.get_set])
  simp[hh,m5_1,m6_2,m7_3,m14_64,m15_95,m16_124,f241,dr224,-cellsA,-one1,cAx,o1x]
  apply hk'
  refine Runs.cut (fun ρ H n=>∃ (v247 v248 v249 v250 v251 v252 v253 v254 v255 v256 v257 v258:AVal),(ρ 0 = .list false (aSig.map Control.cells)∧ρ 5=pA n1 5∧ρ 6=pA (n1+1) 6∧ρ 7=pA (n1+2) 7∧ρ 10 = .list true (r32.1.map intC)∧ρ 11 = .list true (r32.2.1.map strC)∧ρ 12=bool r32.2.2∧ρ 14=pA n49 14∧ρ 15=pA n80 15∧ρ 16=pA n115 16∧ρ 17=v257∧ρ 18=v258∧ρ 19=bool r141.2.2∧ρ 20=int r240.2)∧H (n1,5)=some ⟨6,[bC false aRedex]⟩∧H (n1+1,6)=some ⟨6,[bC false aAgent]⟩∧H (n1+2,7)=some ⟨2,[mC false aM]⟩∧H (n49,14)=some ⟨6,[[int r46.roots,v247,v248,int r46.edges,v249,v250]]⟩∧H (n80,15)=some ⟨6,[[int r77.roots,v251,v252,int r77.edges,v253,v254]]⟩∧H (n115,16)=some ⟨2,[[v255,v256]]⟩∧Sep H n [oN v247 r46.nodes,oI v248 r46.sites,oS v249 r46.outer,oW v250 r46.inner,oN v251 r77.nodes,oI v252 r77.sites,oS v253 r77.outer,oW v254 r77.inner,oI v255 r112.nodes,oI v256 r112.roots,oI v257 r141.1,oS v258 r141.2.1] [(n115,16),(n80,15),(n49,14),(n1+2,7),(n1+1,6),(n1,5)]) (by refine⟨v226,v227,v228,v229,v230,v231,v232,v233,v234,v235,v236,v237,?_,?_,?_,?_,?_,?_,?_,sp.dr⟩<;>simp[hh,m5_1,m6_2,m7_3,m14_64,m15_95,m16_124,f241,dr224,-cellsA,-one1,cAx,o1x]) ?_
  clear hh m5_1 m6_2 m7_3 m14_64 m15_95 m16_124
  rintro ρ H n259 ⟨v247,v248,v249,v250,v251,v252,v253,v254,v255,v256,v257,v258,hh,m5_1,m6_2,m7_3,m14_64,m15_95,m16_124,sp⟩
  refine zE fun k' hk'=>?_
  obtain⟨hb260,h⟩:=h
  obtain⟨r261,er261,h⟩:=atm h
  have f262:=Sep.oc sp
  have f263:=Sep.oc sp.f1
  have f264:=Sep.oc sp.f2
  have f265:=Sep.oc sp.f3
  simp[hh,m5_1,m6_2,m7_3,m14_64,m15_95,m16_124,f262,f263,f264,f265,-cellsA,-one1,cAx,o1x]
  refine RunK.callM (v:=.agg [int r46.roots,v247,v248,int r46.edges,v249,v250]) Ty_ok (markBig_ok r46 r240.2 hb260) e31 (Sep.pack (Fill.v _ (Fill.own (Fill.own (Fill.v _ (Fill.own (Fill.own Fill.nil)))))) sp) (by decide) (by decide) rfl (by simp[hh,m5_1,m6_2,m7_3,m14_64,m15_95,m16_124,f262,f263,f264,f265,-cellsA,-one1,cAx,o1x]) ?_
  rintro _ H266 n267 _ ⟨rfl,rfl⟩ sp hle269 hfr268
  rw[← er261] at sp
  rw[← er261]
  replace sp:=Sep.unpack sp
  obtain⟨L270,hv,hl271,sp⟩:=sp
  cases hv
  simp only[zip3,List.cons_append,List.nil_append] at sp
  replace sp:=(Sep.scalar sp).2
  replace sp:=Sep.rot sp
  try simp only[List.cons_append,List.nil_append,List.append_assoc] at sp
  replace sp:=Sep.rot sp
  try simp only[List.cons_append,List.nil_append,List.append_assoc] at sp
  replace sp:=(Sep.scalar sp).2
  replace sp:=Sep.rot sp
  try simp only[List.cons_append,List.nil_append,List.append_assoc] at sp
  replace sp:=Sep.rot sp
  try simp only[List.cons_append,List.nil_append,List.append_assoc] at sp
  replace sp:Sep H266 n267 [oN v251 r77.nodes,oI v252 r77.sites,oS v253 r77.outer,oW v254 r77.inner,oI v255 r112.nodes,oI v256 r112.roots,oI v257 r141.1,oS v258 r141.2.1,oN v247 r261.1.nodes,oI v248 r261.1.sites,oS v249 r261.1.outer,oW v250 r261.1.inner] [(n115,16),(n80,15),(n49,14),(n1+2,7),(n1+1,6),(n1,5)]:=sp
  have m5_1:H266 (n1,5)=some ⟨6,[bC false aRedex]⟩:=(hfr268 _ (by simp)).trans (by simp[hh,m5_1,m6_2,m7_3,m14_64,m15_95,m16_124,Heap.get_set])
  have m6_2:H266 (n1+1,6)=some ⟨6,[bC false aAgent]⟩:=(hfr268 _ (by simp)).trans (by simp[hh,m5_1,m6_2,m7_3,m14_64,m15_95,m16_124,Heap.get_set])
  have m7_3:H266 (n1+2,7)=some ⟨2,[mC false aM]⟩:=(hfr268 _ (by simp)).trans (by simp[hh,m5_1,m6_2,m7_3,m14_64,m15_95,m16_124,Heap.get_set])
  have m14_64:H266 (n49,14)=some ⟨6,[[int r46.roots,v247,v248,int r46.edges,v249,v250]]⟩:=(hfr268 _ (by simp)).trans (by simp[hh,m5_1,m6_2,m7_3,m14_64,m15_95,m16_124,Heap.get_set])
  have m15_95:H266 (n80,15)=some ⟨6,[[int r77.roots,v251,v252,int r77.edges,v253,v254]]⟩:=(hfr268 _ (by simp)).trans (by simp[hh,m5_1,m6_2,m7_3,m14_64,m15_95,m16_124,Heap.get_set])
  have m16_124:H266 (n115,16)=some ⟨2,[[v255,v256]]⟩:=(hfr268 _ (by simp)).trans (by simp[hh,m5_1,m6_2,m7_3,m14_64,m15_95,m16_124,Heap.get_set])
  simp[hh,m5_1,m6_2,m7_3,m14_64,m15_95,m16_124,f262,f263,f264,f265,-cellsA,-one1,cAx,o1x]
  apply hk'
  refine Runs.cut (fun ρ H n=>∃ (v273 v274 v275 v276 v277 v278 v279 v280:AVal),(ρ 0 = .list false (aSig.map Control.cells)∧ρ 5=pA n1 5∧ρ 6=pA (n1+1) 6∧ρ 7=pA (n1+2) 7∧ρ 10 = .list true (r32.1.map intC)∧ρ 11 = .list true (r32.2.1.map strC)∧ρ 12=bool r32.2.2∧ρ 15=pA n80 15∧ρ 16=pA n115 16∧ρ 17=v279∧ρ 18=v280∧ρ 19=bool r141.2.2∧ρ 20=int r261.2)∧H (n1,5)=some ⟨6,[bC false aRedex]⟩∧H (n1+1,6)=some ⟨6,[bC false aAgent]⟩∧H (n1+2,7)=some ⟨2,[mC false aM]⟩∧H (n80,15)=some ⟨6,[[int r77.roots,v273,v274,int r77.edges,v275,v276]]⟩∧H (n115,16)=some ⟨2,[[v277,v278]]⟩∧Sep H n [oN v273 r77.nodes,oI v274 r77.sites,oS v275 r77.outer,oW v276 r77.inner,oI v277 r112.nodes,oI v278 r112.roots,oI v279 r141.1,oS v280 r141.2.1] [(n115,16),(n80,15),(n1+2,7),(n1+1,6),(n1,5)]) (by refine⟨v251,v252,v253,v254,v255,v256,v257,v258,?_,?_,?_,?_,?_,?_,(Sep.sub sp.f8.dr.f8.dr.f8.dr.f8.dr (by simp +contextual))⟩<;>simp[hh,m5_1,m6_2,m7_3,m14_64,m15_95,m16_124,f262,f263,f264,f265,-cellsA,-one1,cAx,o1x]) ?_
  clear hh m5_1 m6_2 m7_3 m14_64 m15_95 m16_124
  rintro ρ H n281 ⟨v273,v274,v275,v276,v277,v278,v279,v280,hh,m5_1,m6_2,m7_3,m15_95,m16_124,sp⟩
  refine zE fun k' hk'=>?_
  obtain⟨hb282,h⟩:=h
  obtain⟨r283,er283,h⟩:=atm h
  have f284:=Sep.oc sp
  have f285:=Sep.oc sp.f1
  have f286:=Sep.oc sp.f2
  have f287:=Sep.oc sp.f3
  simp[hh,m5_1,m6_2,m7_3,m15_95,m16_124,f284,f285,f286,f287,-cellsA,-one1,cAx,o1x]
  refine RunK.callM (v:=.agg [int r77.roots,v273,v274,int r77.edges,v275,v276]) Ty_ok (markBig_ok r77 r261.2 hb282) e31 (Sep.pack (Fill.v _ (Fill.own (Fill.own (Fill.v _ (Fill.own (Fill.own Fill.nil)))))) sp) (by decide) (by decide) rfl (by simp[hh,m5_1,m6_2,m7_3,m15_95,m16_124,f284,f285,f286,f287,-cellsA,-one1,cAx,o1x]) ?_
  rintro _ H288 n289 _ ⟨rfl,rfl⟩ sp hle291 hfr290
  rw[← er283] at sp
  rw[← er283]
  replace sp:=Sep.unpack sp
  obtain⟨L292,hv,hl293,sp⟩:=sp
  cases hv
  simp only[zip3,List.cons_append,List.nil_append] at sp
  replace sp:=(Sep.scalar sp).2
  replace sp:=Sep.rot sp
  try simp only[List.cons_append,List.nil_append,List.append_assoc] at sp
  replace sp:=Sep.rot sp
  try simp only[List.cons_append,List.nil_append,List.append_assoc] at sp
  replace sp:=(Sep.scalar sp).2
  replace sp:=Sep.rot sp
  try simp only[List.cons_append,List.nil_append,List.append_assoc] at sp
  replace sp:=Sep.rot sp
  try simp only[List.cons_append,List.nil_append,List.append_assoc] at sp
  replace sp:Sep H288 n289 [oI v277 r112.nodes,oI v278 r112.roots,oI v279 r141.1,oS v280 r141.2.1,oN v273 r283.1.nodes,oI v274 r283.1.sites,oS v275 r283.1.outer,oW v276 r283.1.inner] [(n115,16),(n80,15),(n1+2,7),(n1+1,6),(n1,5)]:=sp
  have m5_1:H288 (n1,5)=some ⟨6,[bC false aRedex]⟩:=(hfr290 _ (by simp)).trans (by simp[hh,m5_1,m6_2,m7_3,m15_95,m16_124,Heap.get_set])
  have m6_2:H288 (n1+1,6)=some ⟨6,[bC false aAgent]⟩:=(hfr290 _ (by simp)).trans (by simp[hh,m5_1,m6_2,m7_3,m15_95,m16_124,Heap.get_set])
  have m7_3:H288 (n1+2,7)=some ⟨2,[mC false aM]⟩:=(hfr290 _ (by simp)).trans (by simp[hh,m5_1,m6_2,m7_3,m15_95,m16_124,Heap.get_set])
  have m15_95:H288 (n80,15)=some ⟨6,[[int r77.roots,v273,v274,int r77.edges,v275,v276]]⟩:=(hfr290 _ (by simp)).trans (by simp[hh,m5_1,m6_2,m7_3,m15_95,m16_124,Heap.get_set])
  have m16_124:H288 (n115,16)=some ⟨2,[[v277,v278]]⟩:=(hfr290 _ (by simp)).trans (by simp[hh,m5_1,m6_2,m7_3,m15_95,m16_124,Heap.get_set])
  simp[hh,m5_1,m6_2,m7_3,m15_95,m16_124,f284,f285,f286,f287,-cellsA,-one1,cAx,o1x]
  apply hk'
  refine Runs.cut (fun ρ H n=>∃ (v295 v296 v297 v298:AVal),(ρ 0 = .list false (aSig.map Control.cells)∧ρ 5=pA n1 5∧ρ 6=pA (n1+1) 6∧ρ 7=pA (n1+2) 7∧ρ 10 = .list true (r32.1.map intC)∧ρ 11 = .list true (r32.2.1.map strC)∧ρ 12=bool r32.2.2∧ρ 16=pA n115 16∧ρ 17=v297∧ρ 18=v298∧ρ 19=bool r141.2.2∧ρ 20=int r283.2)∧H (n1,5)=some ⟨6,[bC false aRedex]⟩∧H (n1+1,6)=some ⟨6,[bC false aAgent]⟩∧H (n1+2,7)=some ⟨2,[mC false aM]⟩∧H (n115,16)=some ⟨2,[[v295,v296]]⟩∧Sep H n [oI v295 r112.nodes,oI v296 r112.roots,oI v297 r141.1,oS v298 r141.2.1] [(n115,16),(n1+2,7),(n1+1,6),(n1,5)]) (by refine⟨v277,v278,v279,v280,?_,?_,?_,?_,?_,(Sep.sub sp.f4.dr.f4.dr.f4.dr.f4.dr (by simp +contextual))⟩<;>simp[hh,m5_1,m6_2,m7_3,m15_95,m16_124,f284,f285,f286,f287,-cellsA,-one1,cAx,o1x]) ?_
  clear hh m5_1 m6_2 m7_3 m15_95 m16_124
  rintro ρ H n299 ⟨v295,v296,v297,v298,hh,m5_1,m6_2,m7_3,m16_124,sp⟩
  refine zE fun k' hk'=>?_
  obtain⟨hb300,h⟩:=h
  obtain⟨r301,er301,h⟩:=atm h
  have f302:=Sep.oc sp
  have f303:=Sep.oc sp.f1
  simp[hh,m5_1,m6_2,m7_3,m16_124,f302,f303,-cellsA,-one1,cAx,o1x]
  refine RunK.callM (v:=.agg [v295,v296]) Ty_ok (markMatch_ok r112 r283.2 hb300) e37 (Sep.pack (Fill.own (Fill.own Fill.nil)) sp) (by decide) (by decide) rfl (by simp[hh,m5_1,m6_2,m7_3,m16_124,f302,f303,-cellsA,-one1,cAx,o1x]) ?_
  rintro _ H304 n305 _ ⟨rfl,rfl⟩ sp hle307 hfr306
  rw[← er301] at sp
  rw[← er301]
  replace sp:=Sep.unpack sp
  obtain⟨L308,hv,hl309,sp⟩:=sp
  cases hv
  simp only[zip3,List.cons_append,List.nil_append] at sp
  replace sp:=Sep.rot sp
  try simp only[List.cons_append,List.nil_append,List.append_assoc] at sp
  replace sp:=Sep.rot sp
  try simp only[List.cons_append,List.nil_append,List.append_assoc] at sp
  replace sp:Sep H304 n305 [oI v297 r141.1,oS v298 r141.2.1,oI v295 r301.1.nodes,oI v296 r301.1.roots] [(n115,16),(n1+2,7),(n1+1,6),(n1,5)]:=sp
  have m5_1:H304 (n1,5)=some ⟨6,[bC false aRedex]⟩:=(hfr306 _ (by simp)).trans (by simp[hh,m5_1,m6_2,m7_3,m16_124,Heap.get_set])
  have m6_2:H304 (n1+1,6)=some ⟨6,[bC false aAgent]⟩:=(hfr306 _ (by simp)).trans (by simp[hh,m5_1,m6_2,m7_3,m16_124,Heap.get_set])
  have m7_3:H304 (n1+2,7)=some ⟨2,[mC false aM]⟩:=(hfr306 _ (by simp)).trans (by simp[hh,m5_1,m6_2,m7_3,m16_124,Heap.get_set])
  have m16_124:H304 (n115,16)=some ⟨2,[[v295,v296]]⟩:=(hfr306 _ (by simp)).trans (by simp[hh,m5_1,m6_2,m7_3,m16_124,Heap.get_set])
  simp[hh,m5_1,m6_2,m7_3,m16_124,f302,f303,-cellsA,-one1,cAx,o1x]
  apply hk'
  refine Runs.cut (fun ρ H n=>∃ (v311 v312:AVal),(ρ 0 = .list false (aSig.map Control.cells)∧ρ 5=pA n1 5∧ρ 6=pA (n1+1) 6∧ρ 7=pA (n1+2) 7∧ρ 10 = .list true (r32.1.map intC)∧ρ 11 = .list true (r32.2.1.map strC)∧ρ 12=bool r32.2.2∧ρ 17=v311∧ρ 18=v312∧ρ 19=bool r141.2.2∧ρ 20=int r301.2)∧H (n1,5)=some ⟨6,[bC false aRedex]⟩∧H (n1+1,6)=some ⟨6,[bC false aAgent]⟩∧H (n1+2,7)=some ⟨2,[mC false aM]⟩∧Sep H n [oI v311 r141.1,oS v312 r141.2.1] [(n1+2,7),(n1+1,6),(n1,5)]) (by refine⟨v297,v298,?_,?_,?_,?_,(Sep.sub sp.f2.dr.f2.dr (by simp +contextual))⟩<;>simp[hh,m5_1,m6_2,m7_3,m16_124,f302,f303,-cellsA,-one1,cAx,o1x]) ?_
  clear hh m5_1 m6_2 m7_3 m16_124
  rintro ρ H n313 ⟨v311,v312,hh,m5_1,m6_2,m7_3,sp⟩
  refine Runs.seq ?_
  refine zE fun k' hk'=>?_
  obtain⟨J314,hJ315,hr316⟩:=h
  have fin320:∀ (sJ:Bool) (ρ:Env) (H:Heap) (n:Nat),J314 sJ→(match sJ with | b317=>∃ (v318 v319:AVal),(ρ 0 = .list false (aSig.map Control.cells)∧ρ 5=pA n1 5∧ρ 6=pA (n1+1) 6∧ρ 7=pA (n1+2) 7∧ρ 10 = .list true (r32.1.map intC)∧ρ 11 = .list true (r32.2.1.map strC)∧ρ 12=bool r32.2.2∧ρ 17=v318∧ρ 18=v319∧ρ 141=bool b317)∧H (n1,5)=some ⟨6,[bC false aRedex]⟩∧H (n1+1,6)=some ⟨6,[bC false aAgent]⟩∧H (n1+2,7)=some ⟨2,[mC false aM]⟩∧Sep H n [oI v318 r141.1,oS v319 r141.2.1] [(n1+2,7),(n1+1,6),(n1,5)])→Runs Tryz.prog 5 202 k' ρ H n Q:=by
   rintro b317 ρ H n321 h ⟨v318,v319,hh,m5_1,m6_2,m7_3,sp⟩
   replace h:=hr316 _ h
   apply hk'
   refine Runs.ite (b:=b317) (by simp[hh,m5_1,m6_2,m7_3]) (fun db317=>?_) (fun db317=>?_)
   ·replace h:=h.1 db317
    refine zE fun k' hk'=>?_
    simp[hh,m5_1,m6_2,m7_3,db317]
    apply hk'
    exact Runs.ret1 (v:=bool false) Tryz.func5 Tryz.results5 (by simp[hh,m5_1,m6_2,m7_3,db317]) (hQ _ _ _ _ (.of (.v _)) ⟨false,h,rfl⟩)
   replace h:=h.2 db317
   refine Runs.skip ?_
   refine zE fun k' hk'=>?_
   simp[hh,m5_1,m6_2,m7_3,db317]
   apply hk'
   refine zE fun k' hk'=>?_
   obtain⟨hb322,h⟩:=h
   obtain⟨r323,er323,h⟩:=atm h
   have f324:=Sep.oc sp
   simp[hh,m5_1,m6_2,m7_3,f324,db317,-cellsA,-one1,cAx,o1x]
   refine RunK.callM (v:=v318) Ty_ok (markIntS_ok r141.1 1 hb322) e32 sp (by decide) (by decide) rfl (by simp[hh,m5_1,m6_2,m7_3,f324,db317,-cellsA,-one1,cAx,o1x]) ?_
   rintro _ H325 n326 _ ⟨rfl,rfl⟩ sp hle328 hfr327
   rw[← er323] at sp
   rw[← er323]
   replace sp:Sep H325 n326 [oI v318 r323.1,oS v319 r141.2.1] [(n1+2,7),(n1+1,6),(n1,5)]:=sp
   have m5_1:H325 (n1,5)=some ⟨6,[bC false aRedex]⟩:=(hfr327 _ (by simp)).trans (by simp[hh,m5_1,m6_2,m7_3,Heap.get_set])
   have m6_2:H325 (n1+1,6)=some ⟨6,[bC false aAgent]⟩:=(hfr327 _ (by simp)).trans (by simp[hh,m5_1,m6_2,m7_3,Heap.get_set])
   have m7_3:H325 (n1+2,7)=some ⟨2,[mC false aM]⟩:=(hfr327 _ (by simp)).trans (by simp[hh,m5_1,m6_2,m7_3,Heap.get_set])
   simp[hh,m5_1,m6_2,m7_3,f324,db317,-cellsA,-one1,cAx,o1x]
   apply hk'
   refine Runs.cut (fun ρ H n=>∃ (v330 v331:AVal),(ρ 0 = .list false (aSig.map Control.cells)∧ρ 5=pA n1 5∧ρ 6=pA (n1+1) 6∧ρ 7=pA (n1+2) 7∧ρ 10 = .list true (r32.1.map intC)∧ρ 11 = .list true (r32.2.1.map strC)∧ρ 12=bool r32.2.2∧ρ 17=v330∧ρ 18=v331∧ρ 21=int r323.2)∧H (n1,5)=some ⟨6,[bC false aRedex]⟩∧H (n1+1,6)=some ⟨6,[bC false aAgent]⟩∧H (n1+2,7)=some ⟨2,[mC false aM]⟩∧Sep H n [oI v330 r323.1,oS v331 r141.2.1] [(n1+2,7),(n1+1,6),(n1,5)]) (by refine⟨v318,v319,?_,?_,?_,?_,sp⟩<;>simp[hh,m5_1,m6_2,m7_3,f324,db317,-cellsA,-one1,cAx,o1x]) ?_
   clear hh m5_1 m6_2 m7_3
   rintro ρ H n332 ⟨v330,v331,hh,m5_1,m6_2,m7_3,sp⟩
   refine zE fun k' hk'=>?_
   obtain⟨hb333,h⟩:=h
   obtain⟨r334,er334,h⟩:=atm h
   have f335:=Sep.oc sp.f1
   simp[hh,m5_1,m6_2,m7_3,f335,-cellsA,-one1,cAx,o1x]
   refine RunK.callM (v:=v331) Ty_ok (markStringS_ok r141.2.1 r323.2 hb333) e38 sp.f1 (by decide) (by decide) rfl (by simp[hh,m5_1,m6_2,m7_3,f335,-cellsA,-one1,cAx,o1x]) ?_
   rintro _ H336 n337 _ ⟨rfl,rfl⟩ sp hle339 hfr338
   rw[← er334] at sp
   rw[← er334]
   replace sp:Sep H336 n337 [oS v331 r334.1,oI v330 r323.1] [(n1+2,7),(n1+1,6),(n1,5)]:=sp
   have m5_1:H336 (n1,5)=some ⟨6,[bC false aRedex]⟩:=(hfr338 _ (by simp)).trans (by simp[hh,m5_1,m6_2,m7_3,Heap.get_set])
   have m6_2:H336 (n1+1,6)=some ⟨6,[bC false aAgent]⟩:=(hfr338 _ (by simp)).trans (by simp[hh,m5_1,m6_2,m7_3,Heap.get_set])
   have m7_3:H336 (n1+2,7)=some ⟨2,[mC false aM]⟩:=(hfr338 _ (by simp)).trans (by simp[hh,m5_1,m6_2,m7_3,Heap.get_set])
   simp[hh,m5_1,m6_2,m7_3,f335,-cellsA,-one1,cAx,o1x]
   apply hk'
   refine Runs.cut (fun ρ H n=>∃ (v341 v342:AVal),(ρ 0 = .list false (aSig.map Control.cells)∧ρ 5=pA n1 5∧ρ 6=pA (n1+1) 6∧ρ 7=pA (n1+2) 7∧ρ 10 = .list true (r32.1.map intC)∧ρ 11 = .list true (r32.2.1.map strC)∧ρ 12=bool r32.2.2∧ρ 17=v342∧ρ 18=v341∧ρ 21=int r334.2)∧H (n1,5)=some ⟨6,[bC false aRedex]⟩∧H (n1+1,6)=some ⟨6,[bC false aAgent]⟩∧H (n1+2,7)=some ⟨2,[mC false aM]⟩∧Sep H n [oS v341 r334.1,oI v342 r323.1] [(n1+2,7),(n1+1,6),(n1,5)]) (by refine⟨v331,v330,?_,?_,?_,?_,sp⟩<;>simp[hh,m5_1,m6_2,m7_3,f335,-cellsA,-one1,cAx,o1x]) ?_
   clear hh m5_1 m6_2 m7_3
   rintro ρ H n343 ⟨v341,v342,hh,m5_1,m6_2,m7_3,sp⟩
   refine zE fun k' hk'=>?_
   simp[hh,m5_1,m6_2,m7_3]
   apply hk'
   refine zE fun k' hk'=>?_
   obtain⟨hb344,h⟩:=h
   obtain⟨r345,er345,h⟩:=atm h
   simp[hh,m5_1,m6_2,m7_3]
   refine RunK.callA Ty_ok (heldIntS_ok r323.1 1 hb344) e33 (.cons (Sep.argOk' sp.f1 (old_listF (by simp))) (.cons (.v _ _ _) .nil)) (by decide) (by decide) rfl (by simp[hh,m5_1,m6_2,m7_3]) ?_
   rintro _ rfl
   rw[← er345]
   simp[hh,m5_1,m6_2,m7_3]
   apply hk'
   refine Runs.seq ?_
   refine zE fun k' hk'=>?_
   obtain⟨c346,ec346,h⟩:=atm h
   have f347:=ib_lss (k:=.i64) ec346
   simp[hh,m5_1,m6_2,m7_3,f347,-intBin]
   apply hk'
   refine Runs.ite (b:=c346) (by simp[hh,m5_1,m6_2,m7_3]) (fun dc346=>?_) (fun dc346=>?_)
   ·replace h:=h.1 dc346
    refine zE fun k' hk'=>?_
    simp[hh,m5_1,m6_2,m7_3,dc346]
    apply hk'
    exact Runs.ret1 (v:=bool false) Tryz.func5 Tryz.results5 (by simp[hh,m5_1,m6_2,m7_3,dc346]) (hQ _ _ _ _ (.of (.v _)) ⟨false,h,rfl⟩)
   replace h:=h.2 dc346
   refine Runs.skip ?_
   refine zE fun k' hk'=>?_
   obtain⟨hb348,h⟩:=h
   obtain⟨r349,er349,h⟩:=atm h
   simp[hh,m5_1,m6_2,m7_3,dc346]
   refine RunK.callA Ty_ok (heldStringS_ok r334.1 r345 hb348) e39 (.cons (Sep.argOk' sp (old_listF (by simp))) (.cons (.v _ _ _) .nil)) (by decide) (by decide) rfl (by simp[hh,m5_1,m6_2,m7_3,dc346]) ?_
   rintro _ rfl
   rw[← er349]
   simp[hh,m5_1,m6_2,m7_3,dc346]
   apply hk'
   refine Runs.seq ?_
   refine zE fun k' hk'=>?_
   obtain⟨c350,ec350,h⟩:=atm h
   have f351:=ib_lss (k:=.i64) ec350
   simp[hh,m5_1,m6_2,m7_3,f351,dc346,-intBin]
   apply hk'
   refine Runs.ite (b:=c350) (by simp[hh,m5_1,m6_2,m7_3,dc346]) (fun dc350=>?_) (fun dc350=>?_)
   ·replace h:=h.1 dc350
    refine zE fun k' hk'=>?_
    simp[hh,m5_1,m6_2,m7_3,dc346,dc350]
    apply hk'
    exact Runs.ret1 (v:=bool false) Tryz.func5 Tryz.results5 (by simp[hh,m5_1,m6_2,m7_3,dc346,dc350]) (hQ _ _ _ _ (.of (.v _)) ⟨false,h,rfl⟩)
   replace h:=h.2 dc350
   refine Runs.skip ?_
   refine Runs.seq ?_
   refine zE fun k' hk'=>?_
   obtain⟨c352,ec352,h⟩:=atm h
   have f353:=ib_neq (k:=.i64) ec352
   simp[hh,m5_1,m6_2,m7_3,f353,dc346,dc350,-intBin]
   apply hk'
   refine Runs.cut (fun ρ H n=>∃ (v354 v355:AVal),(ρ 0 = .list false (aSig.map Control.cells)∧ρ 5=pA n1 5∧ρ 6=pA (n1+1) 6∧ρ 7=pA (n1+2) 7∧ρ 10 = .list true (r32.1.map intC)∧ρ 11 = .list true (r32.2.1.map strC)∧ρ 12=bool r32.2.2∧ρ 17=v355∧ρ 18=v354∧ρ 21=int r334.2∧ρ 160=bool c352)∧H (n1,5)=some ⟨6,[bC false aRedex]⟩∧H (n1+1,6)=some ⟨6,[bC false aAgent]⟩∧H (n1+2,7)=some ⟨2,[mC false aM]⟩∧Sep H n [oS v354 r334.1,oI v355 r323.1] [(n1+2,7),(n1+1,6),(n1,5)]) (by refine⟨v341,v342,?_,?_,?_,?_,sp⟩<;>simp[hh,m5_1,m6_2,m7_3,f353,dc346,dc350,-intBin]) ?_
   clear hh m5_1 m6_2 m7_3
   rintro ρ H n356 ⟨v354,v355,hh,m5_1,m6_2,m7_3,sp⟩
   refine Runs.ite (b:=c352) (by simp[hh,m5_1,m6_2,m7_3]) (fun dc352=>?_) (fun dc352=>?_)
   ·replace h:=h.1 dc352
    refine zE fun k' hk'=>?_
    simp[hh,m5_1,m6_2,m7_3,dc352]
    apply hk'
    exact Runs.ret1 (v:=bool false) Tryz.func5 Tryz.results5 (by simp[hh,m5_1,m6_2,m7_3,dc352]) (hQ _ _ _ _ (.of (.v _)) ⟨false,h,rfl⟩)
   replace h:=h.2 dc352
   refine Runs.skip ?_
   refine Runs.seqD Ty_ok kindOp_ok draws (by decide) (by kernel_rfl) fun k' hk'=>?_
   obtain⟨hb357,h⟩:=h
   obtain⟨r358,er358,h⟩:=atm h
   simp[hh,m5_1,m6_2,m7_3,dc352]
   refine RunDK.callA Ty_ok kindOp_ok ((toControlS_ok aSig hb357).pure) e12 (.cons (argC false aSig) .nil) (by decide) rfl (by simp[hh,m5_1,m6_2,m7_3,dc352]) ?_
   rw[← er358]
   obtain⟨hb359,h⟩:=h
   obtain⟨r360,er360,h⟩:=atm h
   simp[hh,m5_1,m6_2,m7_3,dc352]
   refine RunDK.callA Ty_ok kindOp_ok ((toBigraph_ok aRedex hb359).pure) e15 (.cons (argB false aRedex) .nil) (by decide) rfl (by simp[hh,m5_1,m6_2,m7_3,dc352]) ?_
   rw[← er360]
   obtain⟨hb361,h⟩:=h
   obtain⟨r362,er362,h⟩:=atm h
   simp[hh,m5_1,m6_2,m7_3,dc352]
   refine RunDK.callA Ty_ok kindOp_ok ((toBigraph_ok aAgent hb361).pure) e15 (.cons (argB false aAgent) .nil) (by decide) rfl (by simp[hh,m5_1,m6_2,m7_3,dc352]) ?_
   rw[← er362]
   obtain⟨hb363,h⟩:=h
   obtain⟨r364,er364,h⟩:=atm h
   simp[hh,m5_1,m6_2,m7_3,dc352]
   refine RunDK.callA Ty_ok kindOp_ok ((toMatch_ok aM hb363).pure) e16 (.cons (argM false aM) .nil) (by decide) rfl (by simp[hh,m5_1,m6_2,m7_3,dc352]) ?_
   rw[← er364]
   obtain⟨hb365,h⟩:=h
   obtain⟨r366,er366,h⟩:=atm h
   simp[hh,m5_1,m6_2,m7_3,dc352]
   refine RunDK.callA Ty_ok kindOp_ok ((PassedLinks_ok r358 r360 r362 r364 hb365).pure) e35 (.cons (argC true r358) (.cons (argB true r360) (.cons (argB true r362) (.cons (argM true r364) .nil)))) (by decide) rfl (by simp[hh,m5_1,m6_2,m7_3,dc352]) ?_
   rw[← er366]
   simp[hh,m5_1,m6_2,m7_3,dc352]
   apply hk'
   refine Runs.cut (fun ρ H n=>∃ (v367 v368:AVal),(ρ 10 = .list true (r32.1.map intC)∧ρ 11 = .list true (r32.2.1.map strC)∧ρ 12=bool r32.2.2∧ρ 17=v368∧ρ 18=v367∧ρ 21=int r334.2∧ρ 23 = .list true (r366.1.map intC)∧ρ 24 = .list true (r366.2.1.map strC)∧ρ 25=bool r366.2.2)∧Sep H n [oS v367 r334.1,oI v368 r323.1] []) (by refine⟨v354,v355,?_,(Sep.sub sp (by simp +contextual))⟩<;>simp[hh,m5_1,m6_2,m7_3,dc352]) ?_
   clear hh m5_1 m6_2 m7_3
   rintro ρ H n369 ⟨v367,v368,hh,sp⟩
   refine Runs.seq ?_
   refine zE fun k' hk'=>?_
   obtain⟨J370,hJ371,hr372⟩:=h
   have fin376:∀ (sJ:Bool) (ρ:Env) (H:Heap) (n:Nat),J370 sJ→(match sJ with | b373=>∃ (v374 v375:AVal),(ρ 17=v375∧ρ 18=v374∧ρ 21=int r334.2∧ρ 188=bool b373)∧Sep H n [oS v374 r334.1,oI v375 r323.1] [])→Runs Tryz.prog 5 202 k' ρ H n Q:=by
    rintro b373 ρ H n377 h ⟨v374,v375,hh,sp⟩
    replace h:=hr372 _ h
    apply hk'
    refine Runs.ite (b:=b373) (by simp[hh]) (fun db373=>?_) (fun db373=>?_)
    ·replace h:=h.1 db373
     refine zE fun k' hk'=>?_
     simp[hh,db373]
     apply hk'
     exact Runs.ret1 (v:=bool false) Tryz.func5 Tryz.results5 (by simp[hh,db373]) (hQ _ _ _ _ (.of (.v _)) ⟨false,h,rfl⟩)
    replace h:=h.2 db373
    refine Runs.skip ?_
    refine zE fun k' hk'=>?_
    simp[hh,db373]
    apply hk'
    refine zE fun k' hk'=>?_
    obtain⟨hb378,h⟩:=h
    obtain⟨r379,er379,h⟩:=atm h
    simp[hh,db373]
    refine RunK.callA Ty_ok (heldIntS_ok r323.1 1 hb378) e33 (.cons (Sep.argOk' sp.f1 (old_listF (by simp))) (.cons (.v _ _ _) .nil)) (by decide) (by decide) rfl (by simp[hh,db373]) ?_
    rintro _ rfl
    rw[← er379]
    simp[hh,db373]
    apply hk'
    refine Runs.seq ?_
    refine zE fun k' hk'=>?_
    obtain⟨c380,ec380,h⟩:=atm h
    have f381:=ib_lss (k:=.i64) ec380
    simp[hh,f381,db373,-intBin]
    apply hk'
    refine Runs.ite (b:=c380) (by simp[hh,db373]) (fun dc380=>?_) (fun dc380=>?_)
    ·replace h:=h.1 dc380
     refine zE fun k' hk'=>?_
     simp[hh,db373,dc380]
     apply hk'
     exact Runs.ret1 (v:=bool false) Tryz.func5 Tryz.results5 (by simp[hh,db373,dc380]) (hQ _ _ _ _ (.of (.v _)) ⟨false,h,rfl⟩)
    replace h:=h.2 dc380
    refine Runs.skip ?_
    refine zE fun k' hk'=>?_
    obtain⟨hb382,h⟩:=h
    obtain⟨r383,er383,h⟩:=atm h
    simp[hh,db373,dc380]
    refine RunK.callA Ty_ok (heldStringS_ok r334.1 r379 hb382) e39 (.cons (Sep.argOk' sp (old_listF (by simp))) (.cons (.v _ _ _) .nil)) (by decide) (by decide) rfl (by simp[hh,db373,dc380]) ?_
    rintro _ rfl
    rw[← er383]
    simp[hh,db373,dc380]
    apply hk'
    refine Runs.seq ?_
    refine zE fun k' hk'=>?_
    obtain⟨c384,ec384,h⟩:=atm h
    have f385:=ib_lss (k:=.i64) ec384
    simp[hh,f385,db373,dc380,-intBin]
    apply hk'
    refine Runs.ite (b:=c384) (by simp[hh,db373,dc380]) (fun dc384=>?_) (fun dc384=>?_)
    ·replace h:=h.1 dc384
     refine zE fun k' hk'=>?_
     simp[hh,db373,dc380,dc384]
     apply hk'
     exact Runs.ret1 (v:=bool false) Tryz.func5 Tryz.results5 (by simp[hh,db373,dc380,dc384]) (hQ _ _ _ _ (.of (.v _)) ⟨false,h,rfl⟩)
    replace h:=h.2 dc384
    refine Runs.skip ?_
    refine Runs.seq ?_
    refine zE fun k' hk'=>?_
    obtain⟨c386,ec386,h⟩:=atm h
    have f387:=ib_neq (k:=.i64) ec386
    simp[hh,f387,db373,dc380,dc384,-intBin]
    apply hk'
    refine Runs.cut (fun ρ H n=>ρ 201=bool c386∧Sep H n [] []) (by refine⟨?_,sp.dr.dr⟩<;>simp[hh,f387,db373,dc380,dc384,-intBin]) ?_
    clear hh
    rintro ρ H n388 ⟨hh,sp⟩
    refine Runs.ite (b:=c386) (by simp[hh]) (fun dc386=>?_) (fun dc386=>?_)
    ·replace h:=h.1 dc386
     refine zE fun k' hk'=>?_
     simp[hh,dc386]
     apply hk'
     exact Runs.ret1 (v:=bool false) Tryz.func5 Tryz.results5 (by simp[hh,dc386]) (hQ _ _ _ _ (.of (.v _)) ⟨false,h,rfl⟩)
    replace h:=h.2 dc386
    refine Runs.skip ?_
    refine zE fun k' hk'=>?_
    simp[hh,dc386]
    apply hk'
    exact Runs.ret1 (v:=bool true) Tryz.func5 Tryz.results5 (by simp[hh,dc386]) (hQ _ _ _ _ (.of (.v _)) ⟨true,h,rfl⟩)
   replace h:=hJ371
   obtain⟨hb389,h⟩:=h
   obtain⟨r390,er390,h⟩:=atm h
   simp[hh]
   refine RunK.callA Ty_ok (eqIntS_ok r366.1 r32.1 hb389) e27 (.cons (argI true r366.1) (.cons (argI true r32.1) .nil)) (by decide) (by decide) rfl (by simp[hh]) ?_
   rintro _ rfl
   rw[← er390]
   rcases Bool.eq_false_or_eq_true r390 with dr390 | dr390
   ·replace h:=h.1 dr390
    obtain⟨hb391,h⟩:=h
    obtain⟨r392,er392,h⟩:=atm h
    simp[hh,dr390]
    refine RunK.callA Ty_ok (eqStringS_ok r366.2.1 r32.2.1 hb391) e36 (.cons (argS true r366.2.1) (.cons (argS true r32.2.1) .nil)) (by decide) (by decide) rfl (by simp[hh,dr390]) ?_
    rintro _ rfl
    rw[← er392]
    rcases Bool.eq_false_or_eq_true r392 with dr392 | dr392
    ·replace h:=h.1 dr392
     obtain⟨c393,ec393,h⟩:=atm h
     have f394:=bb_neq ec393
     simp[hh,f394,dr390,dr392,-boolBin]
     exact fin376 (c393) _ _ _ h (by refine⟨v367,v368,?_,sp⟩<;>simp[hh,f394,dr390,dr392,-boolBin])
    replace h:=h.2 dr392
    simp[hh,dr390,dr392]
    exact fin376 (true) _ _ _ h (by refine⟨v367,v368,?_,sp⟩<;>simp[hh,dr390,dr392])
   replace h:=h.2 dr390
   simp[hh,dr390]
   exact fin376 (true) _ _ _ h (by refine⟨v367,v368,?_,sp⟩<;>simp[hh,dr390])
  replace h:=hJ315
  obtain⟨c395,ec395,h⟩:=atm h
  have f396:=ib_lss (k:=.i64) ec395
  rcases Bool.eq_false_or_eq_true c395 with dc395 | dc395
  ·replace h:=h.1 dc395
   simp[hh,m5_1,m6_2,m7_3,f396,dc395,-intBin]
   exact fin320 (true) _ _ _ h (by refine⟨v311,v312,?_,?_,?_,?_,sp⟩<;>simp[hh,m5_1,m6_2,m7_3,f396,dc395,-intBin])
  replace h:=h.2 dc395
  obtain⟨hb397,h⟩:=h
  obtain⟨r398,er398,h⟩:=atm h
  simp[hh,m5_1,m6_2,m7_3,f396,dc395,-intBin]
  refine RunK.callA Ty_ok (eqIntS_ok r141.1 r32.1 hb397) e27 (.cons (Sep.argOk' sp (old_listF (by simp))) (.cons (argI true r32.1) .nil)) (by decide) (by decide) rfl (by simp[hh,m5_1,m6_2,m7_3,f396,dc395,-intBin]) ?_
  rintro _ rfl
  rw[← er398]
  rcases Bool.eq_false_or_eq_true r398 with dr398 | dr398
  ·replace h:=h.1 dr398
   obtain⟨hb399,h⟩:=h
   obtain⟨r400,er400,h⟩:=atm h
   simp[hh,m5_1,m6_2,m7_3,f396,dc395,dr398,-intBin]
   refine RunK.callA Ty_ok (eqStringS_ok r141.2.1 r32.2.1 hb399) e36 (.cons (Sep.argOk' sp.f1 (old_listF (by simp))) (.cons (argS true r32.2.1) .nil)) (by decide) (by decide) rfl (by simp[hh,m5_1,m6_2,m7_3,f396,dc395,dr398,-intBin]) ?_
   rintro _ rfl
   rw[← er400]
   rcases Bool.eq_false_or_eq_true r400 with dr400 | dr400
   ·replace h:=h.1 dr400
    obtain⟨c401,ec401,h⟩:=atm h
    have f402:=bb_neq ec401
    simp[hh,m5_1,m6_2,m7_3,f396,f402,dc395,dr398,dr400,-boolBin,-intBin]
    exact fin320 (c401) _ _ _ h (by refine⟨v311,v312,?_,?_,?_,?_,sp⟩<;>simp[hh,m5_1,m6_2,m7_3,f396,f402,dc395,dr398,dr400,-boolBin,-intBin])
   replace h:=h.2 dr400
   simp[hh,m5_1,m6_2,m7_3,f396,dc395,dr398,dr400,-intBin]
   exact fin320 (true) _ _ _ h (by refine⟨v311,v312,?_,?_,?_,?_,sp⟩<;>simp[hh,m5_1,m6_2,m7_3,f396,dc395,dr398,dr400,-intBin])
  replace h:=h.2 dr398
  simp[hh,m5_1,m6_2,m7_3,f396,dc395,dr398,-intBin]
  exact fin320 (true) _ _ _ h (by refine⟨v311,v312,?_,?_,?_,?_,sp⟩<;>simp[hh,m5_1,m6_2,m7_3,f396,dc395,dr398,-intBin])
 replace h:=hJ170
 obtain⟨hb403,h⟩:=h
 obtain⟨r404,er404,h⟩:=atm h
 simp[hh,m5_1,m6_2,m7_3,m14_64,m15_95,m16_124]
 refine RunK.callA Ty_ok (eqIntS_ok r141.1 r32.1 hb403) e27 (.cons (Sep.argOk' sp.f11 (old_listF (by simp))) (.cons (argI true r32.1) .nil)) (by decide) (by decide) rfl (by simp[hh,m5_1,m6_2,m7_3,m14_64,m15_95,m16_124]) ?_
 rintro _ rfl
 rw[← er404]
 rcases Bool.eq_false_or_eq_true r404 with dr404 | dr404
 ·replace h:=h.1 dr404
  obtain⟨hb405,h⟩:=h
  obtain⟨r406,er406,h⟩:=atm h
  simp[hh,m5_1,m6_2,m7_3,m14_64,m15_95,m16_124,dr404]
  refine RunK.callA Ty_ok (eqStringS_ok r141.2.1 r32.2.1 hb405) e36 (.cons (Sep.argOk' sp.f12 (old_listF (by simp))) (.cons (argS true r32.2.1) .nil)) (by decide) (by decide) rfl (by simp[hh,m5_1,m6_2,m7_3,m14_64,m15_95,m16_124,dr404]) ?_
  rintro _ rfl
  rw[← er406]
  rcases Bool.eq_false_or_eq_true r406 with dr406 | dr406
  ·replace h:=h.1 dr406
   obtain⟨c407,ec407,h⟩:=atm h
   have f408:=bb_neq ec407
   simp[hh,m5_1,m6_2,m7_3,m14_64,m15_95,m16_124,f408,dr404,dr406,-boolBin]
   exact fin186 (c407) _ _ _ h (by refine⟨v155,v156,v157,v158,v159,v160,v161,v162,v163,v164,v165,v166,v167,?_,?_,?_,?_,?_,?_,?_,sp⟩<;>simp[hh,m5_1,m6_2,m7_3,m14_64,m15_95,m16_124,f408,dr404,dr406,-boolBin])
  replace h:=h.2 dr406
  simp[hh,m5_1,m6_2,m7_3,m14_64,m15_95,m16_124,dr404,dr406]
  exact fin186 (true) _ _ _ h (by refine⟨v155,v156,v157,v158,v159,v160,v161,v162,v163,v164,v165,v166,v167,?_,?_,?_,?_,?_,?_,?_,sp⟩<;>simp[hh,m5_1,m6_2,m7_3,m14_64,m15_95,m16_124,dr404,dr406])
 replace h:=h.2 dr404
 simp[hh,m5_1,m6_2,m7_3,m14_64,m15_95,m16_124,dr404]
 exact fin186 (true) _ _ _ h (by refine⟨v155,v156,v157,v158,v159,v160,v161,v162,v163,v164,v165,v166,v167,?_,?_,?_,?_,?_,?_,?_,sp⟩<;>simp[hh,m5_1,m6_2,m7_3,m14_64,m15_95,m16_124,dr404])
theorem lawPass_ok (aSig:List Control) (aRedex:Big) (aAgent:Big) (aM:Match) (hp:lawPass_pre aSig aRedex aAgent aM):PureC Tryz.prog 5 [.list false (aSig.map Control.cells),.agg (bC false aRedex),.agg (bC false aAgent),.agg (mC false aM)] (fun r=>r=bool (lawPass aSig aRedex aAgent aM)):=(lawPass_walk aSig aRedex aAgent aM _ (lawPass_vc aSig aRedex aAgent aM hp)).mono (by rintro _ ⟨_,rfl,rfl⟩;rfl)
end Go.Ab.Vg
/- Reader of a law's argument: a match. (Template: YtbpdcoahefnnkaaGreatDoor, Tryz, 34 the number of laws.Match.) -/
namespace Go.Ab
abbrev HugeM (m:Match):Prop:=m.nodes.length≤9223372036854775807∧m.roots.length≤9223372036854775807
end Go.Ab
namespace Go.Proofs.YtbpdcoahefnnkaaGreatDoor
open Go.ChangeShapes Go.WideShapes Go.ChangeAt Go.RowKit Go.Ab
set_option maxRecDepth 100000
theorem rMatch:ArgR Tryz.prog 34 (fun m:Go.Ab.Match=>.agg [.list false (m.nodes.map intC),.list false (m.roots.map intC)]) HugeM:=by
 have h:=Reader.struct Tryz.underlying34 (n:=2) (by kernel_rfl) (FReader.cons (n:=1) rfl (by kernel_rfl) rInts (FReader.cons (n:=1) rfl (by kernel_rfl) rInts (FReader.nil 2)))
 have h2:=h.map (e':=Go.Ab.Match.cells false) (ok':=HugeM) (fun p=>⟨p.1,p.2.1⟩) (fun p=>rfl) (fun p hp=>⟨hp.1.1,hp.2.1.1⟩)
 exact ArgR.struct Tryz.underlying34 h2
end Go.Proofs.YtbpdcoahefnnkaaGreatDoor
/- The contract of laws.FnExactPassedLinks: it answers true. -/
namespace Go.Ab
open Go.Proofs
theorem exactPassedLinks_ok (a0:Sig) (a1:Big) (a2:Big) (a3:Match) (h0:HugeS a0) (h1:HugeB a1) (h2:HugeB a2) (h3:HugeM a3):PureC Tryz.prog 5 [encSig false a0,encB false a1,encB false a2,.agg [.list false (a3.nodes.map intC),.list false (a3.roots.map intC)]] (fun r=>r=bool true):=Vg.lawPass_ok a0 a1 a2 a3 ⟨h0,h1,h2,h3⟩
end Go.Ab
