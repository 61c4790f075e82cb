/- Merged texts (16 of 18) of the proof that ends in Cuy: Ndw. -/
import Derived.Test.YtbikfokhjdjfpaaGreatDoorAbQcu15
/- Walks by program for YtbikfokhjdjfpaaGreatDoorAbNd. -/
namespace Go.Ab.Vg
open Go.Proofs
set_option maxRecDepth 100000
set_option linter.unusedSimpArgs false
set_option linter.unusedVariables false
attribute [local simp] Control.cells GNode.cells Wire.cells intC intC2 sliceC strC bC pA zB
theorem e38:Ent Tryz.prog 38:=Ent.of Tryz.func38 (by kernel_rfl) rfl
set_option maxHeartbeats 2000000 in
theorem l4Cut_walk (b:Big) (node:Int) (Z:(Big × Big)→Prop) (h:l4Cut_wp b node Z):OwnS Tryz.prog 38 [.agg (bC false b),int node] (.t [.a [.c,.s [.c,.c,.s [.c]],.s [.c],.c,.s [.c],.s [.c,.c]],.a [.c,.s [.c,.c,.s [.c]],.s [.c],.c,.s [.c],.s [.c,.c]]]) (fun r=>∃ y:Big × Big,Z y∧r = .tup [.agg (bC true y.1),.agg (bC true y.2)]):=by
 unfold l4Cut_wp at h
 have sp:Sep noHeap 0 [] []:=Sep.nil (by simp)
 refine OwnS.of Tryz.func38 rfl Tryz.ntmps38 (by simp) fun Q hQ=>?_
 refine Runs.cut (fun ρ H n=>(ρ 0 = .agg (bC false b)∧ρ 1=int node)∧Sep H n [] []) (by refine⟨by simp ,sp⟩) ?_
 rintro ρ H n1 ⟨hh,sp⟩
 refine zE fun k' hk'=>?_
 simp[hh]
 apply hk'
 refine Runs.cut (fun ρ H n=>((ρ 1=int node∧ρ 2=pA n1 2∧ρ 4=pA (n1+1) 4∧ρ 5=pA (n1+2) 5)∧H (n1,2)=some ⟨6,[bC false b]⟩∧H (n1+1,4)=some ⟨6,[zB]⟩∧H (n1+2,5)=some ⟨6,[zB]⟩)∧Sep H n [] [(n1+2,5),(n1+1,4),(n1,2)]) (by refine⟨by simp[hh],sp.var.var.var⟩) ?_
 clear hh
 rintro ρ H n5 ⟨⟨hh,m2_1,m4_2,m5_3⟩,sp⟩
 refine zE fun k' hk'=>?_
 obtain⟨hb6,h⟩:=h
 obtain⟨r7,er7,h⟩:=atm h
 simp[hh,m2_1,m4_2,m5_3]
 refine RunK.callW Ty_ok (l4Below_ok b node hb6) e94 (.cons (argB false b) (.cons (.v _ _ _) .nil)) sp (by decide) (by decide) rfl (by simp[hh,m2_1,m4_2,m5_3]) ?_
 rintro v8 H9 n10 _ sp rfl hle12 hfr11
 rw[← er7] at sp
 have m2_1:=(hfr11 _ (by simp)).trans m2_1
 have m4_2:=(hfr11 _ (by simp)).trans m4_2
 have m5_3:=(hfr11 _ (by simp)).trans m5_3
 simp[hh,m2_1,m4_2,m5_3]
 apply hk'
 refine Runs.cut (fun ρ H n=>∃ (v15:AVal),((ρ 1=int node∧ρ 2=pA n1 2∧ρ 4=pA (n1+1) 4∧ρ 5=pA (n1+2) 5∧ρ 6=v15)∧H (n1,2)=some ⟨6,[bC false b]⟩∧H (n1+1,4)=some ⟨6,[zB]⟩∧H (n1+2,5)=some ⟨6,[zB]⟩)∧Sep H n [oE [.c] boolC v15 r7] [(n1+2,5),(n1+1,4),(n1,2)]) (by refine⟨v8,by simp[hh,m2_1,m4_2,m5_3],sp⟩) ?_
 clear hh m2_1 m4_2 m5_3
 rintro ρ H n16 ⟨v15,⟨hh,m2_1,m4_2,m5_3⟩,sp⟩
 refine zE fun k' hk'=>?_
 simp[hh,m2_1,m4_2,m5_3]
 apply hk'
 refine Runs.cut (fun ρ H n=>∃ (v19:AVal),((ρ 1=int node∧ρ 2=pA n1 2∧ρ 4=pA (n1+1) 4∧ρ 5=pA (n1+2) 5∧ρ 6=v19∧ρ 7=pA n16 7∧ρ 8=pA (n16+1) 8)∧H (n1,2)=some ⟨6,[bC false b]⟩∧H (n1+1,4)=some ⟨6,[zB]⟩∧H (n1+2,5)=some ⟨6,[zB]⟩∧H (n16,7)=some ⟨6,[[int b.roots,.v (.slice none 0 0),.v (.slice none 0 0),int 0,.v (.slice none 0 0),.v (.slice none 0 0)]]⟩∧H (n16+1,8)=some ⟨6,[[int 1,.v (.slice none 0 0),.v (.slice none 0 0),int 0,.v (.slice none 0 0),.v (.slice none 0 0)]]⟩)∧Sep H n [oE [.c] boolC v19 r7] [(n16+1,8),(n16,7),(n1+2,5),(n1+1,4),(n1,2)]) (by refine⟨v15,by simp[hh,m2_1,m4_2,m5_3],(Sep.setVar (w:=(n16+1,8)) (Sep.setVar (w:=(n16,7)) sp.var.var (by simp)) (by simp))⟩) ?_
 clear hh m2_1 m4_2 m5_3
 rintro ρ H n20 ⟨v19,⟨hh,m2_1,m4_2,m5_3,m7_16,m8_17⟩,sp⟩
 refine zE fun k' hk'=>?_
 simp[hh,m2_1,m4_2,m5_3,m7_16,m8_17]
 apply hk'
 refine Runs.cut (fun ρ H n=>∃ (v23 v24 v25:AVal),((ρ 1=int node∧ρ 2=pA n1 2∧ρ 4=pA (n1+1) 4∧ρ 5=pA (n1+2) 5∧ρ 6=v25∧ρ 7=pA n16 7∧ρ 8=pA (n16+1) 8∧ρ 9=v24∧ρ 10=v23)∧H (n1,2)=some ⟨6,[bC false b]⟩∧H (n1+1,4)=some ⟨6,[zB]⟩∧H (n1+2,5)=some ⟨6,[zB]⟩∧H (n16,7)=some ⟨6,[[int b.roots,.v (.slice none 0 0),.v (.slice none 0 0),int 0,.v (.slice none 0 0),.v (.slice none 0 0)]]⟩∧H (n16+1,8)=some ⟨6,[[int 1,.v (.slice none 0 0),.v (.slice none 0 0),int 0,.v (.slice none 0 0),.v (.slice none 0 0)]]⟩)∧Sep H n [oI v23 ([]:List Int),oI v24 ([]:List Int),oE [.c] boolC v25 r7] [(n16+1,8),(n16,7),(n1+2,5),(n1+1,4),(n1,2)]) (by refine⟨.arr (n20+1,25) 0 0 0,.arr (n20,24) 0 0 0,v19,by simp[hh,m2_1,m4_2,m5_3,m7_16,m8_17],(Sep.addEmpty (l:=[.c]) (Sep.addEmpty (l:=[.c]) sp))⟩) ?_
 clear hh m2_1 m4_2 m5_3 m7_16 m8_17
 rintro ρ H n26 ⟨v23,v24,v25,⟨hh,m2_1,m4_2,m5_3,m7_16,m8_17⟩,sp⟩
 refine Runs.seq ?_
 refine zE fun k' hk'=>?_
 simp[hh,m2_1,m4_2,m5_3,m7_16,m8_17]
 apply hk'
 refine Runs.block ?_
 refine Runs.loopW h (fun (sJ:Int × Int × Int × (List Int) × (List Int) × (List Str) × (List Wire) × (List Str)) ρ H n=>match sJ with | (link73,w74,w75,l76,l77,l78,l79,l80)=>∃ (v81 v82 v83 v84 v85 v86 v87 v88 v89 v90 v91:AVal),((ρ 1=int node∧ρ 2=pA n1 2∧ρ 4=pA (n1+1) 4∧ρ 5=pA (n1+2) 5∧ρ 6=v91∧ρ 7=pA n16 7∧ρ 8=pA (n16+1) 8∧ρ 9=v90∧ρ 10=v89∧ρ 11=int link73)∧H (n1,2)=some ⟨6,[bC false b]⟩∧H (n1+1,4)=some ⟨6,[zB]⟩∧H (n1+2,5)=some ⟨6,[zB]⟩∧H (n16,7)=some ⟨6,[[int b.roots,v88,v87,int w75,v86,v85]]⟩∧H (n16+1,8)=some ⟨6,[[int 1,v84,v83,int w74,v82,v81]]⟩)∧Sep H n [oW v81 ([]:List Wire),oS v82 l78,oI v83 ([]:List Int),oN v84 ([]:List GNode),oW v85 l79,oS v86 l80,oI v87 ([]:List Int),oN v88 ([]:List GNode),oI v89 l76,oI v90 l77,oE [.c] boolC v91 r7] [(n16+1,8),(n16,7),(n1+2,5),(n1+1,4),(n1,2)]) (by refine⟨.v (.slice none 0 0),.v (.slice none 0 0),.v (.slice none 0 0),.v (.slice none 0 0),.v (.slice none 0 0),.v (.slice none 0 0),.v (.slice none 0 0),.v (.slice none 0 0),v23,v24,v25,by simp[hh,m2_1,m4_2,m5_3,m7_16,m8_17],(Sep.addNil (Sep.addNil (Sep.addNil (Sep.addNil (Sep.addNil (Sep.addNil (Sep.addNil (Sep.addNil sp))))))))⟩) ?_
 clear hh m2_1 m4_2 m5_3 m7_16 m8_17
 rintro⟨link73,w74,w75,l76,l77,l78,l79,l80⟩ ρ H n92 K h ⟨v81,v82,v83,v84,v85,v86,v87,v88,v89,v90,v91,⟨hh,m2_1,m4_2,m5_3,m7_16,m8_17⟩,sp⟩ IH93
 refine Runs.seq ?_
 refine zE fun k' hk'=>?_
 obtain⟨len95,elen95,h⟩:=atm h
 have f96:=fun H=>len_list (H:=H) (fr:=false) (f:=strC) kd_25 elen95
 obtain⟨hb97,h⟩:=h
 obtain⟨v98,ev98,h⟩:=atm h
 have f99:=ib_add hb97 ev98
 obtain⟨c100,ec100,h⟩:=atm h
 have f101:=ib_lss (k:=.i64) ec100
 simp[hh,m2_1,m4_2,m5_3,m7_16,m8_17,f96,f99,f101,-intBin,-lenF]
 apply hk'
 refine Runs.ite (b:=c100) (by simp[hh,m2_1,m4_2,m5_3,m7_16,m8_17]) (fun dc100=>?_) (fun dc100=>?_)
 ·replace h:=h.1 dc100
  refine Runs.skip ?_
  refine Runs.seq ?_
  refine Runs.block ?_
  refine zE fun k' hk'=>?_
  obtain⟨hb102,h⟩:=h
  obtain⟨r103,er103,h⟩:=atm h
  simp[hh,m2_1,m4_2,m5_3,m7_16,m8_17,dc100]
  refine RunK.callA Ty_ok (l4Some_ok b link73 r7 true hb102) e95 (.cons (argB false b) (.cons (.v _ _ _) (.cons (Sep.argOk' sp.f10 (old_listF (flatB _))) (.cons (.v _ _ _) .nil)))) (by decide) (by decide) rfl (by simp[hh,m2_1,m4_2,m5_3,m7_16,m8_17,dc100]) ?_
  rintro _ rfl
  rw[← er103]
  simp[hh,m2_1,m4_2,m5_3,m7_16,m8_17,dc100]
  apply hk'
  refine Runs.seq ?_
  refine zE fun k' hk'=>?_
  obtain⟨J104,hJ105,hr106⟩:=h
  have fin119:∀ (sJ:Bool) (ρ:Env) (H:Heap) (n:Nat),J104 sJ→(match sJ with | b107=>∃ (v108 v109 v110 v111 v112 v113 v114 v115 v116 v117 v118:AVal),((ρ 1=int node∧ρ 2=pA n1 2∧ρ 4=pA (n1+1) 4∧ρ 5=pA (n1+2) 5∧ρ 6=v118∧ρ 7=pA n16 7∧ρ 8=pA (n16+1) 8∧ρ 9=v117∧ρ 10=v116∧ρ 11=int link73∧ρ 12=int r103∧ρ 54=bool b107)∧H (n1,2)=some ⟨6,[bC false b]⟩∧H (n1+1,4)=some ⟨6,[zB]⟩∧H (n1+2,5)=some ⟨6,[zB]⟩∧H (n16,7)=some ⟨6,[[int b.roots,v115,v114,int w75,v113,v112]]⟩∧H (n16+1,8)=some ⟨6,[[int 1,v111,v110,int w74,v109,v108]]⟩)∧Sep H n [oW v108 ([]:List Wire),oS v109 l78,oI v110 ([]:List Int),oN v111 ([]:List GNode),oW v112 l79,oS v113 l80,oI v114 ([]:List Int),oN v115 ([]:List GNode),oI v116 l76,oI v117 l77,oE [.c] boolC v118 r7] [(n16+1,8),(n16,7),(n1+2,5),(n1+1,4),(n1,2)])→Runs Tryz.prog 38 174 k' ρ H n Q:=by
   rintro b107 ρ H n120 h ⟨v108,v109,v110,v111,v112,v113,v114,v115,v116,v117,v118,⟨hh,m2_1,m4_2,m5_3,m7_16,m8_17⟩,sp⟩
   replace h:=hr106 _ h
   apply hk'
   refine Runs.ite (b:=b107) (by simp[hh,m2_1,m4_2,m5_3,m7_16,m8_17]) (fun db107=>?_) (fun db107=>?_)
   ·replace h:=h.1 db107
    refine Runs.cut (fun ρ H n=>∃ (v121 v122 v123 v124 v125 v126 v127 v128 v129 v130 v131:AVal),((ρ 1=int node∧ρ 2=pA n1 2∧ρ 4=pA (n1+1) 4∧ρ 5=pA (n1+2) 5∧ρ 6=v131∧ρ 7=pA n16 7∧ρ 8=pA (n16+1) 8∧ρ 9=v130∧ρ 10=v129∧ρ 11=int link73)∧H (n1,2)=some ⟨6,[bC false b]⟩∧H (n1+1,4)=some ⟨6,[zB]⟩∧H (n1+2,5)=some ⟨6,[zB]⟩∧H (n16,7)=some ⟨6,[[int b.roots,v128,v127,int w75,v126,v125]]⟩∧H (n16+1,8)=some ⟨6,[[int 1,v124,v123,int w74,v122,v121]]⟩)∧Sep H n [oW v121 ([]:List Wire),oS v122 l78,oI v123 ([]:List Int),oN v124 ([]:List GNode),oW v125 l79,oS v126 l80,oI v127 ([]:List Int),oN v128 ([]:List GNode),oI v129 l76,oI v130 l77,oE [.c] boolC v131 r7] [(n16+1,8),(n16,7),(n1+2,5),(n1+1,4),(n1,2)]) (by refine⟨v108,v109,v110,v111,v112,v113,v114,v115,v116,v117,v118,by simp[hh,m2_1,m4_2,m5_3,m7_16,m8_17,db107],sp⟩) ?_
    clear hh m2_1 m4_2 m5_3 m7_16 m8_17
    rintro ρ H n132 ⟨v121,v122,v123,v124,v125,v126,v127,v128,v129,v130,v131,⟨hh,m2_1,m4_2,m5_3,m7_16,m8_17⟩,sp⟩
    obtain⟨hb133,h⟩:=h
    obtain⟨l134,el134,h⟩:=atm h
    obtain⟨hb135,h⟩:=h
    obtain⟨l136,el136,h⟩:=atm h
    refine Runs.seqC (fun H n=>H (n1,2)=some ⟨6,[bC false b]⟩∧H (n1+1,4)=some ⟨6,[zB]⟩∧H (n1+2,5)=some ⟨6,[zB]⟩∧H (n16,7)=some ⟨6,[[int b.roots,v128,v127,int w75,v126,v125]]⟩∧H (n16+1,8)=some ⟨6,[[int 1,v124,v123,int w74,v122,v121]]⟩∧Sep H n [oW v121 ([]:List Wire),oS v122 l78,oI v123 ([]:List Int),oN v124 ([]:List GNode),oW v125 l79,oS v126 l80,oI v127 ([]:List Int),oN v128 ([]:List GNode),oI v129 l76,oE [.c] boolC v131 r7] [(n16+1,8),(n16,7),(n1+2,5),(n1+1,4),(n1,2)]) [2,7,8,9] (.free 0 (.free 1 (.free 3 (.free 4 (.free 5 (.free 6 (.hard 2 (.hard 7 (.hard 8 (.hard 9 (.fin) (.stop)) (.stop)) (.stop)) (.stop)))))))) (fun ρ H n=>∃ (v137 v138 v139 v140 v141 v142 v143 v144 v145 v146 v147:AVal),((ρ 1=int node∧ρ 2=pA n1 2∧ρ 4=pA (n1+1) 4∧ρ 5=pA (n1+2) 5∧ρ 6=v147∧ρ 7=pA n16 7∧ρ 8=pA (n16+1) 8∧ρ 9=v146∧ρ 10=v145∧ρ 11=int link73)∧H (n1,2)=some ⟨6,[bC false b]⟩∧H (n1+1,4)=some ⟨6,[zB]⟩∧H (n1+2,5)=some ⟨6,[zB]⟩∧H (n16,7)=some ⟨6,[[int b.roots,v144,v143,int w75,v142,v141]]⟩∧H (n16+1,8)=some ⟨6,[[int 1,v140,v139,int w74,v138,v137]]⟩)∧Sep H n [oW v137 ([]:List Wire),oS v138 l78,oI v139 ([]:List Int),oN v140 ([]:List GNode),oW v141 l79,oS v142 l80,oI v143 ([]:List Int),oN v144 ([]:List GNode),oI v145 l136,oI v146 l134,oE [.c] boolC v147 r7] [(n16+1,8),(n16,7),(n1+2,5),(n1+1,4),(n1,2)]) draws (by decide) (by kernel_rfl) ?_ ?_
    ·refine RunT.free v130 rfl rfl ⟨m2_1,m4_2,m5_3,m7_16,m8_17,sp.f9.dr⟩ (fun H n hS=>by obtain⟨m2_1,m4_2,m5_3,m7_16,m8_17,sp⟩:=hS;exact (by exact stepF_ok Ty_ok (by rw[stepF_loc];simp[hh,m2_1,m4_2,m5_3,m7_16,m8_17]))) ?_
     refine RunT.free (.list true ([(-1)].map intC)) rfl rfl ⟨m2_1,m4_2,m5_3,m7_16,m8_17,sp.f9.dr⟩ (fun H n hS=>by obtain⟨m2_1,m4_2,m5_3,m7_16,m8_17,sp⟩:=hS;exact (by exact stepF_ok Ty_ok (by rw[stepF_loc];simp[hh,m2_1,m4_2,m5_3,m7_16,m8_17]))) ?_
     refine RunT.free v129 rfl rfl ⟨m2_1,m4_2,m5_3,m7_16,m8_17,sp.f9.dr⟩ (fun H n hS=>by obtain⟨m2_1,m4_2,m5_3,m7_16,m8_17,sp⟩:=hS;exact (by exact stepF_ok Ty_ok (by rw[stepF_loc];simp[hh,m2_1,m4_2,m5_3,m7_16,m8_17]))) ?_
     refine RunT.free (.ptr (n16+1,8) 1 0 3) rfl rfl ⟨m2_1,m4_2,m5_3,m7_16,m8_17,sp.f9.dr⟩ (fun H n hS=>by obtain⟨m2_1,m4_2,m5_3,m7_16,m8_17,sp⟩:=hS;exact (by exact stepF_ok Ty_ok (by rw[stepF_loc];simp[hh,m2_1,m4_2,m5_3,m7_16,m8_17]))) ?_
     refine RunT.free (int w74) rfl rfl ⟨m2_1,m4_2,m5_3,m7_16,m8_17,sp.f9.dr⟩ (fun H n hS=>by obtain⟨m2_1,m4_2,m5_3,m7_16,m8_17,sp⟩:=hS;exact (by exact stepF_ok Ty_ok (by rw[stepF_loc];simp[hh,m2_1,m4_2,m5_3,m7_16,m8_17]))) ?_
     refine RunT.free (.list true ([w74].map intC)) rfl rfl ⟨m2_1,m4_2,m5_3,m7_16,m8_17,sp.f9.dr⟩ (fun H n hS=>by obtain⟨m2_1,m4_2,m5_3,m7_16,m8_17,sp⟩:=hS;exact (by exact stepF_ok Ty_ok (by rw[stepF_loc];simp[hh,m2_1,m4_2,m5_3,m7_16,m8_17]))) ?_
     refine⟨?_,trivial⟩
     refine RunT.append (v:=v130) (xv:=(.list true ([(-1)].map intC))) Ty_ok [] [oW v121 ([]:List Wire),oS v122 l78,oI v123 ([]:List Int),oN v124 ([]:List GNode),oW v125 l79,oS v126 l80,oI v127 ([]:List Int),oN v128 ([]:List GNode),oI v129 l76,oE [.c] boolC v131 r7] [[int (-1)]] [intC (-1)] rfl rfl (by simp[hh,m2_1,m4_2,m5_3,m7_16,m8_17]) (by simp[hh,m2_1,m4_2,m5_3,m7_16,m8_17]) sp.f9 kd_24 (by simp) (by simp) (by simp[srcOf]) (by simp[-one1,o1x]) (rows_one (Fill.v _ Fill.nil)) (by simp) (by simpa using hb133) ?_
     rintro v153 H149 n150 sp hfr151 hle152
     replace sp:Sep H149 n150 [oI v153 l134,oW v121 ([]:List Wire),oS v122 l78,oI v123 ([]:List Int),oN v124 ([]:List GNode),oW v125 l79,oS v126 l80,oI v127 ([]:List Int),oN v128 ([]:List GNode),oI v129 l76,oE [.c] boolC v131 r7] [(n16+1,8),(n16,7),(n1+2,5),(n1+1,4),(n1,2)]:=by refine Sep.ap el134 ?_;exact sp
     have m2_1:=(hfr151 _ (by simp)).trans m2_1
     have m4_2:=(hfr151 _ (by simp)).trans m4_2
     have m5_3:=(hfr151 _ (by simp)).trans m5_3
     have m7_16:=(hfr151 _ (by simp)).trans m7_16
     have m8_17:=(hfr151 _ (by simp)).trans m8_17
     refine⟨(fun _=>⟨m2_1,m4_2,m5_3,m7_16,m8_17,sp.dr⟩),?_⟩
     refine⟨?_,trivial⟩
     refine RunT.append (v:=v129) (xv:=(.list true ([w74].map intC))) Ty_ok [] [oI v153 l134,oW v121 ([]:List Wire),oS v122 l78,oI v123 ([]:List Int),oN v124 ([]:List GNode),oW v125 l79,oS v126 l80,oI v127 ([]:List Int),oN v128 ([]:List GNode),oE [.c] boolC v131 r7] [[int w74]] [intC w74] rfl rfl (by simp[hh,m2_1,m4_2,m5_3,m7_16,m8_17]) (by simp[hh,m2_1,m4_2,m5_3,m7_16,m8_17]) sp.f9 kd_24 (by simp) (by simp) (by simp[srcOf]) (by simp[-one1,o1x]) (rows_one (Fill.v _ Fill.nil)) (by simp) (by simpa using hb135) ?_
     rintro v160 H156 n157 sp hfr158 hle159
     replace sp:Sep H156 n157 [oI v160 l136,oI v153 l134,oW v121 ([]:List Wire),oS v122 l78,oI v123 ([]:List Int),oN v124 ([]:List GNode),oW v125 l79,oS v126 l80,oI v127 ([]:List Int),oN v128 ([]:List GNode),oE [.c] boolC v131 r7] [(n16+1,8),(n16,7),(n1+2,5),(n1+1,4),(n1,2)]:=by refine Sep.ap el136 ?_;exact sp
     have m2_1:=(hfr158 _ (by simp)).trans m2_1
     have m4_2:=(hfr158 _ (by simp)).trans m4_2
     have m5_3:=(hfr158 _ (by simp)).trans m5_3
     have m7_16:=(hfr158 _ (by simp)).trans m7_16
     have m8_17:=(hfr158 _ (by simp)).trans m8_17
     refine⟨(fun hl=>absurd (hl.symm.trans (show lateC _ _ _=true by kernel_rfl)) (by decide)),?_⟩
     refine⟨?_,trivial⟩
     have f169:=Sep.oc sp.f1
     refine RunT.same (v:=v153) Ty_ok rfl rfl (by simp[hh,m2_1,m4_2,m5_3,m7_16,m8_17,f169,-cellsA,-one1,cAx,o1x]) (fun hl=>absurd (hl.symm.trans (show lateC _ _ _=true by kernel_rfl)) (by decide)) ?_
     refine⟨?_,trivial⟩
     have f176:=Sep.oc sp
     refine RunT.same (v:=v160) Ty_ok rfl rfl (by simp[hh,m2_1,m4_2,m5_3,m7_16,m8_17,f169,f176,-cellsA,-one1,cAx,o1x]) (fun hl=>absurd (hl.symm.trans (show lateC _ _ _=true by kernel_rfl)) (by decide)) ?_
     refine RunT.fin (by refine⟨v121,v122,v123,v124,v125,v126,v127,v128,v160,v153,v131,by simp[hh,m2_1,m4_2,m5_3,m7_16,m8_17,f169,f176,-cellsA,-one1,cAx,o1x],sp.f9.f9.f9.f9.f9.f9.f9.f9⟩)
    clear hh m2_1 m4_2 m5_3 m7_16 m8_17
    rintro ρ H n148 ⟨v137,v138,v139,v140,v141,v142,v143,v144,v145,v146,v147,⟨hh,m2_1,m4_2,m5_3,m7_16,m8_17⟩,sp⟩
    refine zE fun k' hk'=>?_
    obtain⟨hb177,h⟩:=h
    obtain⟨v178,ev178,h⟩:=atm h
    have f179:=ib_add hb177 ev178
    simp[hh,m2_1,m4_2,m5_3,m7_16,m8_17,f179,-intBin]
    apply hk'
    refine Runs.cut (fun ρ H n=>∃ (v180 v181 v182 v183 v184 v185 v186 v187 v188 v189 v190:AVal),((ρ 1=int node∧ρ 2=pA n1 2∧ρ 4=pA (n1+1) 4∧ρ 5=pA (n1+2) 5∧ρ 6=v190∧ρ 7=pA n16 7∧ρ 8=pA (n16+1) 8∧ρ 9=v189∧ρ 10=v188∧ρ 11=int link73)∧H (n1,2)=some ⟨6,[bC false b]⟩∧H (n1+1,4)=some ⟨6,[zB]⟩∧H (n1+2,5)=some ⟨6,[zB]⟩∧H (n16,7)=some ⟨6,[[int b.roots,v187,v186,int w75,v185,v184]]⟩∧H (n16+1,8)=some ⟨6,[[int 1,v183,v182,int v178,v181,v180]]⟩)∧Sep H n [oW v180 ([]:List Wire),oS v181 l78,oI v182 ([]:List Int),oN v183 ([]:List GNode),oW v184 l79,oS v185 l80,oI v186 ([]:List Int),oN v187 ([]:List GNode),oI v188 l136,oI v189 l134,oE [.c] boolC v190 r7] [(n16+1,8),(n16,7),(n1+2,5),(n1+1,4),(n1,2)]) (by refine⟨v137,v138,v139,v140,v141,v142,v143,v144,v145,v146,v147,by simp[hh,m2_1,m4_2,m5_3,m7_16,m8_17,f179,-intBin],(Sep.setVar (w:=(n16+1,8)) sp (by simp))⟩) ?_
    clear hh m2_1 m4_2 m5_3 m7_16 m8_17
    rintro ρ H n191 ⟨v180,v181,v182,v183,v184,v185,v186,v187,v188,v189,v190,⟨hh,m2_1,m4_2,m5_3,m7_16,m8_17⟩,sp⟩
    refine Runs.exit rfl ?_
    refine zF fun k' hk'=>?_
    obtain⟨hb192,h⟩:=h
    obtain⟨v193,ev193,h⟩:=atm h
    have f194:=ib_add hb192 ev193
    simp[hh,m2_1,m4_2,m5_3,m7_16,m8_17,f194,-intBin]
    apply hk'
    refine IH93 (v193,v178,w75,l136,l134,l78,l79,l80) _ _ _ h (by refine⟨v180,v181,v182,v183,v184,v185,v186,v187,v188,v189,v190,by simp[hh,m2_1,m4_2,m5_3,m7_16,m8_17],sp⟩)
   replace h:=h.2 db107
   refine Runs.skip ?_
   refine Runs.seq ?_
   refine zE fun k' hk'=>?_
   obtain⟨c195,ec195,h⟩:=atm h
   have f196:=ib_lss (k:=.i64) ec195
   simp[hh,m2_1,m4_2,m5_3,m7_16,m8_17,f196,db107,-intBin]
   apply hk'
   refine Runs.ite (b:=c195) (by simp[hh,m2_1,m4_2,m5_3,m7_16,m8_17,db107]) (fun dc195=>?_) (fun dc195=>?_)
   ·replace h:=h.1 dc195
    refine zE fun k' hk'=>?_
    obtain⟨hb197,h⟩:=h
    obtain⟨l198,el198,h⟩:=atm h
    simp[hh,m2_1,m4_2,m5_3,m7_16,m8_17,db107,dc195,-appendF]
    refine bind_append [] [oW v108 ([]:List Wire),oS v109 l78,oI v110 ([]:List Int),oN v111 ([]:List GNode),oW v112 l79,oS v113 l80,oI v114 ([]:List Int),oN v115 ([]:List GNode),oI v116 l76,oE [.c] boolC v118 r7] [[int w75]] [intC w75] sp.f9 kd_24 (by simp) (by simp) (by simp) (by simp[-one1,o1x]) (rows_one (Fill.v _ Fill.nil)) (by simp) (by simpa using hb197) ?_
    rintro v199 H200 n201 sp hfr202 hle203
    replace sp:Sep H200 n201 [oI v199 l198,oW v108 ([]:List Wire),oS v109 l78,oI v110 ([]:List Int),oN v111 ([]:List GNode),oW v112 l79,oS v113 l80,oI v114 ([]:List Int),oN v115 ([]:List GNode),oI v116 l76,oE [.c] boolC v118 r7] [(n16+1,8),(n16,7),(n1+2,5),(n1+1,4),(n1,2)]:=Sep.ap el198 sp
    have m2_1:=(hfr202 _ (by simp)).trans m2_1
    have m4_2:=(hfr202 _ (by simp)).trans m4_2
    have m5_3:=(hfr202 _ (by simp)).trans m5_3
    have m7_16:=(hfr202 _ (by simp)).trans m7_16
    have m8_17:=(hfr202 _ (by simp)).trans m8_17
    simp[hh,m2_1,m4_2,m5_3,m7_16,m8_17,db107,dc195]
    apply hk'
    refine Runs.cut (fun ρ H n=>∃ (v205 v206 v207 v208 v209 v210 v211 v212 v213 v214 v215:AVal),((ρ 1=int node∧ρ 2=pA n1 2∧ρ 4=pA (n1+1) 4∧ρ 5=pA (n1+2) 5∧ρ 6=v215∧ρ 7=pA n16 7∧ρ 8=pA (n16+1) 8∧ρ 9=v205∧ρ 10=v214∧ρ 11=int link73∧ρ 12=int r103)∧H (n1,2)=some ⟨6,[bC false b]⟩∧H (n1+1,4)=some ⟨6,[zB]⟩∧H (n1+2,5)=some ⟨6,[zB]⟩∧H (n16,7)=some ⟨6,[[int b.roots,v213,v212,int w75,v211,v210]]⟩∧H (n16+1,8)=some ⟨6,[[int 1,v209,v208,int w74,v207,v206]]⟩)∧Sep H n [oI v205 l198,oW v206 ([]:List Wire),oS v207 l78,oI v208 ([]:List Int),oN v209 ([]:List GNode),oW v210 l79,oS v211 l80,oI v212 ([]:List Int),oN v213 ([]:List GNode),oI v214 l76,oE [.c] boolC v215 r7] [(n16+1,8),(n16,7),(n1+2,5),(n1+1,4),(n1,2)]) (by refine⟨v199,v108,v109,v110,v111,v112,v113,v114,v115,v116,v118,by simp[hh,m2_1,m4_2,m5_3,m7_16,m8_17,db107,dc195],sp⟩) ?_
    clear hh m2_1 m4_2 m5_3 m7_16 m8_17
    rintro ρ H n216 ⟨v205,v206,v207,v208,v209,v210,v211,v212,v213,v214,v215,⟨hh,m2_1,m4_2,m5_3,m7_16,m8_17⟩,sp⟩
    refine zF fun k' hk'=>?_
    obtain⟨hb217,h⟩:=h
    obtain⟨v218,ev218,h⟩:=atm h
    have f219:=ib_add hb217 ev218
    simp[hh,m2_1,m4_2,m5_3,m7_16,m8_17,f219,-intBin]
    apply hk'
    refine Runs.cut (fun ρ H n=>∃ (v220 v221 v222 v223 v224 v225 v226 v227 v228 v229 v230:AVal),((ρ 1=int node∧ρ 2=pA n1 2∧ρ 4=pA (n1+1) 4∧ρ 5=pA (n1+2) 5∧ρ 6=v230∧ρ 7=pA n16 7∧ρ 8=pA (n16+1) 8∧ρ 9=v220∧ρ 10=v229∧ρ 11=int link73∧ρ 12=int r103)∧H (n1,2)=some ⟨6,[bC false b]⟩∧H (n1+1,4)=some ⟨6,[zB]⟩∧H (n1+2,5)=some ⟨6,[zB]⟩∧H (n16,7)=some ⟨6,[[int b.roots,v228,v227,int v218,v226,v225]]⟩∧H (n16+1,8)=some ⟨6,[[int 1,v224,v223,int w74,v222,v221]]⟩)∧Sep H n [oI v220 l198,oW v221 ([]:List Wire),oS v222 l78,oI v223 ([]:List Int),oN v224 ([]:List GNode),oW v225 l79,oS v226 l80,oI v227 ([]:List Int),oN v228 ([]:List GNode),oI v229 l76,oE [.c] boolC v230 r7] [(n16+1,8),(n16,7),(n1+2,5),(n1+1,4),(n1,2)]) (by refine⟨v205,v206,v207,v208,v209,v210,v211,v212,v213,v214,v215,by simp[hh,m2_1,m4_2,m5_3,m7_16,m8_17,f219,-intBin],(Sep.setVar (w:=(n16,7)) sp (by simp))⟩) ?_
    clear hh m2_1 m4_2 m5_3 m7_16 m8_17
    rintro ρ H n231 ⟨v220,v221,v222,v223,v224,v225,v226,v227,v228,v229,v230,⟨hh,m2_1,m4_2,m5_3,m7_16,m8_17⟩,sp⟩
    refine Runs.seq ?_
    refine zE fun k' hk'=>?_
    obtain⟨c232,ec232,h⟩:=atm h
    have f233:=ib_gtr (k:=.i64) ec232
    simp[hh,m2_1,m4_2,m5_3,m7_16,m8_17,f233,-intBin]
    apply hk'
    refine Runs.ite (b:=c232) (by simp[hh,m2_1,m4_2,m5_3,m7_16,m8_17]) (fun dc232=>?_) (fun dc232=>?_)
    ·replace h:=h.1 dc232
     refine Runs.seqD Ty_ok kindOp_ok draws (by decide) (by kernel_rfl) fun k' hk'=>?_
     obtain⟨hb234,h⟩:=h
     obtain⟨r235,er235,h⟩:=atm h
     simp[hh,m2_1,m4_2,m5_3,m7_16,m8_17,dc232]
     refine RunDK.callA Ty_ok kindOp_ok (l4Letter_ok link73 hb234) e96 (.cons (.v _ _ _) .nil) (by decide) rfl (by simp[hh,m2_1,m4_2,m5_3,m7_16,m8_17,dc232]) ?_
     rw[← er235]
     obtain⟨hb236,h⟩:=h
     obtain⟨l237,el237,h⟩:=atm h
     simp[hh,m2_1,m4_2,m5_3,m7_16,m8_17,dc232,-appendF]
     refine bindD_append [] [oI v220 l198,oW v221 ([]:List Wire),oI v223 ([]:List Int),oN v224 ([]:List GNode),oW v225 l79,oS v226 l80,oI v227 ([]:List Int),oN v228 ([]:List GNode),oI v229 l76,oE [.c] boolC v230 r7] [[str r235]] [strC r235] sp.f2 kd_25 (by simp) (by simp) (by simp) (by simp[-one1,o1x]) (rows_one (Fill.v _ Fill.nil)) (by simp) (by simpa using hb236) ?_
     rintro v238 H239 n240 sp hfr241 hle242
     replace sp:Sep H239 n240 [oS v238 l237,oI v220 l198,oW v221 ([]:List Wire),oI v223 ([]:List Int),oN v224 ([]:List GNode),oW v225 l79,oS v226 l80,oI v227 ([]:List Int),oN v228 ([]:List GNode),oI v229 l76,oE [.c] boolC v230 r7] [(n16+1,8),(n16,7),(n1+2,5),(n1+1,4),(n1,2)]:=Sep.ap el237 sp
     have m2_1:=(hfr241 _ (by simp)).trans m2_1
     have m4_2:=(hfr241 _ (by simp)).trans m4_2
     have m5_3:=(hfr241 _ (by simp)).trans m5_3
     have m7_16:=(hfr241 _ (by simp)).trans m7_16
     have m8_17:=(hfr241 _ (by simp)).trans m8_17
     have f244:=Sep.oc sp
     simp[hh,m2_1,m4_2,m5_3,m7_16,m8_17,f244,dc232,-cellsA,-one1,cAx,o1x]
     apply hk'
     refine Runs.cut (fun ρ H n=>∃ (v245 v246 v247 v248 v249 v250 v251 v252 v253 v254 v255:AVal),((ρ 1=int node∧ρ 2=pA n1 2∧ρ 4=pA (n1+1) 4∧ρ 5=pA (n1+2) 5∧ρ 6=v255∧ρ 7=pA n16 7∧ρ 8=pA (n16+1) 8∧ρ 9=v246∧ρ 10=v254∧ρ 11=int link73)∧H (n1,2)=some ⟨6,[bC false b]⟩∧H (n1+1,4)=some ⟨6,[zB]⟩∧H (n1+2,5)=some ⟨6,[zB]⟩∧H (n16,7)=some ⟨6,[[int b.roots,v253,v252,int v218,v251,v250]]⟩∧H (n16+1,8)=some ⟨6,[[int 1,v249,v248,int w74,v245,v247]]⟩)∧Sep H n [oS v245 l237,oI v246 l198,oW v247 ([]:List Wire),oI v248 ([]:List Int),oN v249 ([]:List GNode),oW v250 l79,oS v251 l80,oI v252 ([]:List Int),oN v253 ([]:List GNode),oI v254 l76,oE [.c] boolC v255 r7] [(n16+1,8),(n16,7),(n1+2,5),(n1+1,4),(n1,2)]) (by refine⟨v238,v220,v221,v223,v224,v225,v226,v227,v228,v229,v230,by simp[hh,m2_1,m4_2,m5_3,m7_16,m8_17,f244,dc232,-cellsA,-one1,cAx,o1x],(Sep.setVar (w:=(n16+1,8)) sp (by simp))⟩) ?_
     clear hh m2_1 m4_2 m5_3 m7_16 m8_17
     rintro ρ H n256 ⟨v245,v246,v247,v248,v249,v250,v251,v252,v253,v254,v255,⟨hh,m2_1,m4_2,m5_3,m7_16,m8_17⟩,sp⟩
     refine Runs.evalDE Ty_ok kindOp_ok draws (by decide) (by kernel_rfl) fun k' hk'=>?_
     obtain⟨hb257,h⟩:=h
     obtain⟨r258,er258,h⟩:=atm h
     simp[hh,m2_1,m4_2,m5_3,m7_16,m8_17]
     refine RunDK.callA Ty_ok kindOp_ok (l4Letter_ok link73 hb257) e96 (.cons (.v _ _ _) .nil) (by decide) rfl (by simp[hh,m2_1,m4_2,m5_3,m7_16,m8_17]) ?_
     rw[← er258]
     obtain⟨hb259,h⟩:=h
     obtain⟨id260,hv,mo261,ln262,ni263⟩:=Sep.openF sp.f1 (by simp) hb259
     subst hv
     simp at ni263
     obtain⟨x264,ex264,h⟩:=atm h
     have f265:=fun H (hm:H id260=some ⟨1,l198.map intC⟩)=>ix_arr (H:=H) (k:=.i64) (off:=0) (len:=l198.length) (g:=l198.length) kd_24 hm (by simp) rfl hb259
     have f266:=at_some (q:=link73.toNat) hb259 ex264 rfl
     obtain⟨hb267,h⟩:=h
     obtain⟨l268,el268,h⟩:=atm h
     simp[hh,m2_1,m4_2,m5_3,m7_16,m8_17,mo261,ni263,f265,f266,-indexAddrF,-appendF]
     refine bindD_append [] [oS v245 l237,oI (.arr id260 l198.length 0 l198.length) l198,oW v247 ([]:List Wire),oI v248 ([]:List Int),oN v249 ([]:List GNode),oS v251 l80,oI v252 ([]:List Int),oN v253 ([]:List GNode),oI v254 l76,oE [.c] boolC v255 r7] [[str r258,int x264]] [Wire.cells (Wire.mk r258 x264)] sp.f5 kd_32 (by simp) (by simp) (by simp) (by simp[-one1,o1x]) (rows_one (Fill.v _ (Fill.v _ Fill.nil))) (by simp) (by simpa using hb267) ?_
     rintro v269 H270 n271 sp hfr272 hle273
     replace sp:Sep H270 n271 [oW v269 l268,oS v245 l237,oI (.arr id260 l198.length 0 l198.length) l198,oW v247 ([]:List Wire),oI v248 ([]:List Int),oN v249 ([]:List GNode),oS v251 l80,oI v252 ([]:List Int),oN v253 ([]:List GNode),oI v254 l76,oE [.c] boolC v255 r7] [(n16+1,8),(n16,7),(n1+2,5),(n1+1,4),(n1,2)]:=Sep.ap el268 sp
     have m2_1:=(hfr272 _ (by simp)).trans m2_1
     have m4_2:=(hfr272 _ (by simp)).trans m4_2
     have m5_3:=(hfr272 _ (by simp)).trans m5_3
     have m7_16:=(hfr272 _ (by simp)).trans m7_16
     have m8_17:=(hfr272 _ (by simp)).trans m8_17
     have f275:=Sep.oc sp
     simp[hh,m2_1,m4_2,m5_3,m7_16,m8_17,ni263,f265,f266,f275,-cellsA,-indexAddrF,-one1,cAx,o1x]
     apply hk'
     refine Runs.cut (fun ρ H n=>∃ (v276 v277 v278 v279 v280 v281 v282 v283 v284 v285 v286:AVal),((ρ 1=int node∧ρ 2=pA n1 2∧ρ 4=pA (n1+1) 4∧ρ 5=pA (n1+2) 5∧ρ 6=v286∧ρ 7=pA n16 7∧ρ 8=pA (n16+1) 8∧ρ 9=v278∧ρ 10=v285∧ρ 11=int link73)∧H (n1,2)=some ⟨6,[bC false b]⟩∧H (n1+1,4)=some ⟨6,[zB]⟩∧H (n1+2,5)=some ⟨6,[zB]⟩∧H (n16,7)=some ⟨6,[[int b.roots,v284,v283,int v218,v282,v276]]⟩∧H (n16+1,8)=some ⟨6,[[int 1,v281,v280,int w74,v277,v279]]⟩)∧Sep H n [oW v276 l268,oS v277 l237,oI v278 l198,oW v279 ([]:List Wire),oI v280 ([]:List Int),oN v281 ([]:List GNode),oS v282 l80,oI v283 ([]:List Int),oN v284 ([]:List GNode),oI v285 l76,oE [.c] boolC v286 r7] [(n16+1,8),(n16,7),(n1+2,5),(n1+1,4),(n1,2)]) (by refine⟨v269,v245,.arr id260 l198.length 0 l198.length,v247,v248,v249,v251,v252,v253,v254,v255,by simp[hh,m2_1,m4_2,m5_3,m7_16,m8_17,ni263,f265,f266,f275,-cellsA,-indexAddrF,-one1,cAx,o1x],(Sep.setVar (w:=(n16,7)) sp (by simp))⟩) ?_
     clear hh m2_1 m4_2 m5_3 m7_16 m8_17 ni263
     rintro ρ H n287 ⟨v276,v277,v278,v279,v280,v281,v282,v283,v284,v285,v286,⟨hh,m2_1,m4_2,m5_3,m7_16,m8_17⟩,sp⟩
     refine zF fun k' hk'=>?_
     obtain⟨hb288,h⟩:=h
     obtain⟨l289,el289,h⟩:=atm h
     simp[hh,m2_1,m4_2,m5_3,m7_16,m8_17,-appendF]
     refine bind_append [] [oW v276 l268,oS v277 l237,oI v278 l198,oW v279 ([]:List Wire),oI v280 ([]:List Int),oN v281 ([]:List GNode),oS v282 l80,oI v283 ([]:List Int),oN v284 ([]:List GNode),oE [.c] boolC v286 r7] [[int (-1)]] [intC (-1)] sp.f9 kd_24 (by simp) (by simp) (by simp) (by simp[-one1,o1x]) (rows_one (Fill.v _ Fill.nil)) (by simp) (by simpa using hb288) ?_
     rintro v290 H291 n292 sp hfr293 hle294
     replace sp:Sep H291 n292 [oI v290 l289,oW v276 l268,oS v277 l237,oI v278 l198,oW v279 ([]:List Wire),oI v280 ([]:List Int),oN v281 ([]:List GNode),oS v282 l80,oI v283 ([]:List Int),oN v284 ([]:List GNode),oE [.c] boolC v286 r7] [(n16+1,8),(n16,7),(n1+2,5),(n1+1,4),(n1,2)]:=Sep.ap el289 sp
     have m2_1:=(hfr293 _ (by simp)).trans m2_1
     have m4_2:=(hfr293 _ (by simp)).trans m4_2
     have m5_3:=(hfr293 _ (by simp)).trans m5_3
     have m7_16:=(hfr293 _ (by simp)).trans m7_16
     have m8_17:=(hfr293 _ (by simp)).trans m8_17
     simp[hh,m2_1,m4_2,m5_3,m7_16,m8_17]
     apply hk'
     refine Runs.cut (fun ρ H n=>∃ (v296 v297 v298 v299 v300 v301 v302 v303 v304 v305 v306:AVal),((ρ 1=int node∧ρ 2=pA n1 2∧ρ 4=pA (n1+1) 4∧ρ 5=pA (n1+2) 5∧ρ 6=v306∧ρ 7=pA n16 7∧ρ 8=pA (n16+1) 8∧ρ 9=v299∧ρ 10=v296∧ρ 11=int link73)∧H (n1,2)=some ⟨6,[bC false b]⟩∧H (n1+1,4)=some ⟨6,[zB]⟩∧H (n1+2,5)=some ⟨6,[zB]⟩∧H (n16,7)=some ⟨6,[[int b.roots,v305,v304,int v218,v303,v297]]⟩∧H (n16+1,8)=some ⟨6,[[int 1,v302,v301,int w74,v298,v300]]⟩)∧Sep H n [oI v296 l289,oW v297 l268,oS v298 l237,oI v299 l198,oW v300 ([]:List Wire),oI v301 ([]:List Int),oN v302 ([]:List GNode),oS v303 l80,oI v304 ([]:List Int),oN v305 ([]:List GNode),oE [.c] boolC v306 r7] [(n16+1,8),(n16,7),(n1+2,5),(n1+1,4),(n1,2)]) (by refine⟨v290,v276,v277,v278,v279,v280,v281,v282,v283,v284,v286,by simp[hh,m2_1,m4_2,m5_3,m7_16,m8_17],sp⟩) ?_
     clear hh m2_1 m4_2 m5_3 m7_16 m8_17
     rintro ρ H n307 ⟨v296,v297,v298,v299,v300,v301,v302,v303,v304,v305,v306,⟨hh,m2_1,m4_2,m5_3,m7_16,m8_17⟩,sp⟩
     refine Runs.inBlock ?_
     refine zF fun k' hk'=>?_
     obtain⟨hb308,h⟩:=h
     obtain⟨v309,ev309,h⟩:=atm h
     have f310:=ib_add hb308 ev309
     simp[hh,m2_1,m4_2,m5_3,m7_16,m8_17,f310,-intBin]
     apply hk'
     refine IH93 (v309,w74,v218,l289,l198,l237,l268,l80) _ _ _ h (by refine⟨v300,v298,v301,v302,v297,v303,v304,v305,v296,v299,v306,by simp[hh,m2_1,m4_2,m5_3,m7_16,m8_17],sp.f9.f9.f9.f4.f9.f9.f7.f9⟩)
    replace h:=h.2 dc232
    refine Runs.skip ?_
    refine zF fun k' hk'=>?_
    obtain⟨hb311,h⟩:=h
    obtain⟨l312,el312,h⟩:=atm h
    simp[hh,m2_1,m4_2,m5_3,m7_16,m8_17,dc232,-appendF]
    refine bind_append [] [oI v220 l198,oW v221 ([]:List Wire),oS v222 l78,oI v223 ([]:List Int),oN v224 ([]:List GNode),oW v225 l79,oS v226 l80,oI v227 ([]:List Int),oN v228 ([]:List GNode),oE [.c] boolC v230 r7] [[int (-1)]] [intC (-1)] sp.f9 kd_24 (by simp) (by simp) (by simp) (by simp[-one1,o1x]) (rows_one (Fill.v _ Fill.nil)) (by simp) (by simpa using hb311) ?_
    rintro v313 H314 n315 sp hfr316 hle317
    replace sp:Sep H314 n315 [oI v313 l312,oI v220 l198,oW v221 ([]:List Wire),oS v222 l78,oI v223 ([]:List Int),oN v224 ([]:List GNode),oW v225 l79,oS v226 l80,oI v227 ([]:List Int),oN v228 ([]:List GNode),oE [.c] boolC v230 r7] [(n16+1,8),(n16,7),(n1+2,5),(n1+1,4),(n1,2)]:=Sep.ap el312 sp
    have m2_1:=(hfr316 _ (by simp)).trans m2_1
    have m4_2:=(hfr316 _ (by simp)).trans m4_2
    have m5_3:=(hfr316 _ (by simp)).trans m5_3
    have m7_16:=(hfr316 _ (by simp)).trans m7_16
    have m8_17:=(hfr316 _ (by simp)).trans m8_17
    simp[hh,m2_1,m4_2,m5_3,m7_16,m8_17,dc232]
    apply hk'
    refine Runs.cut (fun ρ H n=>∃ (v319 v320 v321 v322 v323 v324 v325 v326 v327 v328 v329:AVal),((ρ 1=int node∧ρ 2=pA n1 2∧ρ 4=pA (n1+1) 4∧ρ 5=pA (n1+2) 5∧ρ 6=v329∧ρ 7=pA n16 7∧ρ 8=pA (n16+1) 8∧ρ 9=v320∧ρ 10=v319∧ρ 11=int link73)∧H (n1,2)=some ⟨6,[bC false b]⟩∧H (n1+1,4)=some ⟨6,[zB]⟩∧H (n1+2,5)=some ⟨6,[zB]⟩∧H (n16,7)=some ⟨6,[[int b.roots,v328,v327,int v218,v326,v325]]⟩∧H (n16+1,8)=some ⟨6,[[int 1,v324,v323,int w74,v322,v321]]⟩)∧Sep H n [oI v319 l312,oI v320 l198,oW v321 ([]:List Wire),oS v322 l78,oI v323 ([]:List Int),oN v324 ([]:List GNode),oW v325 l79,oS v326 l80,oI v327 ([]:List Int),oN v328 ([]:List GNode),oE [.c] boolC v329 r7] [(n16+1,8),(n16,7),(n1+2,5),(n1+1,4),(n1,2)]) (by refine⟨v313,v220,v221,v222,v223,v224,v225,v226,v227,v228,v230,by simp[hh,m2_1,m4_2,m5_3,m7_16,m8_17,dc232],sp⟩) ?_
    clear hh m2_1 m4_2 m5_3 m7_16 m8_17
    rintro ρ H n330 ⟨v319,v320,v321,v322,v323,v324,v325,v326,v327,v328,v329,⟨hh,m2_1,m4_2,m5_3,m7_16,m8_17⟩,sp⟩
    refine Runs.inBlock ?_
    refine zF fun k' hk'=>?_
    obtain⟨hb331,h⟩:=h
    obtain⟨v332,ev332,h⟩:=atm h
    have f333:=ib_add hb331 ev332
    simp[hh,m2_1,m4_2,m5_3,m7_16,m8_17,f333,-intBin]
    apply hk'
    refine IH93 (v332,w74,v218,l312,l198,l78,l79,l80) _ _ _ h (by refine⟨v321,v322,v323,v324,v325,v326,v327,v328,v319,v320,v329,by simp[hh,m2_1,m4_2,m5_3,m7_16,m8_17],sp.f9.f9.f9.f9.f9.f9.f9.f9⟩)
   replace h:=h.2 dc195
   refine Runs.seqD Ty_ok kindOp_ok draws (by decide) (by kernel_rfl) fun k' hk'=>?_
   obtain⟨hb334,h⟩:=h
   obtain⟨v335,ev335,h⟩:=atm h
   have f336:=ib_sub hb334 ev335
   obtain⟨hb337,h⟩:=h
   obtain⟨x338,ex338,h⟩:=atm h
   have f339:=fun H=>ix_list (H:=H) (fr:=false) (f:=strC) (k:=.i64) kd_25 (fun _=>rfl) hb337 ex338
   obtain⟨hb340,h⟩:=h
   obtain⟨l341,el341,h⟩:=atm h
   simp[hh,m2_1,m4_2,m5_3,m7_16,m8_17,f336,f339,db107,dc195,-indexAddrF,-intBin,-appendF]
   refine bindD_append [] [oW v108 ([]:List Wire),oS v109 l78,oI v110 ([]:List Int),oN v111 ([]:List GNode),oW v112 l79,oI v114 ([]:List Int),oN v115 ([]:List GNode),oI v116 l76,oI v117 l77,oE [.c] boolC v118 r7] [[str x338]] [strC x338] sp.f5 kd_25 (by simp) (by simp) (by simp) (by simp[-one1,o1x]) (rows_one (Fill.v _ Fill.nil)) (by simp) (by simpa using hb340) ?_
   rintro v342 H343 n344 sp hfr345 hle346
   replace sp:Sep H343 n344 [oS v342 l341,oW v108 ([]:List Wire),oS v109 l78,oI v110 ([]:List Int),oN v111 ([]:List GNode),oW v112 l79,oI v114 ([]:List Int),oN v115 ([]:List GNode),oI v116 l76,oI v117 l77,oE [.c] boolC v118 r7] [(n16+1,8),(n16,7),(n1+2,5),(n1+1,4),(n1,2)]:=Sep.ap el341 sp
   have m2_1:=(hfr345 _ (by simp)).trans m2_1
   have m4_2:=(hfr345 _ (by simp)).trans m4_2
   have m5_3:=(hfr345 _ (by simp)).trans m5_3
   have m7_16:=(hfr345 _ (by simp)).trans m7_16
   have m8_17:=(hfr345 _ (by simp)).trans m8_17
   have f348:=Sep.oc sp
   simp[hh,m2_1,m4_2,m5_3,m7_16,m8_17,f336,f339,f348,db107,dc195,-cellsA,-indexAddrF,-intBin,-one1,cAx,o1x]
   apply hk'
   refine Runs.cut (fun ρ H n=>∃ (v349 v350 v351 v352 v353 v354 v355 v356 v357 v358 v359:AVal),((ρ 1=int node∧ρ 2=pA n1 2∧ρ 4=pA (n1+1) 4∧ρ 5=pA (n1+2) 5∧ρ 6=v359∧ρ 7=pA n16 7∧ρ 8=pA (n16+1) 8∧ρ 9=v358∧ρ 10=v357∧ρ 11=int link73∧ρ 12=int r103)∧H (n1,2)=some ⟨6,[bC false b]⟩∧H (n1+1,4)=some ⟨6,[zB]⟩∧H (n1+2,5)=some ⟨6,[zB]⟩∧H (n16,7)=some ⟨6,[[int b.roots,v356,v355,int w75,v349,v354]]⟩∧H (n16+1,8)=some ⟨6,[[int 1,v353,v352,int w74,v351,v350]]⟩)∧Sep H n [oS v349 l341,oW v350 ([]:List Wire),oS v351 l78,oI v352 ([]:List Int),oN v353 ([]:List GNode),oW v354 l79,oI v355 ([]:List Int),oN v356 ([]:List GNode),oI v357 l76,oI v358 l77,oE [.c] boolC v359 r7] [(n16+1,8),(n16,7),(n1+2,5),(n1+1,4),(n1,2)]) (by refine⟨v342,v108,v109,v110,v111,v112,v114,v115,v116,v117,v118,by simp[hh,m2_1,m4_2,m5_3,m7_16,m8_17,f336,f339,f348,db107,dc195,-cellsA,-indexAddrF,-intBin,-one1,cAx,o1x],(Sep.setVar (w:=(n16,7)) sp (by simp))⟩) ?_
   clear hh m2_1 m4_2 m5_3 m7_16 m8_17
   rintro ρ H n360 ⟨v349,v350,v351,v352,v353,v354,v355,v356,v357,v358,v359,⟨hh,m2_1,m4_2,m5_3,m7_16,m8_17⟩,sp⟩
   refine zF fun k' hk'=>?_
   obtain⟨len361,elen361,h⟩:=atm h
   have f362:=len_own (Sep.len (m:=len361) sp kd_25 (by rw[elen361,List.length_map]))
   obtain⟨hb363,h⟩:=h
   obtain⟨v364,ev364,h⟩:=atm h
   have f365:=ib_add hb363 ev364
   obtain⟨hb366,h⟩:=h
   obtain⟨v367,ev367,h⟩:=atm h
   have f368:=ib_sub hb366 ev367
   obtain⟨hb369,h⟩:=h
   obtain⟨l370,el370,h⟩:=atm h
   simp[hh,m2_1,m4_2,m5_3,m7_16,m8_17,f362,f365,f368,-intBin,-lenF,-appendF]
   refine bind_append [] [oS v349 l341,oW v350 ([]:List Wire),oS v351 l78,oI v352 ([]:List Int),oN v353 ([]:List GNode),oW v354 l79,oI v355 ([]:List Int),oN v356 ([]:List GNode),oI v357 l76,oE [.c] boolC v359 r7] [[int v367]] [intC v367] sp.f9 kd_24 (by simp) (by simp) (by simp) (by simp[-one1,o1x]) (rows_one (Fill.v _ Fill.nil)) (by simp) (by simpa using hb369) ?_
   rintro v371 H372 n373 sp hfr374 hle375
   replace sp:Sep H372 n373 [oI v371 l370,oS v349 l341,oW v350 ([]:List Wire),oS v351 l78,oI v352 ([]:List Int),oN v353 ([]:List GNode),oW v354 l79,oI v355 ([]:List Int),oN v356 ([]:List GNode),oI v357 l76,oE [.c] boolC v359 r7] [(n16+1,8),(n16,7),(n1+2,5),(n1+1,4),(n1,2)]:=Sep.ap el370 sp
   have m2_1:=(hfr374 _ (by simp)).trans m2_1
   have m4_2:=(hfr374 _ (by simp)).trans m4_2
   have m5_3:=(hfr374 _ (by simp)).trans m5_3
   have m7_16:=(hfr374 _ (by simp)).trans m7_16
   have m8_17:=(hfr374 _ (by simp)).trans m8_17
   simp[hh,m2_1,m4_2,m5_3,m7_16,m8_17,f362,f365,f368,-intBin,-lenF]
   apply hk'
   refine Runs.cut (fun ρ H n=>∃ (v377 v378 v379 v380 v381 v382 v383 v384 v385 v386 v387:AVal),((ρ 1=int node∧ρ 2=pA n1 2∧ρ 4=pA (n1+1) 4∧ρ 5=pA (n1+2) 5∧ρ 6=v387∧ρ 7=pA n16 7∧ρ 8=pA (n16+1) 8∧ρ 9=v377∧ρ 10=v386∧ρ 11=int link73∧ρ 12=int r103)∧H (n1,2)=some ⟨6,[bC false b]⟩∧H (n1+1,4)=some ⟨6,[zB]⟩∧H (n1+2,5)=some ⟨6,[zB]⟩∧H (n16,7)=some ⟨6,[[int b.roots,v385,v384,int w75,v378,v383]]⟩∧H (n16+1,8)=some ⟨6,[[int 1,v382,v381,int w74,v380,v379]]⟩)∧Sep H n [oI v377 l370,oS v378 l341,oW v379 ([]:List Wire),oS v380 l78,oI v381 ([]:List Int),oN v382 ([]:List GNode),oW v383 l79,oI v384 ([]:List Int),oN v385 ([]:List GNode),oI v386 l76,oE [.c] boolC v387 r7] [(n16+1,8),(n16,7),(n1+2,5),(n1+1,4),(n1,2)]) (by refine⟨v371,v349,v350,v351,v352,v353,v354,v355,v356,v357,v359,by simp[hh,m2_1,m4_2,m5_3,m7_16,m8_17,f362,f365,f368,-intBin,-lenF],sp⟩) ?_
   clear hh m2_1 m4_2 m5_3 m7_16 m8_17
   rintro ρ H n388 ⟨v377,v378,v379,v380,v381,v382,v383,v384,v385,v386,v387,⟨hh,m2_1,m4_2,m5_3,m7_16,m8_17⟩,sp⟩
   refine Runs.seq ?_
   refine zE fun k' hk'=>?_
   obtain⟨c389,ec389,h⟩:=atm h
   have f390:=ib_gtr (k:=.i64) ec389
   simp[hh,m2_1,m4_2,m5_3,m7_16,m8_17,f390,-intBin]
   apply hk'
   refine Runs.ite (b:=c389) (by simp[hh,m2_1,m4_2,m5_3,m7_16,m8_17]) (fun dc389=>?_) (fun dc389=>?_)
   ·replace h:=h.1 dc389
    refine Runs.seqD Ty_ok kindOp_ok draws (by decide) (by kernel_rfl) fun k' hk'=>?_
    obtain⟨hb391,h⟩:=h
    obtain⟨r392,er392,h⟩:=atm h
    simp[hh,m2_1,m4_2,m5_3,m7_16,m8_17,dc389]
    refine RunDK.callA Ty_ok kindOp_ok (l4Letter_ok link73 hb391) e96 (.cons (.v _ _ _) .nil) (by decide) rfl (by simp[hh,m2_1,m4_2,m5_3,m7_16,m8_17,dc389]) ?_
    rw[← er392]
    obtain⟨hb393,h⟩:=h
    obtain⟨l394,el394,h⟩:=atm h
    simp[hh,m2_1,m4_2,m5_3,m7_16,m8_17,dc389,-appendF]
    refine bindD_append [] [oI v377 l370,oS v378 l341,oW v379 ([]:List Wire),oI v381 ([]:List Int),oN v382 ([]:List GNode),oW v383 l79,oI v384 ([]:List Int),oN v385 ([]:List GNode),oI v386 l76,oE [.c] boolC v387 r7] [[str r392]] [strC r392] sp.f3 kd_25 (by simp) (by simp) (by simp) (by simp[-one1,o1x]) (rows_one (Fill.v _ Fill.nil)) (by simp) (by simpa using hb393) ?_
    rintro v395 H396 n397 sp hfr398 hle399
    replace sp:Sep H396 n397 [oS v395 l394,oI v377 l370,oS v378 l341,oW v379 ([]:List Wire),oI v381 ([]:List Int),oN v382 ([]:List GNode),oW v383 l79,oI v384 ([]:List Int),oN v385 ([]:List GNode),oI v386 l76,oE [.c] boolC v387 r7] [(n16+1,8),(n16,7),(n1+2,5),(n1+1,4),(n1,2)]:=Sep.ap el394 sp
    have m2_1:=(hfr398 _ (by simp)).trans m2_1
    have m4_2:=(hfr398 _ (by simp)).trans m4_2
    have m5_3:=(hfr398 _ (by simp)).trans m5_3
    have m7_16:=(hfr398 _ (by simp)).trans m7_16
    have m8_17:=(hfr398 _ (by simp)).trans m8_17
    have f401:=Sep.oc sp
    simp[hh,m2_1,m4_2,m5_3,m7_16,m8_17,f401,dc389,-cellsA,-one1,cAx,o1x]
    apply hk'
    refine Runs.cut (fun ρ H n=>∃ (v402 v403 v404 v405 v406 v407 v408 v409 v410 v411 v412:AVal),((ρ 1=int node∧ρ 2=pA n1 2∧ρ 4=pA (n1+1) 4∧ρ 5=pA (n1+2) 5∧ρ 6=v412∧ρ 7=pA n16 7∧ρ 8=pA (n16+1) 8∧ρ 9=v403∧ρ 10=v411∧ρ 11=int link73)∧H (n1,2)=some ⟨6,[bC false b]⟩∧H (n1+1,4)=some ⟨6,[zB]⟩∧H (n1+2,5)=some ⟨6,[zB]⟩∧H (n16,7)=some ⟨6,[[int b.roots,v410,v409,int w75,v404,v408]]⟩∧H (n16+1,8)=some ⟨6,[[int 1,v407,v406,int w74,v402,v405]]⟩)∧Sep H n [oS v402 l394,oI v403 l370,oS v404 l341,oW v405 ([]:List Wire),oI v406 ([]:List Int),oN v407 ([]:List GNode),oW v408 l79,oI v409 ([]:List Int),oN v410 ([]:List GNode),oI v411 l76,oE [.c] boolC v412 r7] [(n16+1,8),(n16,7),(n1+2,5),(n1+1,4),(n1,2)]) (by refine⟨v395,v377,v378,v379,v381,v382,v383,v384,v385,v386,v387,by simp[hh,m2_1,m4_2,m5_3,m7_16,m8_17,f401,dc389,-cellsA,-one1,cAx,o1x],(Sep.setVar (w:=(n16+1,8)) sp (by simp))⟩) ?_
    clear hh m2_1 m4_2 m5_3 m7_16 m8_17
    rintro ρ H n413 ⟨v402,v403,v404,v405,v406,v407,v408,v409,v410,v411,v412,⟨hh,m2_1,m4_2,m5_3,m7_16,m8_17⟩,sp⟩
    refine Runs.evalDE Ty_ok kindOp_ok draws (by decide) (by kernel_rfl) fun k' hk'=>?_
    obtain⟨hb414,h⟩:=h
    obtain⟨r415,er415,h⟩:=atm h
    simp[hh,m2_1,m4_2,m5_3,m7_16,m8_17]
    refine RunDK.callA Ty_ok kindOp_ok (l4Letter_ok link73 hb414) e96 (.cons (.v _ _ _) .nil) (by decide) rfl (by simp[hh,m2_1,m4_2,m5_3,m7_16,m8_17]) ?_
    rw[← er415]
    obtain⟨hb416,h⟩:=h
    obtain⟨id417,hv,mo418,ln419,ni420⟩:=Sep.openF sp.f1 (by simp) hb416
    subst hv
    simp at ni420
    obtain⟨x421,ex421,h⟩:=atm h
    have f422:=fun H (hm:H id417=some ⟨1,l370.map intC⟩)=>ix_arr (H:=H) (k:=.i64) (off:=0) (len:=l370.length) (g:=l370.length) kd_24 hm (by simp) rfl hb416
    have f423:=at_some (q:=link73.toNat) hb416 ex421 rfl
    obtain⟨hb424,h⟩:=h
    obtain⟨l425,el425,h⟩:=atm h
    simp[hh,m2_1,m4_2,m5_3,m7_16,m8_17,mo418,ni420,f422,f423,-indexAddrF,-appendF]
    refine bindD_append [] [oS v402 l394,oI (.arr id417 l370.length 0 l370.length) l370,oS v404 l341,oW v405 ([]:List Wire),oI v406 ([]:List Int),oN v407 ([]:List GNode),oI v409 ([]:List Int),oN v410 ([]:List GNode),oI v411 l76,oE [.c] boolC v412 r7] [[str r415,int x421]] [Wire.cells (Wire.mk r415 x421)] sp.f6 kd_32 (by simp) (by simp) (by simp) (by simp[-one1,o1x]) (rows_one (Fill.v _ (Fill.v _ Fill.nil))) (by simp) (by simpa using hb424) ?_
    rintro v426 H427 n428 sp hfr429 hle430
    replace sp:Sep H427 n428 [oW v426 l425,oS v402 l394,oI (.arr id417 l370.length 0 l370.length) l370,oS v404 l341,oW v405 ([]:List Wire),oI v406 ([]:List Int),oN v407 ([]:List GNode),oI v409 ([]:List Int),oN v410 ([]:List GNode),oI v411 l76,oE [.c] boolC v412 r7] [(n16+1,8),(n16,7),(n1+2,5),(n1+1,4),(n1,2)]:=Sep.ap el425 sp
    have m2_1:=(hfr429 _ (by simp)).trans m2_1
    have m4_2:=(hfr429 _ (by simp)).trans m4_2
    have m5_3:=(hfr429 _ (by simp)).trans m5_3
    have m7_16:=(hfr429 _ (by simp)).trans m7_16
    have m8_17:=(hfr429 _ (by simp)).trans m8_17
    have f432:=Sep.oc sp
    simp[hh,m2_1,m4_2,m5_3,m7_16,m8_17,ni420,f422,f423,f432,-cellsA,-indexAddrF,-one1,cAx,o1x]
    apply hk'
    refine Runs.cut (fun ρ H n=>∃ (v433 v434 v435 v436 v437 v438 v439 v440 v441 v442 v443:AVal),((ρ 1=int node∧ρ 2=pA n1 2∧ρ 4=pA (n1+1) 4∧ρ 5=pA (n1+2) 5∧ρ 6=v443∧ρ 7=pA n16 7∧ρ 8=pA (n16+1) 8∧ρ 9=v435∧ρ 10=v442∧ρ 11=int link73)∧H (n1,2)=some ⟨6,[bC false b]⟩∧H (n1+1,4)=some ⟨6,[zB]⟩∧H (n1+2,5)=some ⟨6,[zB]⟩∧H (n16,7)=some ⟨6,[[int b.roots,v441,v440,int w75,v436,v433]]⟩∧H (n16+1,8)=some ⟨6,[[int 1,v439,v438,int w74,v434,v437]]⟩)∧Sep H n [oW v433 l425,oS v434 l394,oI v435 l370,oS v436 l341,oW v437 ([]:List Wire),oI v438 ([]:List Int),oN v439 ([]:List GNode),oI v440 ([]:List Int),oN v441 ([]:List GNode),oI v442 l76,oE [.c] boolC v443 r7] [(n16+1,8),(n16,7),(n1+2,5),(n1+1,4),(n1,2)]) (by refine⟨v426,v402,.arr id417 l370.length 0 l370.length,v404,v405,v406,v407,v409,v410,v411,v412,by simp[hh,m2_1,m4_2,m5_3,m7_16,m8_17,ni420,f422,f423,f432,-cellsA,-indexAddrF,-one1,cAx,o1x],(Sep.setVar (w:=(n16,7)) sp (by simp))⟩) ?_
    clear hh m2_1 m4_2 m5_3 m7_16 m8_17 ni420
    rintro ρ H n444 ⟨v433,v434,v435,v436,v437,v438,v439,v440,v441,v442,v443,⟨hh,m2_1,m4_2,m5_3,m7_16,m8_17⟩,sp⟩
    refine zF fun k' hk'=>?_
    obtain⟨hb445,h⟩:=h
    obtain⟨l446,el446,h⟩:=atm h
    simp[hh,m2_1,m4_2,m5_3,m7_16,m8_17,-appendF]
    refine bind_append [] [oW v433 l425,oS v434 l394,oI v435 l370,oS v436 l341,oW v437 ([]:List Wire),oI v438 ([]:List Int),oN v439 ([]:List GNode),oI v440 ([]:List Int),oN v441 ([]:List GNode),oE [.c] boolC v443 r7] [[int (-1)]] [intC (-1)] sp.f9 kd_24 (by simp) (by simp) (by simp) (by simp[-one1,o1x]) (rows_one (Fill.v _ Fill.nil)) (by simp) (by simpa using hb445) ?_
    rintro v447 H448 n449 sp hfr450 hle451
    replace sp:Sep H448 n449 [oI v447 l446,oW v433 l425,oS v434 l394,oI v435 l370,oS v436 l341,oW v437 ([]:List Wire),oI v438 ([]:List Int),oN v439 ([]:List GNode),oI v440 ([]:List Int),oN v441 ([]:List GNode),oE [.c] boolC v443 r7] [(n16+1,8),(n16,7),(n1+2,5),(n1+1,4),(n1,2)]:=Sep.ap el446 sp
    have m2_1:=(hfr450 _ (by simp)).trans m2_1
    have m4_2:=(hfr450 _ (by simp)).trans m4_2
    have m5_3:=(hfr450 _ (by simp)).trans m5_3
    have m7_16:=(hfr450 _ (by simp)).trans m7_16
    have m8_17:=(hfr450 _ (by simp)).trans m8_17
    simp[hh,m2_1,m4_2,m5_3,m7_16,m8_17]
    apply hk'
    refine Runs.cut (fun ρ H n=>∃ (v453 v454 v455 v456 v457 v458 v459 v460 v461 v462 v463:AVal),((ρ 1=int node∧ρ 2=pA n1 2∧ρ 4=pA (n1+1) 4∧ρ 5=pA (n1+2) 5∧ρ 6=v463∧ρ 7=pA n16 7∧ρ 8=pA (n16+1) 8∧ρ 9=v456∧ρ 10=v453∧ρ 11=int link73)∧H (n1,2)=some ⟨6,[bC false b]⟩∧H (n1+1,4)=some ⟨6,[zB]⟩∧H (n1+2,5)=some ⟨6,[zB]⟩∧H (n16,7)=some ⟨6,[[int b.roots,v462,v461,int w75,v457,v454]]⟩∧H (n16+1,8)=some ⟨6,[[int 1,v460,v459,int w74,v455,v458]]⟩)∧Sep H n [oI v453 l446,oW v454 l425,oS v455 l394,oI v456 l370,oS v457 l341,oW v458 ([]:List Wire),oI v459 ([]:List Int),oN v460 ([]:List GNode),oI v461 ([]:List Int),oN v462 ([]:List GNode),oE [.c] boolC v463 r7] [(n16+1,8),(n16,7),(n1+2,5),(n1+1,4),(n1,2)]) (by refine⟨v447,v433,v434,v435,v436,v437,v438,v439,v440,v441,v443,by simp[hh,m2_1,m4_2,m5_3,m7_16,m8_17],sp⟩) ?_
    clear hh m2_1 m4_2 m5_3 m7_16 m8_17
    rintro ρ H n464 ⟨v453,v454,v455,v456,v457,v458,v459,v460,v461,v462,v463,⟨hh,m2_1,m4_2,m5_3,m7_16,m8_17⟩,sp⟩
    refine Runs.inBlock ?_
    refine zF fun k' hk'=>?_
    obtain⟨hb465,h⟩:=h
    obtain⟨v466,ev466,h⟩:=atm h
    have f467:=ib_add hb465 ev466
    simp[hh,m2_1,m4_2,m5_3,m7_16,m8_17,f467,-intBin]
    apply hk'
    refine IH93 (v466,w74,w75,l446,l370,l394,l425,l341) _ _ _ h (by refine⟨v458,v455,v459,v460,v454,v457,v461,v462,v453,v456,v463,by simp[hh,m2_1,m4_2,m5_3,m7_16,m8_17],sp.f9.f9.f6.f4.f9.f9.f7.f9⟩)
   replace h:=h.2 dc389
   refine Runs.skip ?_
   refine zF fun k' hk'=>?_
   obtain⟨hb468,h⟩:=h
   obtain⟨l469,el469,h⟩:=atm h
   simp[hh,m2_1,m4_2,m5_3,m7_16,m8_17,dc389,-appendF]
   refine bind_append [] [oI v377 l370,oS v378 l341,oW v379 ([]:List Wire),oS v380 l78,oI v381 ([]:List Int),oN v382 ([]:List GNode),oW v383 l79,oI v384 ([]:List Int),oN v385 ([]:List GNode),oE [.c] boolC v387 r7] [[int (-1)]] [intC (-1)] sp.f9 kd_24 (by simp) (by simp) (by simp) (by simp[-one1,o1x]) (rows_one (Fill.v _ Fill.nil)) (by simp) (by simpa using hb468) ?_
   rintro v470 H471 n472 sp hfr473 hle474
   replace sp:Sep H471 n472 [oI v470 l469,oI v377 l370,oS v378 l341,oW v379 ([]:List Wire),oS v380 l78,oI v381 ([]:List Int),oN v382 ([]:List GNode),oW v383 l79,oI v384 ([]:List Int),oN v385 ([]:List GNode),oE [.c] boolC v387 r7] [(n16+1,8),(n16,7),(n1+2,5),(n1+1,4),(n1,2)]:=Sep.ap el469 sp
   have m2_1:=(hfr473 _ (by simp)).trans m2_1
   have m4_2:=(hfr473 _ (by simp)).trans m4_2
   have m5_3:=(hfr473 _ (by simp)).trans m5_3
   have m7_16:=(hfr473 _ (by simp)).trans m7_16
   have m8_17:=(hfr473 _ (by simp)).trans m8_17
   simp[hh,m2_1,m4_2,m5_3,m7_16,m8_17,dc389]
   apply hk'
   refine Runs.cut (fun ρ H n=>∃ (v476 v477 v478 v479 v480 v481 v482 v483 v484 v485 v486:AVal),((ρ 1=int node∧ρ 2=pA n1 2∧ρ 4=pA (n1+1) 4∧ρ 5=pA (n1+2) 5∧ρ 6=v486∧ρ 7=pA n16 7∧ρ 8=pA (n16+1) 8∧ρ 9=v477∧ρ 10=v476∧ρ 11=int link73)∧H (n1,2)=some ⟨6,[bC false b]⟩∧H (n1+1,4)=some ⟨6,[zB]⟩∧H (n1+2,5)=some ⟨6,[zB]⟩∧H (n16,7)=some ⟨6,[[int b.roots,v485,v484,int w75,v478,v483]]⟩∧H (n16+1,8)=some ⟨6,[[int 1,v482,v481,int w74,v480,v479]]⟩)∧Sep H n [oI v476 l469,oI v477 l370,oS v478 l341,oW v479 ([]:List Wire),oS v480 l78,oI v481 ([]:List Int),oN v482 ([]:List GNode),oW v483 l79,oI v484 ([]:List Int),oN v485 ([]:List GNode),oE [.c] boolC v486 r7] [(n16+1,8),(n16,7),(n1+2,5),(n1+1,4),(n1,2)]) (by refine⟨v470,v377,v378,v379,v380,v381,v382,v383,v384,v385,v387,by simp[hh,m2_1,m4_2,m5_3,m7_16,m8_17,dc389],sp⟩) ?_
   clear hh m2_1 m4_2 m5_3 m7_16 m8_17
   rintro ρ H n487 ⟨v476,v477,v478,v479,v480,v481,v482,v483,v484,v485,v486,⟨hh,m2_1,m4_2,m5_3,m7_16,m8_17⟩,sp⟩
   refine Runs.inBlock ?_
   refine zF fun k' hk'=>?_
   obtain⟨hb488,h⟩:=h
   obtain⟨v489,ev489,h⟩:=atm h
   have f490:=ib_add hb488 ev489
   simp[hh,m2_1,m4_2,m5_3,m7_16,m8_17,f490,-intBin]
   apply hk'
   refine IH93 (v489,w74,w75,l469,l370,l78,l79,l341) _ _ _ h (by refine⟨v479,v480,v481,v482,v483,v478,v484,v485,v476,v477,v486,by simp[hh,m2_1,m4_2,m5_3,m7_16,m8_17],sp.f9.f9.f4.f9.f9.f9.f9.f9⟩)
  replace h:=hJ105
  obtain⟨c491,ec491,h⟩:=atm h
  have f492:=ib_lss (k:=.i64) ec491
  rcases Bool.eq_false_or_eq_true c491 with dc491 | dc491
  ·replace h:=h.1 dc491
   obtain⟨c493,ec493,h⟩:=atm h
   have f494:=ib_gtr (k:=.i64) ec493
   rcases Bool.eq_false_or_eq_true c493 with dc493 | dc493
   ·replace h:=h.1 dc493
    obtain⟨hb495,h⟩:=h
    obtain⟨r496,er496,h⟩:=atm h
    simp[hh,m2_1,m4_2,m5_3,m7_16,m8_17,f492,f494,dc100,dc491,dc493,-intBin]
    refine RunK.callA Ty_ok (l4Some_ok b link73 r7 false hb495) e95 (.cons (argB false b) (.cons (.v _ _ _) (.cons (Sep.argOk' sp.f10 (old_listF (flatB _))) (.cons (.v _ _ _) .nil)))) (by decide) (by decide) rfl (by simp[hh,m2_1,m4_2,m5_3,m7_16,m8_17,f492,f494,dc100,dc491,dc493,-intBin]) ?_
    rintro _ rfl
    rw[← er496]
    obtain⟨c497,ec497,h⟩:=atm h
    have f498:=ib_eql (k:=.i64) ec497
    simp[hh,m2_1,m4_2,m5_3,m7_16,m8_17,f492,f494,f498,dc100,dc491,dc493,-intBin]
    exact fin119 (c497) _ _ _ h (by refine⟨v81,v82,v83,v84,v85,v86,v87,v88,v89,v90,v91,by simp[hh,m2_1,m4_2,m5_3,m7_16,m8_17,f492,f494,f498,dc100,dc491,dc493,-intBin],sp⟩)
   replace h:=h.2 dc493
   simp[hh,m2_1,m4_2,m5_3,m7_16,m8_17,f492,f494,dc100,dc491,dc493,-intBin]
   exact fin119 (false) _ _ _ h (by refine⟨v81,v82,v83,v84,v85,v86,v87,v88,v89,v90,v91,by simp[hh,m2_1,m4_2,m5_3,m7_16,m8_17,f492,f494,dc100,dc491,dc493,-intBin],sp⟩)
  replace h:=h.2 dc491
  simp[hh,m2_1,m4_2,m5_3,m7_16,m8_17,f492,dc100,dc491,-intBin]
  exact fin119 (false) _ _ _ h (by refine⟨v81,v82,v83,v84,v85,v86,v87,v88,v89,v90,v91,by simp[hh,m2_1,m4_2,m5_3,m7_16,m8_17,f492,dc100,dc491,-intBin],sp⟩)
 replace h:=h.2 dc100
 refine Runs.exit rfl ?_
 refine Runs.seq ?_
 refine zE fun k' hk'=>?_
 simp[hh,m2_1,m4_2,m5_3,m7_16,m8_17,dc100]
 apply hk'
 refine Runs.block ?_
 refine Runs.loopW h (fun (sJ:Int × (List Int)) ρ H n=>match sJ with | (link526,l527)=>∃ (v528 v529 v530 v531 v532 v533 v534 v535 v536 v537 v538:AVal),((ρ 1=int node∧ρ 2=pA n1 2∧ρ 4=pA (n1+1) 4∧ρ 5=pA (n1+2) 5∧ρ 6=v538∧ρ 7=pA n16 7∧ρ 8=pA (n16+1) 8∧ρ 9=v537∧ρ 10=v536∧ρ 13=int link526)∧H (n1,2)=some ⟨6,[bC false b]⟩∧H (n1+1,4)=some ⟨6,[zB]⟩∧H (n1+2,5)=some ⟨6,[zB]⟩∧H (n16,7)=some ⟨6,[[int b.roots,v535,v534,int w75,v533,v532]]⟩∧H (n16+1,8)=some ⟨6,[[int 1,v531,v530,int w74,v529,v528]]⟩)∧Sep H n [oW v528 ([]:List Wire),oS v529 l78,oI v530 ([]:List Int),oN v531 ([]:List GNode),oW v532 l79,oS v533 l80,oI v534 ([]:List Int),oN v535 ([]:List GNode),oI v536 l527,oI v537 l77,oE [.c] boolC v538 r7] [(n16+1,8),(n16,7),(n1+2,5),(n1+1,4),(n1,2)]) (by refine⟨v81,v82,v83,v84,v85,v86,v87,v88,v89,v90,v91,by simp[hh,m2_1,m4_2,m5_3,m7_16,m8_17,dc100],sp⟩) ?_
 clear hh m2_1 m4_2 m5_3 m7_16 m8_17
 rintro⟨link526,l527⟩ ρ H n539 K h ⟨v528,v529,v530,v531,v532,v533,v534,v535,v536,v537,v538,⟨hh,m2_1,m4_2,m5_3,m7_16,m8_17⟩,sp⟩ IH540
 refine Runs.seq ?_
 refine zE fun k' hk'=>?_
 obtain⟨len542,elen542,h⟩:=atm h
 have f543:=len_own (Sep.len (m:=len542) sp.f8 kd_24 (by rw[elen542,List.length_map]))
 obtain⟨c544,ec544,h⟩:=atm h
 have f545:=ib_lss (k:=.i64) ec544
 simp[hh,m2_1,m4_2,m5_3,m7_16,m8_17,f543,f545,-intBin,-lenF]
 apply hk'
 refine Runs.ite (b:=c544) (by simp[hh,m2_1,m4_2,m5_3,m7_16,m8_17]) (fun dc544=>?_) (fun dc544=>?_)
 ·replace h:=h.1 dc544
  refine Runs.skip ?_
  refine Runs.seq ?_
  refine Runs.block ?_
  refine Runs.seqD Ty_ok kindOp_ok draws (by decide) (by kernel_rfl) fun k' hk'=>?_
  obtain⟨hb546,h⟩:=h
  obtain⟨r547,er547,h⟩:=atm h
  simp[hh,m2_1,m4_2,m5_3,m7_16,m8_17,dc544]
  refine RunDK.callA Ty_ok kindOp_ok (l4Letter_ok link526 hb546) e96 (.cons (.v _ _ _) .nil) (by decide) rfl (by simp[hh,m2_1,m4_2,m5_3,m7_16,m8_17,dc544]) ?_
  rw[← er547]
  obtain⟨hb548,h⟩:=h
  obtain⟨r549,er549,h⟩:=atm h
  simp[hh,m2_1,m4_2,m5_3,m7_16,m8_17,dc544]
  refine RunDK.callA Ty_ok kindOp_ok (l2At_ok l78 r547 hb548) e97 (.cons (Sep.argOk' sp.f1 (old_listF (by simp))) (.cons (.v _ _ _) .nil)) (by decide) rfl (by simp[hh,m2_1,m4_2,m5_3,m7_16,m8_17,dc544]) ?_
  rw[← er549]
  simp[hh,m2_1,m4_2,m5_3,m7_16,m8_17,dc544]
  apply hk'
  refine zE fun k' hk'=>?_
  obtain⟨c550,ec550,h⟩:=atm h
  have f551:=ib_geq (k:=.i64) ec550
  simp[hh,m2_1,m4_2,m5_3,m7_16,m8_17,f551,dc544,-intBin]
  apply hk'
  refine Runs.ite (b:=c550) (by simp[hh,m2_1,m4_2,m5_3,m7_16,m8_17,dc544]) (fun dc550=>?_) (fun dc550=>?_)
  ·replace h:=h.1 dc550
   refine zF fun k' hk'=>?_
   obtain⟨hb552,h⟩:=h
   obtain⟨v553,ev553,h⟩:=atm h
   have f554:=ib_add hb552 ev553
   obtain⟨hb555,h⟩:=h
   obtain⟨id556,hv,mo557,ln558,ni559⟩:=Sep.openF sp.f8 (by simp) hb555
   subst hv
   simp at ni559
   obtain⟨x560,ex560,h⟩:=atm h
   have f561:=fun H (hm:H id556=some ⟨1,l527.map intC⟩)=>ix_arr (H:=H) (k:=.i64) (off:=0) (len:=l527.length) (g:=l527.length) kd_24 hm (by simp) rfl hb555
   have f562:=at_some (q:=link526.toNat) hb555 ex560 rfl
   obtain⟨l563,el563,h⟩:=atm h
   simp[hh,m2_1,m4_2,m5_3,m7_16,m8_17,mo557,ni559,f554,f561,f562,dc544,dc550,-indexAddrF,-intBin,-storeF]
   refine bind_store (q:=link526.toNat) (news:=intC v553) [] [oW v528 ([]:List Wire),oS v529 l78,oI v530 ([]:List Int),oN v531 ([]:List GNode),oW v532 l79,oS v533 l80,oI v534 ([]:List Int),oN v535 ([]:List GNode),oI v537 l77,oE [.c] boolC v538 r7] sp.f8 (by simp) (by simp;omega) (by simp) (by simp[-one1,o1x]) (Fill.v _ Fill.nil) ?_
   rintro H564 sp hfr565
   replace sp:Sep H564 n539 [oI (.arr id556 l527.length 0 l527.length) l563,oW v528 ([]:List Wire),oS v529 l78,oI v530 ([]:List Int),oN v531 ([]:List GNode),oW v532 l79,oS v533 l80,oI v534 ([]:List Int),oN v535 ([]:List GNode),oI v537 l77,oE [.c] boolC v538 r7] [(n16+1,8),(n16,7),(n1+2,5),(n1+1,4),(n1,2)]:=Sep.st el563 sp
   have m2_1:=(hfr565 _ (by simp)).trans m2_1
   have m4_2:=(hfr565 _ (by simp)).trans m4_2
   have m5_3:=(hfr565 _ (by simp)).trans m5_3
   have m7_16:=(hfr565 _ (by simp)).trans m7_16
   have m8_17:=(hfr565 _ (by simp)).trans m8_17
   simp[hh,m2_1,m4_2,m5_3,m7_16,m8_17,ni559,f554,f561,f562,dc544,dc550,-indexAddrF,-intBin]
   apply hk'
   refine Runs.cut (fun ρ H n=>∃ (v567 v568 v569 v570 v571 v572 v573 v574 v575 v576 v577:AVal),((ρ 1=int node∧ρ 2=pA n1 2∧ρ 4=pA (n1+1) 4∧ρ 5=pA (n1+2) 5∧ρ 6=v577∧ρ 7=pA n16 7∧ρ 8=pA (n16+1) 8∧ρ 9=v576∧ρ 10=v567∧ρ 13=int link526)∧H (n1,2)=some ⟨6,[bC false b]⟩∧H (n1+1,4)=some ⟨6,[zB]⟩∧H (n1+2,5)=some ⟨6,[zB]⟩∧H (n16,7)=some ⟨6,[[int b.roots,v575,v574,int w75,v573,v572]]⟩∧H (n16+1,8)=some ⟨6,[[int 1,v571,v570,int w74,v569,v568]]⟩)∧Sep H n [oI v567 l563,oW v568 ([]:List Wire),oS v569 l78,oI v570 ([]:List Int),oN v571 ([]:List GNode),oW v572 l79,oS v573 l80,oI v574 ([]:List Int),oN v575 ([]:List GNode),oI v576 l77,oE [.c] boolC v577 r7] [(n16+1,8),(n16,7),(n1+2,5),(n1+1,4),(n1,2)]) (by refine⟨.arr id556 l527.length 0 l527.length,v528,v529,v530,v531,v532,v533,v534,v535,v537,v538,by simp[hh,m2_1,m4_2,m5_3,m7_16,m8_17,ni559,f554,f561,f562,dc544,dc550,-indexAddrF,-intBin],sp⟩) ?_
   clear hh m2_1 m4_2 m5_3 m7_16 m8_17 ni559
   rintro ρ H n578 ⟨v567,v568,v569,v570,v571,v572,v573,v574,v575,v576,v577,⟨hh,m2_1,m4_2,m5_3,m7_16,m8_17⟩,sp⟩
   refine Runs.inBlock ?_
   refine zF fun k' hk'=>?_
   obtain⟨hb579,h⟩:=h
   obtain⟨v580,ev580,h⟩:=atm h
   have f581:=ib_add hb579 ev580
   simp[hh,m2_1,m4_2,m5_3,m7_16,m8_17,f581,-intBin]
   apply hk'
   refine IH540 (v580,l563) _ _ _ h (by refine⟨v568,v569,v570,v571,v572,v573,v574,v575,v567,v576,v577,by simp[hh,m2_1,m4_2,m5_3,m7_16,m8_17],sp.f8.f8.f8.f8.f8.f8.f8.f8⟩)
  replace h:=h.2 dc550
  refine Runs.skip ?_
  refine Runs.inBlock ?_
  refine zF fun k' hk'=>?_
  obtain⟨hb582,h⟩:=h
  obtain⟨v583,ev583,h⟩:=atm h
  have f584:=ib_add hb582 ev583
  simp[hh,m2_1,m4_2,m5_3,m7_16,m8_17,f584,dc544,dc550,-intBin]
  apply hk'
  refine Runs.cut (fun ρ H n=>∃ (v585 v586 v587 v588 v589 v590 v591 v592 v593 v594 v595:AVal),((ρ 1=int node∧ρ 2=pA n1 2∧ρ 4=pA (n1+1) 4∧ρ 5=pA (n1+2) 5∧ρ 6=v595∧ρ 7=pA n16 7∧ρ 8=pA (n16+1) 8∧ρ 9=v594∧ρ 10=v593∧ρ 13=int v583)∧H (n1,2)=some ⟨6,[bC false b]⟩∧H (n1+1,4)=some ⟨6,[zB]⟩∧H (n1+2,5)=some ⟨6,[zB]⟩∧H (n16,7)=some ⟨6,[[int b.roots,v592,v591,int w75,v590,v589]]⟩∧H (n16+1,8)=some ⟨6,[[int 1,v588,v587,int w74,v586,v585]]⟩)∧Sep H n [oW v585 ([]:List Wire),oS v586 l78,oI v587 ([]:List Int),oN v588 ([]:List GNode),oW v589 l79,oS v590 l80,oI v591 ([]:List Int),oN v592 ([]:List GNode),oI v593 l527,oI v594 l77,oE [.c] boolC v595 r7] [(n16+1,8),(n16,7),(n1+2,5),(n1+1,4),(n1,2)]) (by refine⟨v528,v529,v530,v531,v532,v533,v534,v535,v536,v537,v538,by simp[hh,m2_1,m4_2,m5_3,m7_16,m8_17,f584,dc544,dc550,-intBin],sp⟩) ?_
  clear hh m2_1 m4_2 m5_3 m7_16 m8_17
  rintro ρ H n596 ⟨v585,v586,v587,v588,v589,v590,v591,v592,v593,v594,v595,⟨hh,m2_1,m4_2,m5_3,m7_16,m8_17⟩,sp⟩
  refine IH540 (v583,l527) _ _ _ h (by refine⟨v585,v586,v587,v588,v589,v590,v591,v592,v593,v594,v595,by simp[hh,m2_1,m4_2,m5_3,m7_16,m8_17],sp⟩)
 replace h:=h.2 dc544
 refine Runs.exit rfl ?_
 refine zE fun k' hk'=>?_
 obtain⟨hb597,h⟩:=h
 obtain⟨r598,er598,h⟩:=atm h
 simp[hh,m2_1,m4_2,m5_3,m7_16,m8_17,dc544]
 refine RunK.callW Ty_ok (l4Take_ok b r7 false l77 false hb597) e98 (.cons (argB false b) (.cons (Sep.argOk' sp.f10 (old_listF (flatB _))) (.cons (.v _ _ _) (.cons (Sep.argOk' sp.f9 (old_listF (by simp))) (.cons (.v _ _ _) .nil))))) sp (by decide) (by decide) rfl (by simp[hh,m2_1,m4_2,m5_3,m7_16,m8_17,dc544]) ?_
 rintro v599 H600 n601 _ sp rfl hle603 hfr602
 rw[← er598] at sp
 have m2_1:=(hfr602 _ (by simp)).trans m2_1
 have m4_2:=(hfr602 _ (by simp)).trans m4_2
 have m5_3:=(hfr602 _ (by simp)).trans m5_3
 have m7_16:=(hfr602 _ (by simp)).trans m7_16
 have m8_17:=(hfr602 _ (by simp)).trans m8_17
 have f606:=Sep.oc sp
 simp[hh,m2_1,m4_2,m5_3,m7_16,m8_17,f606,dc544,-cellsA,-one1,cAx,o1x]
 apply hk'
 refine Runs.cut (fun ρ H n=>∃ (v607 v608 v609 v610 v611 v612 v613 v614 v615 v616:AVal),((ρ 1=int node∧ρ 2=pA n1 2∧ρ 4=pA (n1+1) 4∧ρ 5=pA (n1+2) 5∧ρ 6=v616∧ρ 7=pA n16 7∧ρ 8=pA (n16+1) 8∧ρ 10=v615)∧H (n1,2)=some ⟨6,[bC false b]⟩∧H (n1+1,4)=some ⟨6,[zB]⟩∧H (n1+2,5)=some ⟨6,[zB]⟩∧H (n16,7)=some ⟨6,[[int b.roots,v607,v614,int w75,v613,v612]]⟩∧H (n16+1,8)=some ⟨6,[[int 1,v611,v610,int w74,v609,v608]]⟩)∧Sep H n [oN v607 r598,oW v608 ([]:List Wire),oS v609 l78,oI v610 ([]:List Int),oN v611 ([]:List GNode),oW v612 l79,oS v613 l80,oI v614 ([]:List Int),oI v615 l527,oE [.c] boolC v616 r7] [(n16+1,8),(n16,7),(n1+2,5),(n1+1,4),(n1,2)]) (by refine⟨v599,v528,v529,v530,v531,v532,v533,v534,v536,v538,by simp[hh,m2_1,m4_2,m5_3,m7_16,m8_17,f606,dc544,-cellsA,-one1,cAx,o1x],(Sep.dr (Sep.f9 (Sep.dr (Sep.f8 (Sep.setVar (w:=(n16,7)) sp (by simp))))))⟩) ?_
 clear hh m2_1 m4_2 m5_3 m7_16 m8_17
 rintro ρ H n617 ⟨v607,v608,v609,v610,v611,v612,v613,v614,v615,v616,⟨hh,m2_1,m4_2,m5_3,m7_16,m8_17⟩,sp⟩
 refine zE fun k' hk'=>?_
 obtain⟨hb618,h⟩:=h
 obtain⟨r619,er619,h⟩:=atm h
 simp[hh,m2_1,m4_2,m5_3,m7_16,m8_17]
 refine RunK.callW Ty_ok (l4Take_ok b r7 true l527 true hb618) e98 (.cons (argB false b) (.cons (Sep.argOk' sp.f9 (old_listF (flatB _))) (.cons (.v _ _ _) (.cons (Sep.argOk' sp.f8 (old_listF (by simp))) (.cons (.v _ _ _) .nil))))) sp (by decide) (by decide) rfl (by simp[hh,m2_1,m4_2,m5_3,m7_16,m8_17]) ?_
 rintro v620 H621 n622 _ sp rfl hle624 hfr623
 rw[← er619] at sp
 have m2_1:=(hfr623 _ (by simp)).trans m2_1
 have m4_2:=(hfr623 _ (by simp)).trans m4_2
 have m5_3:=(hfr623 _ (by simp)).trans m5_3
 have m7_16:=(hfr623 _ (by simp)).trans m7_16
 have m8_17:=(hfr623 _ (by simp)).trans m8_17
 have f627:=Sep.oc sp
 simp[hh,m2_1,m4_2,m5_3,m7_16,m8_17,f627,-cellsA,-one1,cAx,o1x]
 apply hk'
 refine Runs.cut (fun ρ H n=>∃ (v628 v629 v630 v631 v632 v633 v634 v635 v636:AVal),((ρ 1=int node∧ρ 4=pA (n1+1) 4∧ρ 5=pA (n1+2) 5∧ρ 6=v636∧ρ 7=pA n16 7∧ρ 8=pA (n16+1) 8)∧H (n1+1,4)=some ⟨6,[zB]⟩∧H (n1+2,5)=some ⟨6,[zB]⟩∧H (n16,7)=some ⟨6,[[int b.roots,v629,v635,int w75,v634,v633]]⟩∧H (n16+1,8)=some ⟨6,[[int 1,v628,v632,int w74,v631,v630]]⟩)∧Sep H n [oN v628 r619,oN v629 r598,oW v630 ([]:List Wire),oS v631 l78,oI v632 ([]:List Int),oW v633 l79,oS v634 l80,oI v635 ([]:List Int),oE [.c] boolC v636 r7] [(n16+1,8),(n16,7),(n1+2,5),(n1+1,4)]) (by refine⟨v620,v607,v608,v609,v610,v612,v613,v614,v616,by simp[hh,m2_1,m4_2,m5_3,m7_16,m8_17,f627,-cellsA,-one1,cAx,o1x],(Sep.sub (Sep.dr (Sep.f8 (Sep.dr (Sep.f5 (Sep.setVar (w:=(n16+1,8)) sp (by simp)))))) (by simp +contextual))⟩) ?_
 clear hh m2_1 m4_2 m5_3 m7_16 m8_17
 rintro ρ H n637 ⟨v628,v629,v630,v631,v632,v633,v634,v635,v636,⟨hh,m4_2,m5_3,m7_16,m8_17⟩,sp⟩
 refine zE fun k' hk'=>?_
 simp[hh,m4_2,m5_3,m7_16,m8_17]
 apply hk'
 refine Runs.seq ?_
 refine zE fun k' hk'=>?_
 simp[hh,m4_2,m5_3,m7_16,m8_17]
 apply hk'
 refine Runs.block ?_
 refine Runs.loopW h (fun (sJ:Int × Int) ρ H n=>match sJ with | (placeV650,i651)=>∃ (v652 v653 v654 v655 v656 v657 v658 v659 v660:AVal),((ρ 1=int node∧ρ 4=pA (n1+1) 4∧ρ 5=pA (n1+2) 5∧ρ 6=v660∧ρ 7=pA n16 7∧ρ 8=pA (n16+1) 8∧ρ 15=int placeV650∧ρ 16=int i651)∧H (n1+1,4)=some ⟨6,[zB]⟩∧H (n1+2,5)=some ⟨6,[zB]⟩∧H (n16,7)=some ⟨6,[[int b.roots,v653,v659,int w75,v658,v657]]⟩∧H (n16+1,8)=some ⟨6,[[int 1,v652,v656,int w74,v655,v654]]⟩)∧Sep H n [oN v652 r619,oN v653 r598,oW v654 ([]:List Wire),oS v655 l78,oI v656 ([]:List Int),oW v657 l79,oS v658 l80,oI v659 ([]:List Int),oE [.c] boolC v660 r7] [(n16+1,8),(n16,7),(n1+2,5),(n1+1,4)]) (by refine⟨v628,v629,v630,v631,v632,v633,v634,v635,v636,by simp[hh,m4_2,m5_3,m7_16,m8_17],sp⟩) ?_
 clear hh m4_2 m5_3 m7_16 m8_17
 rintro⟨placeV650,i651⟩ ρ H n661 K h ⟨v652,v653,v654,v655,v656,v657,v658,v659,v660,⟨hh,m4_2,m5_3,m7_16,m8_17⟩,sp⟩ IH662
 refine Runs.seq ?_
 refine zE fun k' hk'=>?_
 obtain⟨c664,ec664,h⟩:=atm h
 have f665:=ib_lss (k:=.i64) ec664
 simp[hh,m4_2,m5_3,m7_16,m8_17,f665,-intBin]
 apply hk'
 refine Runs.ite (b:=c664) (by simp[hh,m4_2,m5_3,m7_16,m8_17]) (fun dc664=>?_) (fun dc664=>?_)
 ·replace h:=h.1 dc664
  refine Runs.skip ?_
  refine Runs.seq ?_
  refine Runs.block ?_
  refine zE fun k' hk'=>?_
  obtain⟨hb666,h⟩:=h
  obtain⟨id667,hv,mo668,ln669,ni670⟩:=Sep.openF sp.f8 (by simp) hb666
  subst hv
  simp at ni670
  obtain⟨x671,ex671,h⟩:=atm h
  have f672:=fun H (hm:H id667=some ⟨1,r7.map boolC⟩)=>ix_arr (H:=H) (k:=.i64) (off:=0) (len:=r7.length) (g:=r7.length) kd_117 hm (by simp) rfl hb666
  have f673:=at_some (q:=i651.toNat) hb666 ex671 rfl
  simp[hh,m4_2,m5_3,m7_16,m8_17,mo668,ni670,f672,f673,dc664,boolC,-indexAddrF]
  apply hk'
  refine Runs.ite (b:=(!x671)) (by simp[hh,m4_2,m5_3,m7_16,m8_17,mo668,ni670,dc664,boolC]) (fun dx671=>?_) (fun dx671=>?_)
  ·have dx671:x671=false:=by simpa using dx671
   replace h:=h.2 dx671
   refine zF fun k' hk'=>?_
   obtain⟨hb674,h⟩:=h
   obtain⟨v675,ev675,h⟩:=atm h
   have f676:=ib_add hb674 ev675
   simp[hh,m4_2,m5_3,m7_16,m8_17,mo668,ni670,f676,dc664,dx671,boolC,-intBin]
   apply hk'
   refine Runs.inBlock ?_
   refine zF fun k' hk'=>?_
   obtain⟨hb677,h⟩:=h
   obtain⟨v678,ev678,h⟩:=atm h
   have f679:=ib_add hb677 ev678
   simp[hh,m4_2,m5_3,m7_16,m8_17,mo668,ni670,f679,dc664,dx671,boolC,-intBin]
   apply hk'
   refine IH662 (v675,v678) _ _ _ h (by refine⟨v652,v653,v654,v655,v656,v657,v658,v659,.arr id667 r7.length 0 r7.length,by simp[hh,m4_2,m5_3,m7_16,m8_17,mo668,ni670,dc664,dx671,boolC],sp⟩)
  have dx671:x671=true:=by simpa using dx671
  replace h:=h.1 dx671
  refine Runs.skip ?_
  refine Runs.inBlock ?_
  refine zF fun k' hk'=>?_
  obtain⟨hb680,h⟩:=h
  obtain⟨v681,ev681,h⟩:=atm h
  have f682:=ib_add hb680 ev681
  simp[hh,m4_2,m5_3,m7_16,m8_17,mo668,ni670,f682,dc664,dx671,boolC,-intBin]
  apply hk'
  refine IH662 (placeV650,v681) _ _ _ h (by refine⟨v652,v653,v654,v655,v656,v657,v658,v659,.arr id667 r7.length 0 r7.length,by simp[hh,m4_2,m5_3,m7_16,m8_17,mo668,ni670,dc664,dx671,boolC],sp⟩)
 replace h:=h.2 dc664
 refine Runs.exit rfl ?_
 refine Runs.seqK Ty_ok (by decide) fun k' hk'=>?_
 refine RunK.same1 (v:=(int placeV650)) Ty_ok (by decide) rfl (by simp[hh,m4_2,m5_3,m7_16,m8_17,dc664,boolC]) ?_
 obtain⟨l683,el683,h⟩:=atm h
 refine RunK.makeS (l':=[.c]) (cs:=[int placeV650]) Ty_ok (([placeV650]:List Int).map intC) sp (by decide) (by decide) (by simp) kd_24 (by simp) (by simp) (by simp[hh,m4_2,m5_3,m7_16,m8_17,dc664,splice,List.replicate,fillA,boolC]) (by simp[chunks,List.range_succ,boolC]) (by simp) (by simp[boolC]) ?_
 rintro id684 H685 n686 sp hfr687 hle688
 replace sp:Sep H685 n686 [oI (.arr id684 1 0 1) l683,oN v652 r619,oN v653 r598,oW v654 ([]:List Wire),oS v655 l78,oI v656 ([]:List Int),oW v657 l79,oS v658 l80,oI v659 ([]:List Int),oE [.c] boolC v660 r7] [(n16+1,8),(n16,7),(n1+2,5),(n1+1,4)]:=by rw[el683];exact sp
 have m4_2:=(hfr687 _ (by simp)).trans m4_2
 have m5_3:=(hfr687 _ (by simp)).trans m5_3
 have m7_16:=(hfr687 _ (by simp)).trans m7_16
 have m8_17:=(hfr687 _ (by simp)).trans m8_17
 simp[hh,m4_2,m5_3,m7_16,m8_17,dc664,boolC]
 apply hk'
 refine Runs.cut (fun ρ H n=>∃ (v691 v692 v693 v694 v695 v696 v697 v698:AVal),((ρ 4=pA (n1+1) 4∧ρ 5=pA (n1+2) 5∧ρ 7=pA n16 7∧ρ 8=pA (n16+1) 8)∧H (n1+1,4)=some ⟨6,[zB]⟩∧H (n1+2,5)=some ⟨6,[zB]⟩∧H (n16,7)=some ⟨6,[[int b.roots,v693,v691,int w75,v698,v697]]⟩∧H (n16+1,8)=some ⟨6,[[int 1,v692,v696,int w74,v695,v694]]⟩)∧Sep H n [oI v691 l683,oN v692 r619,oN v693 r598,oW v694 ([]:List Wire),oS v695 l78,oI v696 ([]:List Int),oW v697 l79,oS v698 l80] [(n16+1,8),(n16,7),(n1+2,5),(n1+1,4)]) (by refine⟨.arr id684 1 0 1,v652,v653,v654,v655,v656,v657,v658,by simp[hh,m4_2,m5_3,m7_16,m8_17,dc664,boolC],(Sep.dr (Sep.f8 (Sep.dr (Sep.f8 (Sep.setVar (w:=(n16,7)) sp (by simp))))))⟩) ?_
 clear hh m4_2 m5_3 m7_16 m8_17
 rintro ρ H n699 ⟨v691,v692,v693,v694,v695,v696,v697,v698,⟨hh,m4_2,m5_3,m7_16,m8_17⟩,sp⟩
 refine Runs.cut (fun ρ H n=>∃ (v700 v701 v702 v703 v704 v705 v706 v707:AVal),((ρ 4=pA (n1+1) 4∧ρ 5=pA (n1+2) 5∧ρ 7=pA n16 7∧ρ 8=pA (n16+1) 8)∧H (n1+1,4)=some ⟨6,[zB]⟩∧H (n1+2,5)=some ⟨6,[zB]⟩∧H (n16,7)=some ⟨6,[[int b.roots,v702,v700,int w75,v707,v706]]⟩∧H (n16+1,8)=some ⟨6,[[int 1,v701,v705,int w74,v704,v703]]⟩)∧Sep H n [oI v700 l683,oN v701 r619,oN v702 r598,oW v703 ([]:List Wire),oS v704 l78,oI v705 ([]:List Int),oW v706 l79,oS v707 l80] [(n16+1,8),(n16,7),(n1+2,5),(n1+1,4)]) (by refine⟨v691,v692,v693,v694,v695,v696,v697,v698,by simp[hh,m4_2,m5_3,m7_16,m8_17,boolC],sp⟩) ?_
 clear hh m4_2 m5_3 m7_16 m8_17
 rintro ρ H n708 ⟨v700,v701,v702,v703,v704,v705,v706,v707,⟨hh,m4_2,m5_3,m7_16,m8_17⟩,sp⟩
 refine Runs.seqC (fun H n=>H (n16,7)=some ⟨6,[[int b.roots,v702,v700,int w75,v707,v706]]⟩∧H (n16+1,8)=some ⟨6,[[int 1,v701,v705,int w74,v704,v703]]⟩∧Sep H n [oI v700 l683,oN v701 r619,oN v702 r598,oW v703 ([]:List Wire),oS v704 l78,oI v705 ([]:List Int),oW v706 l79,oS v707 l80] [(n16+1,8),(n16,7),(n1+2,5),(n1+1,4)]) [2,3] (.free 0 (.free 1 (.hard 2 (.hard 3 (.fin) (.stop)) (.stop)))) (fun ρ H n=>∃ (v709 v710 v711 v712 v713 v714 v715 v716:AVal),((ρ 4=pA (n1+1) 4∧ρ 5=pA (n1+2) 5)∧H (n1+1,4)=some ⟨6,[[int b.roots,v711,v709,int w75,v716,v715]]⟩∧H (n1+2,5)=some ⟨6,[[int 1,v710,v714,int w74,v713,v712]]⟩)∧Sep H n [oI v709 l683,oN v710 r619,oN v711 r598,oW v712 ([]:List Wire),oS v713 l78,oI v714 ([]:List Int),oW v715 l79,oS v716 l80] [(n1+2,5),(n1+1,4)]) draws (by decide) (by kernel_rfl) ?_ ?_
 ·refine RunT.free (.agg [int b.roots,v702,v700,int w75,v707,v706]) rfl rfl ⟨m7_16,m8_17,sp⟩ (fun H n hS=>by obtain⟨m7_16,m8_17,sp⟩:=hS;exact (by exact stepF_ok Ty_ok (by rw[stepF_loc];simp[hh,m4_2,m5_3,m7_16,m8_17,boolC]))) ?_
  refine RunT.free (.agg [int 1,v701,v705,int w74,v704,v703]) rfl rfl ⟨m7_16,m8_17,sp⟩ (fun H n hS=>by obtain⟨m7_16,m8_17,sp⟩:=hS;exact (by exact stepF_ok Ty_ok (by rw[stepF_loc];simp[hh,m4_2,m5_3,m7_16,m8_17,boolC]))) ?_
  refine⟨?_,trivial⟩
  have f724:=Sep.oc sp.f2
  have f725:=Sep.oc sp
  have f726:=Sep.oc sp.f7
  have f727:=Sep.oc sp.f6
  refine RunT.step (v:=.undef) Ty_ok rfl rfl (by simp[hh,m4_2,m5_3,m7_16,m8_17,f724,f725,f726,f727,boolC,-cellsA,-one1,cAx,o1x];first | exact⟨rfl,rfl⟩ | exact rfl) (fun _=>⟨(by simp[hh,m4_2,m5_3,m7_16,m8_17,f724,f725,f726,f727,Heap.get_set,boolC,-cellsA,-one1,cAx,o1x]),(by simp[hh,m4_2,m5_3,m7_16,m8_17,f724,f725,f726,f727,Heap.get_set,boolC,-cellsA,-one1,cAx,o1x]),(Sep.setVar (w:=(n1+1,4)) sp (by simp))⟩) ?_
  refine⟨?_,trivial⟩
  have f734:=Sep.oc sp.f1
  have f735:=Sep.oc sp.f5
  have f736:=Sep.oc sp.f4
  have f737:=Sep.oc sp.f3
  refine RunT.step (v:=.undef) Ty_ok rfl rfl (by simp[hh,m4_2,m5_3,m7_16,m8_17,f724,f725,f726,f727,f734,f735,f736,f737,boolC,-cellsA,-one1,cAx,o1x];first | exact⟨rfl,rfl⟩ | exact rfl) (fun hl=>absurd (hl.symm.trans (show lateC _ _ _=true by kernel_rfl)) (by decide)) ?_
  refine RunT.fin (by refine⟨v700,v701,v702,v703,v704,v705,v706,v707,by simp[hh,m4_2,m5_3,m7_16,m8_17,f724,f725,f726,f727,f734,f735,f736,f737,boolC,-cellsA,-one1,cAx,o1x],(Sep.sub (Sep.setVar (w:=(n1+2,5)) (Sep.setVar (w:=(n1+1,4)) sp (by simp)) (by simp)) (by simp +contextual))⟩)
 clear hh m4_2 m5_3 m7_16 m8_17
 rintro ρ H n717 ⟨v709,v710,v711,v712,v713,v714,v715,v716,⟨hh,m4_2,m5_3⟩,sp⟩
 exact Runs.res2 Ty_ok (v:=.agg [int b.roots,v711,v709,int w75,v716,v715]) (w:=.agg [int 1,v710,v714,int w74,v713,v712]) Tryz.func38 Tryz.results38 (by simp[hh,m4_2,m5_3,resA,boolC]) (by simp[hh,m4_2,m5_3,resA,boolC]) (hQ _ _ _ _ (Sep.sub (ids':=[]) (Sep.packT (Fill.own (Fill.own Fill.nil)) (Sep.f1 (Sep.pack (Fill.v _ (Fill.own (Fill.own (Fill.v _ (Fill.own (Fill.own Fill.nil)))))) (Sep.f4 (Sep.f4 (Sep.f3 (Sep.f2 (Sep.pack (Fill.v _ (Fill.own (Fill.own (Fill.v _ (Fill.own (Fill.own Fill.nil)))))) sp.f6.f7.f2.f4)))))))) (by simp)) ⟨((Big.mk b.roots r598 l683 w75 l80 l79),(Big.mk 1 r619 ([]:List Int) w74 l78 ([]:List Wire))),h,rfl⟩)
theorem l4Cut_ok (b:Big) (node:Int) (hp:l4Cut_pre b node):OwnS Tryz.prog 38 [.agg (bC false b),int node] (.t [.a [.c,.s [.c,.c,.s [.c]],.s [.c],.c,.s [.c],.s [.c,.c]],.a [.c,.s [.c,.c,.s [.c]],.s [.c],.c,.s [.c],.s [.c,.c]]]) (fun r=>r = .tup [.agg [int (((l4Cut b node).1).roots),.list true ((((l4Cut b node).1).nodes).map (GNode.cells true)),.list true ((((l4Cut b node).1).sites).map intC),int (((l4Cut b node).1).edges),.list true ((((l4Cut b node).1).outer).map strC),.list true ((((l4Cut b node).1).inner).map Wire.cells)],.agg [int (((l4Cut b node).2).roots),.list true ((((l4Cut b node).2).nodes).map (GNode.cells true)),.list true ((((l4Cut b node).2).sites).map intC),int (((l4Cut b node).2).edges),.list true ((((l4Cut b node).2).outer).map strC),.list true ((((l4Cut b node).2).inner).map Wire.cells)]]):=(l4Cut_walk b node _ (l4Cut_vc b node hp)).mono (by rintro _ ⟨_,rfl,rfl⟩;rfl)
theorem e12:Ent Tryz.prog 12:=Ent.of Tryz.func12 (by kernel_rfl) rfl
set_option maxHeartbeats 2000000 in
theorem CutUnder_walk (sig:List Control) (b:Big) (node:Int) (Z:(Big × Big × Bool)→Prop) (h:CutUnder_wp sig b node Z):OwnS Tryz.prog 12 [.list false (sig.map Control.cells),.agg (bC false b),int node] (.t [.a [.c,.s [.c,.c,.s [.c]],.s [.c],.c,.s [.c],.s [.c,.c]],.a [.c,.s [.c,.c,.s [.c]],.s [.c],.c,.s [.c],.s [.c,.c]],.c]) (fun r=>∃ y:Big × Big × Bool,Z y∧r = .tup [.agg (bC true y.1),.agg (bC true y.2.1),bool y.2.2]):=by
 unfold CutUnder_wp at h
 have sp:Sep noHeap 0 [] []:=Sep.nil (by simp)
 refine OwnS.of Tryz.func12 rfl Tryz.ntmps12 (by simp) fun Q hQ=>?_
 refine Runs.cut (fun ρ H n=>(ρ 0 = .list false (sig.map Control.cells)∧ρ 1 = .agg (bC false b)∧ρ 2=int node)∧Sep H n [] []) (by refine⟨by simp ,sp⟩) ?_
 rintro ρ H n1 ⟨hh,sp⟩
 refine zE fun k' hk'=>?_
 simp[hh]
 apply hk'
 refine Runs.cut (fun ρ H n=>((ρ 0 = .list false (sig.map Control.cells)∧ρ 4=pA n1 4∧ρ 5=pA (n1+1) 5∧ρ 6=pA (n1+2) 6∧ρ 7=pA (n1+3) 7)∧H (n1,4)=some ⟨6,[bC false b]⟩∧H (n1+1,5)=some ⟨1,[[int node]]⟩∧H (n1+2,6)=some ⟨6,[zB]⟩∧H (n1+3,7)=some ⟨6,[zB]⟩)∧Sep H n [] [(n1+3,7),(n1+2,6),(n1+1,5),(n1,4)]) (by refine⟨by simp[hh],sp.var.var.var.var⟩) ?_
 clear hh
 rintro ρ H n6 ⟨⟨hh,m4_1,m5_2,m6_3,m7_4⟩,sp⟩
 refine Runs.seq ?_
 refine zE fun k' hk'=>?_
 obtain⟨J7,hJ8,hr9⟩:=h
 have fin11:∀ (sJ:Bool) (ρ:Env) (H:Heap) (n:Nat),J7 sJ→(match sJ with | b10=>((ρ 0 = .list false (sig.map Control.cells)∧ρ 4=pA n1 4∧ρ 5=pA (n1+1) 5∧ρ 6=pA (n1+2) 6∧ρ 7=pA (n1+3) 7∧ρ 55=bool b10)∧H (n1,4)=some ⟨6,[bC false b]⟩∧H (n1+1,5)=some ⟨1,[[int node]]⟩∧H (n1+2,6)=some ⟨6,[zB]⟩∧H (n1+3,7)=some ⟨6,[zB]⟩)∧Sep H n [] [(n1+3,7),(n1+2,6),(n1+1,5),(n1,4)])→Runs Tryz.prog 12 239 k' ρ H n Q:=by
  rintro b10 ρ H n12 h ⟨⟨hh,m4_1,m5_2,m6_3,m7_4⟩,sp⟩
  replace h:=hr9 _ h
  apply hk'
  refine Runs.ite (b:=b10) (by simp[hh,m4_1,m5_2,m6_3,m7_4]) (fun db10=>?_) (fun db10=>?_)
  ·replace h:=h.1 db10
   refine zE fun k' hk'=>?_
   simp[hh,m4_1,m5_2,m6_3,m7_4,db10]
   apply hk'
   refine Runs.cut (fun ρ H n=>((ρ 6=pA (n1+2) 6∧ρ 7=pA (n1+3) 7∧ρ 8=bool false)∧H (n1+2,6)=some ⟨6,[zB]⟩∧H (n1+3,7)=some ⟨6,[zB]⟩)∧Sep H n [] [(n1+3,7),(n1+2,6)]) (by refine⟨by simp[hh,m4_1,m5_2,m6_3,m7_4,db10],(Sep.sub (Sep.setVar (w:=(n1+3,7)) (Sep.setVar (w:=(n1+2,6)) sp (by simp)) (by simp)) (by simp +contextual))⟩) ?_
   clear hh m4_1 m5_2 m6_3 m7_4
   rintro ρ H n13 ⟨⟨hh,m6_3,m7_4⟩,sp⟩
   exact Runs.res3 Ty_ok (v:=.agg [int 0,.v (.slice none 0 0),.v (.slice none 0 0),int 0,.v (.slice none 0 0),.v (.slice none 0 0)]) (w:=.agg [int 0,.v (.slice none 0 0),.v (.slice none 0 0),int 0,.v (.slice none 0 0),.v (.slice none 0 0)]) (z:=bool false) Tryz.func12 Tryz.results12 (by simp[hh,m6_3,m7_4,resA]) (by simp[hh,m6_3,m7_4,resA]) (by simp[hh,m6_3,m7_4,resA]) (hQ _ _ _ _ (Sep.sub (ids':=[]) (Sep.packT (Fill.own (Fill.own (Fill.v _ Fill.nil))) (Sep.f1 (Sep.pack (Fill.v _ (Fill.own (Fill.own (Fill.v _ (Fill.own (Fill.own Fill.nil)))))) (Sep.f4 (Sep.f3 (Sep.f2 (Sep.f1 (Sep.pack (Fill.v _ (Fill.own (Fill.own (Fill.v _ (Fill.own (Fill.own Fill.nil)))))) (Sep.f7 (Sep.f6 (Sep.f5 (Sep.f4 (Sep.addNil (Sep.addNil (Sep.addNil (Sep.addNil (Sep.addNil (Sep.addNil (Sep.addNil (Sep.addNil sp)))))))))))))))))))) (by simp)) ⟨((Big.mk 0 [] [] 0 [] []),(Big.mk 0 [] [] 0 [] []),false),h,rfl⟩)
  replace h:=h.2 db10
  refine Runs.skip ?_
  refine zE fun k' hk'=>?_
  simp[hh,m4_1,m5_2,m6_3,m7_4,db10]
  apply hk'
  refine Runs.cut (fun ρ H n=>∃ (v29 v30:AVal),((ρ 0 = .list false (sig.map Control.cells)∧ρ 4=pA n1 4∧ρ 5=pA (n1+1) 5∧ρ 6=pA (n1+2) 6∧ρ 7=pA (n1+3) 7∧ρ 9=pA (n12+2) 9∧ρ 10=pA (n12+3) 10)∧H (n1,4)=some ⟨6,[bC false b]⟩∧H (n1+1,5)=some ⟨1,[[int node]]⟩∧H (n1+2,6)=some ⟨6,[zB]⟩∧H (n1+3,7)=some ⟨6,[zB]⟩∧H (n12+2,9)=some ⟨1,[[v30]]⟩∧H (n12+3,10)=some ⟨1,[[v29]]⟩)∧Sep H n [oI v29 ([]:List Int),oI v30 ([]:List Int)] [(n12+3,10),(n12+2,9),(n1+3,7),(n1+2,6),(n1+1,5),(n1,4)]) (by refine⟨.arr (n12+1,59) 0 0 0,.arr (n12,58) 0 0 0,by simp[hh,m4_1,m5_2,m6_3,m7_4,db10],(Sep.setVar (w:=(n12+3,10)) (Sep.setVar (w:=(n12+2,9)) (Sep.var (Sep.var (Sep.addEmpty (l:=[.c]) (Sep.addEmpty (l:=[.c]) sp)))) (by simp)) (by simp))⟩) ?_
  clear hh m4_1 m5_2 m6_3 m7_4
  rintro ρ H n31 ⟨v29,v30,⟨hh,m4_1,m5_2,m6_3,m7_4,m9_26,m10_27⟩,sp⟩
  refine Runs.seq ?_
  refine zE fun k' hk'=>?_
  obtain⟨len32,elen32,h⟩:=atm h
  have f33:=fun H=>len_list (H:=H) (fr:=false) (f:=(GNode.cells false)) kd_31 elen32
  simp[hh,m4_1,m5_2,m6_3,m7_4,m9_26,m10_27,f33,-lenF]
  apply hk'
  refine Runs.block ?_
  refine Runs.loopW h (fun (sJ:Int × (List Int) × (List Int)) ρ H n=>match sJ with | (v44,l45,l46)=>∃ (v47 v48:AVal),((ρ 0 = .list false (sig.map Control.cells)∧ρ 4=pA n1 4∧ρ 5=pA (n1+1) 5∧ρ 6=pA (n1+2) 6∧ρ 7=pA (n1+3) 7∧ρ 9=pA (n12+2) 9∧ρ 10=pA (n12+3) 10∧ρ 62=int len32∧ρ 63=int v44)∧H (n1,4)=some ⟨6,[bC false b]⟩∧H (n1+1,5)=some ⟨1,[[int node]]⟩∧H (n1+2,6)=some ⟨6,[zB]⟩∧H (n1+3,7)=some ⟨6,[zB]⟩∧H (n12+2,9)=some ⟨1,[[v48]]⟩∧H (n12+3,10)=some ⟨1,[[v47]]⟩)∧Sep H n [oI v47 l46,oI v48 l45] [(n12+3,10),(n12+2,9),(n1+3,7),(n1+2,6),(n1+1,5),(n1,4)]) (by refine⟨v29,v30,by simp[hh,m4_1,m5_2,m6_3,m7_4,m9_26,m10_27],sp⟩) ?_
  clear hh m4_1 m5_2 m6_3 m7_4 m9_26 m10_27
  rintro⟨v44,l45,l46⟩ ρ H n49 K h ⟨v47,v48,⟨hh,m4_1,m5_2,m6_3,m7_4,m9_26,m10_27⟩,sp⟩ IH50
  refine zE fun k' hk'=>?_
  obtain⟨c52,ec52,h⟩:=atm h
  have f53:=ib_lss (k:=.i64) ec52
  simp[hh,m4_1,m5_2,m6_3,m7_4,m9_26,m10_27,f53,-intBin]
  apply hk'
  refine Runs.seq ?_
  refine Runs.ite (b:=c52) (by simp[hh,m4_1,m5_2,m6_3,m7_4,m9_26,m10_27]) (fun dc52=>?_) (fun dc52=>?_)
  ·replace h:=h.1 dc52
   refine Runs.skip ?_
   refine Runs.seq ?_
   refine Runs.block ?_
   refine zE fun k' hk'=>?_
   simp[hh,m4_1,m5_2,m6_3,m7_4,m9_26,m10_27,dc52]
   apply hk'
   refine Runs.seqD Ty_ok kindOp_ok draws (by decide) (by kernel_rfl) fun k' hk'=>?_
   obtain⟨hb54,h⟩:=h
   obtain⟨r55,er55,h⟩:=atm h
   simp[hh,m4_1,m5_2,m6_3,m7_4,m9_26,m10_27,dc52]
   refine RunDK.callA Ty_ok kindOp_ok ((ancestorsOf_ok b v44 hb54).pure) e48 (.cons (argB false b) (.cons (.v _ _ _) .nil)) (by decide) rfl (by simp[hh,m4_1,m5_2,m6_3,m7_4,m9_26,m10_27,dc52]) ?_
   rw[← er55]
   obtain⟨hb56,h⟩:=h
   obtain⟨r57,er57,h⟩:=atm h
   simp[hh,m4_1,m5_2,m6_3,m7_4,m9_26,m10_27,dc52]
   refine RunDK.callA Ty_ok kindOp_ok (hasI_ok r55 node hb56) e47 (.cons (argI true r55) (.cons (.v _ _ _) .nil)) (by decide) rfl (by simp[hh,m4_1,m5_2,m6_3,m7_4,m9_26,m10_27,dc52]) ?_
   rw[← er57]
   simp[hh,m4_1,m5_2,m6_3,m7_4,m9_26,m10_27,dc52]
   apply hk'
   refine Runs.ite (b:=r57) (by simp[hh,m4_1,m5_2,m6_3,m7_4,m9_26,m10_27,dc52]) (fun dr57=>?_) (fun dr57=>?_)
   ·replace h:=h.1 dr57
    refine zF fun k' hk'=>?_
    obtain⟨hb58,h⟩:=h
    obtain⟨l59,el59,h⟩:=atm h
    simp[hh,m4_1,m5_2,m6_3,m7_4,m9_26,m10_27,dc52,dr57,-appendF]
    refine bind_append [] [oI v47 l46] [[int v44]] [intC v44] sp.f1 kd_24 (by simp) (by simp) (by simp) (by simp[-one1,o1x]) (rows_one (Fill.v _ Fill.nil)) (by simp) (by simpa using hb58) ?_
    rintro v60 H61 n62 sp hfr63 hle64
    replace sp:Sep H61 n62 [oI v60 l59,oI v47 l46] [(n12+3,10),(n12+2,9),(n1+3,7),(n1+2,6),(n1+1,5),(n1,4)]:=Sep.ap el59 sp
    have m4_1:=(hfr63 _ (by simp)).trans m4_1
    have m5_2:=(hfr63 _ (by simp)).trans m5_2
    have m6_3:=(hfr63 _ (by simp)).trans m6_3
    have m7_4:=(hfr63 _ (by simp)).trans m7_4
    have m9_26:=(hfr63 _ (by simp)).trans m9_26
    have m10_27:=(hfr63 _ (by simp)).trans m10_27
    have f66:=Sep.oc sp
    simp[hh,m4_1,m5_2,m6_3,m7_4,m9_26,m10_27,f66,dc52,dr57,-cellsA,-one1,cAx,o1x]
    apply hk'
    refine Runs.cut (fun ρ H n=>∃ (v67 v68:AVal),((ρ 0 = .list false (sig.map Control.cells)∧ρ 4=pA n1 4∧ρ 5=pA (n1+1) 5∧ρ 6=pA (n1+2) 6∧ρ 7=pA (n1+3) 7∧ρ 9=pA (n12+2) 9∧ρ 10=pA (n12+3) 10∧ρ 62=int len32∧ρ 63=int v44)∧H (n1,4)=some ⟨6,[bC false b]⟩∧H (n1+1,5)=some ⟨1,[[int node]]⟩∧H (n1+2,6)=some ⟨6,[zB]⟩∧H (n1+3,7)=some ⟨6,[zB]⟩∧H (n12+2,9)=some ⟨1,[[v67]]⟩∧H (n12+3,10)=some ⟨1,[[v68]]⟩)∧Sep H n [oI v67 l59,oI v68 l46] [(n12+3,10),(n12+2,9),(n1+3,7),(n1+2,6),(n1+1,5),(n1,4)]) (by refine⟨v60,v47,by simp[hh,m4_1,m5_2,m6_3,m7_4,m9_26,m10_27,f66,dc52,dr57,-cellsA,-one1,cAx,o1x],(Sep.setVar (w:=(n12+2,9)) sp (by simp))⟩) ?_
    clear hh m4_1 m5_2 m6_3 m7_4 m9_26 m10_27
    rintro ρ H n69 ⟨v67,v68,⟨hh,m4_1,m5_2,m6_3,m7_4,m9_26,m10_27⟩,sp⟩
    refine Runs.inBlock ?_
    refine zF fun k' hk'=>?_
    obtain⟨hb70,h⟩:=h
    obtain⟨v71,ev71,h⟩:=atm h
    have f72:=ib_add hb70 ev71
    simp[hh,m4_1,m5_2,m6_3,m7_4,m9_26,m10_27,f72,-intBin]
    apply hk'
    refine IH50 (v71,l59,l46) _ _ _ h (by refine⟨v68,v67,by simp[hh,m4_1,m5_2,m6_3,m7_4,m9_26,m10_27],sp.f1⟩)
   replace h:=h.2 dr57
   refine zF fun k' hk'=>?_
   obtain⟨hb73,h⟩:=h
   obtain⟨l74,el74,h⟩:=atm h
   simp[hh,m4_1,m5_2,m6_3,m7_4,m9_26,m10_27,dc52,dr57,-appendF]
   refine bind_append [] [oI v48 l45] [[int v44]] [intC v44] sp kd_24 (by simp) (by simp) (by simp) (by simp[-one1,o1x]) (rows_one (Fill.v _ Fill.nil)) (by simp) (by simpa using hb73) ?_
   rintro v75 H76 n77 sp hfr78 hle79
   replace sp:Sep H76 n77 [oI v75 l74,oI v48 l45] [(n12+3,10),(n12+2,9),(n1+3,7),(n1+2,6),(n1+1,5),(n1,4)]:=Sep.ap el74 sp
   have m4_1:=(hfr78 _ (by simp)).trans m4_1
   have m5_2:=(hfr78 _ (by simp)).trans m5_2
   have m6_3:=(hfr78 _ (by simp)).trans m6_3
   have m7_4:=(hfr78 _ (by simp)).trans m7_4
   have m9_26:=(hfr78 _ (by simp)).trans m9_26
   have m10_27:=(hfr78 _ (by simp)).trans m10_27
   have f81:=Sep.oc sp
   simp[hh,m4_1,m5_2,m6_3,m7_4,m9_26,m10_27,f81,dc52,dr57,-cellsA,-one1,cAx,o1x]
   apply hk'
   refine Runs.cut (fun ρ H n=>∃ (v82 v83:AVal),((ρ 0 = .list false (sig.map Control.cells)∧ρ 4=pA n1 4∧ρ 5=pA (n1+1) 5∧ρ 6=pA (n1+2) 6∧ρ 7=pA (n1+3) 7∧ρ 9=pA (n12+2) 9∧ρ 10=pA (n12+3) 10∧ρ 62=int len32∧ρ 63=int v44)∧H (n1,4)=some ⟨6,[bC false b]⟩∧H (n1+1,5)=some ⟨1,[[int node]]⟩∧H (n1+2,6)=some ⟨6,[zB]⟩∧H (n1+3,7)=some ⟨6,[zB]⟩∧H (n12+2,9)=some ⟨1,[[v83]]⟩∧H (n12+3,10)=some ⟨1,[[v82]]⟩)∧Sep H n [oI v82 l74,oI v83 l45] [(n12+3,10),(n12+2,9),(n1+3,7),(n1+2,6),(n1+1,5),(n1,4)]) (by refine⟨v75,v48,by simp[hh,m4_1,m5_2,m6_3,m7_4,m9_26,m10_27,f81,dc52,dr57,-cellsA,-one1,cAx,o1x],(Sep.setVar (w:=(n12+3,10)) sp (by simp))⟩) ?_
   clear hh m4_1 m5_2 m6_3 m7_4 m9_26 m10_27
   rintro ρ H n84 ⟨v82,v83,⟨hh,m4_1,m5_2,m6_3,m7_4,m9_26,m10_27⟩,sp⟩
   refine Runs.inBlock ?_
   refine zF fun k' hk'=>?_
   obtain⟨hb85,h⟩:=h
   obtain⟨v86,ev86,h⟩:=atm h
   have f87:=ib_add hb85 ev86
   simp[hh,m4_1,m5_2,m6_3,m7_4,m9_26,m10_27,f87,-intBin]
   apply hk'
   refine IH50 (v86,l45,l74) _ _ _ h (by refine⟨v82,v83,by simp[hh,m4_1,m5_2,m6_3,m7_4,m9_26,m10_27],sp⟩)
  replace h:=h.2 dc52
  refine Runs.exit rfl ?_
  refine zE fun k' hk'=>?_
  simp[hh,m4_1,m5_2,m6_3,m7_4,m9_26,m10_27,dc52]
  apply hk'
  refine Runs.cut (fun ρ H n=>∃ (v91 v92 v93 v94 v95:AVal),((ρ 0 = .list false (sig.map Control.cells)∧ρ 4=pA n1 4∧ρ 5=pA (n1+1) 5∧ρ 6=pA (n1+2) 6∧ρ 7=pA (n1+3) 7∧ρ 9=pA (n12+2) 9∧ρ 10=pA (n12+3) 10∧ρ 12=v93∧ρ 13=v92∧ρ 14=v91)∧H (n1,4)=some ⟨6,[bC false b]⟩∧H (n1+1,5)=some ⟨1,[[int node]]⟩∧H (n1+2,6)=some ⟨6,[zB]⟩∧H (n1+3,7)=some ⟨6,[zB]⟩∧H (n12+2,9)=some ⟨1,[[v95]]⟩∧H (n12+3,10)=some ⟨1,[[v94]]⟩)∧Sep H n [oI v91 ([]:List Int),oI v92 ([]:List Int),oI v93 ([]:List Int),oI v94 l46,oI v95 l45] [(n12+3,10),(n12+2,9),(n1+3,7),(n1+2,6),(n1+1,5),(n1,4)]) (by refine⟨.arr (n49+2,82) 0 0 0,.arr (n49+1,81) 0 0 0,.arr (n49,80) 0 0 0,v47,v48,by simp[hh,m4_1,m5_2,m6_3,m7_4,m9_26,m10_27,dc52],(Sep.addEmpty (l:=[.c]) (Sep.addEmpty (l:=[.c]) (Sep.addEmpty (l:=[.c]) sp)))⟩) ?_
  clear hh m4_1 m5_2 m6_3 m7_4 m9_26 m10_27
  rintro ρ H n96 ⟨v91,v92,v93,v94,v95,⟨hh,m4_1,m5_2,m6_3,m7_4,m9_26,m10_27⟩,sp⟩
  refine Runs.seq ?_
  refine zE fun k' hk'=>?_
  obtain⟨len97,elen97,h⟩:=atm h
  have f98:=fun H=>len_list (H:=H) (fr:=false) (f:=strC) kd_25 elen97
  obtain⟨hb99,h⟩:=h
  obtain⟨v100,ev100,h⟩:=atm h
  have f101:=ib_add hb99 ev100
  simp[hh,m4_1,m5_2,m6_3,m7_4,m9_26,m10_27,f98,f101,-intBin,-lenF]
  apply hk'
  refine Runs.block ?_
  refine Runs.loopW h (fun (sJ:Int × (List Int) × (List Int) × (List Int)) ρ H n=>match sJ with | (v119,l120,l121,l122)=>∃ (v123 v124 v125 v126 v127:AVal),((ρ 0 = .list false (sig.map Control.cells)∧ρ 4=pA n1 4∧ρ 5=pA (n1+1) 5∧ρ 6=pA (n1+2) 6∧ρ 7=pA (n1+3) 7∧ρ 9=pA (n12+2) 9∧ρ 10=pA (n12+3) 10∧ρ 12=v125∧ρ 13=v124∧ρ 14=v123∧ρ 88=int v100∧ρ 89=int v119)∧H (n1,4)=some ⟨6,[bC false b]⟩∧H (n1+1,5)=some ⟨1,[[int node]]⟩∧H (n1+2,6)=some ⟨6,[zB]⟩∧H (n1+3,7)=some ⟨6,[zB]⟩∧H (n12+2,9)=some ⟨1,[[v127]]⟩∧H (n12+3,10)=some ⟨1,[[v126]]⟩)∧Sep H n [oI v123 l121,oI v124 l122,oI v125 l120,oI v126 l46,oI v127 l45] [(n12+3,10),(n12+2,9),(n1+3,7),(n1+2,6),(n1+1,5),(n1,4)]) (by refine⟨v91,v92,v93,v94,v95,by simp[hh,m4_1,m5_2,m6_3,m7_4,m9_26,m10_27],sp⟩) ?_
  clear hh m4_1 m5_2 m6_3 m7_4 m9_26 m10_27
  rintro⟨v119,l120,l121,l122⟩ ρ H n128 K h ⟨v123,v124,v125,v126,v127,⟨hh,m4_1,m5_2,m6_3,m7_4,m9_26,m10_27⟩,sp⟩ IH129
  refine zE fun k' hk'=>?_
  obtain⟨c131,ec131,h⟩:=atm h
  have f132:=ib_lss (k:=.i64) ec131
  simp[hh,m4_1,m5_2,m6_3,m7_4,m9_26,m10_27,f132,-intBin]
  apply hk'
  refine Runs.seq ?_
  refine Runs.ite (b:=c131) (by simp[hh,m4_1,m5_2,m6_3,m7_4,m9_26,m10_27]) (fun dc131=>?_) (fun dc131=>?_)
  ·replace h:=h.1 dc131
   refine Runs.skip ?_
   refine Runs.seq ?_
   refine Runs.block ?_
   refine zE fun k' hk'=>?_
   simp[hh,m4_1,m5_2,m6_3,m7_4,m9_26,m10_27,dc131]
   apply hk'
   refine zE fun k' hk'=>?_
   obtain⟨hb133,h⟩:=h
   obtain⟨r134,er134,h⟩:=atm h
   simp[hh,m4_1,m5_2,m6_3,m7_4,m9_26,m10_27,dc131]
   refine RunK.callW Ty_ok (pointsOf_ok b v119 hb133) e49 (.cons (argB false b) (.cons (.v _ _ _) .nil)) sp (by decide) (by decide) rfl (by simp[hh,m4_1,m5_2,m6_3,m7_4,m9_26,m10_27,dc131]) ?_
   rintro v135 H136 n137 _ sp rfl hle139 hfr138
   rw[← er134] at sp
   have m4_1:=(hfr138 _ (by simp)).trans m4_1
   have m5_2:=(hfr138 _ (by simp)).trans m5_2
   have m6_3:=(hfr138 _ (by simp)).trans m6_3
   have m7_4:=(hfr138 _ (by simp)).trans m7_4
   have m9_26:=(hfr138 _ (by simp)).trans m9_26
   have m10_27:=(hfr138 _ (by simp)).trans m10_27
   replace sp:=Sep.unpackT sp
   obtain⟨L143,hv,hl144,sp⟩:=sp
   subst hv
   obtain⟨v141,v142,hv⟩:=len2 (by simpa using hl144)
   subst hv
   simp only[zip3,List.cons_append,List.nil_append] at sp
   replace sp:=Sep.rot sp
   try simp only[List.cons_append,List.nil_append,List.append_assoc] at sp
   replace sp:=Sep.rot sp
   try simp only[List.cons_append,List.nil_append,List.append_assoc] at sp
   simp[hh,m4_1,m5_2,m6_3,m7_4,m9_26,m10_27,dc131]
   apply hk'
   refine Runs.cut (fun ρ H n=>∃ (v147 v148 v149 v150 v151 v152:AVal),((ρ 0 = .list false (sig.map Control.cells)∧ρ 4=pA n1 4∧ρ 5=pA (n1+1) 5∧ρ 6=pA (n1+2) 6∧ρ 7=pA (n1+3) 7∧ρ 9=pA (n12+2) 9∧ρ 10=pA (n12+3) 10∧ρ 12=v149∧ρ 13=v148∧ρ 14=v147∧ρ 15=int v119∧ρ 16=v152∧ρ 88=int v100∧ρ 89=int v119)∧H (n1,4)=some ⟨6,[bC false b]⟩∧H (n1+1,5)=some ⟨1,[[int node]]⟩∧H (n1+2,6)=some ⟨6,[zB]⟩∧H (n1+3,7)=some ⟨6,[zB]⟩∧H (n12+2,9)=some ⟨1,[[v151]]⟩∧H (n12+3,10)=some ⟨1,[[v150]]⟩)∧Sep H n [oI v147 l121,oI v148 l122,oI v149 l120,oI v150 l46,oI v151 l45,oE [.c,.c] intC2 v152 r134.1] [(n12+3,10),(n12+2,9),(n1+3,7),(n1+2,6),(n1+1,5),(n1,4)]) (by refine⟨v123,v124,v125,v126,v127,v141,by simp[hh,m4_1,m5_2,m6_3,m7_4,m9_26,m10_27,dc131],sp.f6.dr⟩) ?_
   clear hh m4_1 m5_2 m6_3 m7_4 m9_26 m10_27
   rintro ρ H n153 ⟨v147,v148,v149,v150,v151,v152,⟨hh,m4_1,m5_2,m6_3,m7_4,m9_26,m10_27⟩,sp⟩
   refine zE fun k' hk'=>?_
   simp[hh,m4_1,m5_2,m6_3,m7_4,m9_26,m10_27]
   apply hk'
   refine Runs.seq ?_
   refine zE fun k' hk'=>?_
   obtain⟨len154,elen154,h⟩:=atm h
   have f155:=len_own (Sep.len (m:=len154) sp.f5 kd_83 (by rw[elen154,List.length_map]))
   simp[hh,m4_1,m5_2,m6_3,m7_4,m9_26,m10_27,f155,-lenF]
   apply hk'
   refine Runs.block ?_
   refine Runs.loopW h (fun (sJ:Int × Int) ρ H n=>match sJ with | (inside165,v166)=>∃ (v167 v168 v169 v170 v171 v172:AVal),((ρ 0 = .list false (sig.map Control.cells)∧ρ 4=pA n1 4∧ρ 5=pA (n1+1) 5∧ρ 6=pA (n1+2) 6∧ρ 7=pA (n1+3) 7∧ρ 9=pA (n12+2) 9∧ρ 10=pA (n12+3) 10∧ρ 12=v169∧ρ 13=v168∧ρ 14=v167∧ρ 15=int v119∧ρ 16=v172∧ρ 18=int inside165∧ρ 88=int v100∧ρ 89=int v119∧ρ 98=v172∧ρ 99=int len154∧ρ 100=int v166)∧H (n1,4)=some ⟨6,[bC false b]⟩∧H (n1+1,5)=some ⟨1,[[int node]]⟩∧H (n1+2,6)=some ⟨6,[zB]⟩∧H (n1+3,7)=some ⟨6,[zB]⟩∧H (n12+2,9)=some ⟨1,[[v171]]⟩∧H (n12+3,10)=some ⟨1,[[v170]]⟩)∧Sep H n [oI v167 l121,oI v168 l122,oI v169 l120,oI v170 l46,oI v171 l45,oE [.c,.c] intC2 v172 r134.1] [(n12+3,10),(n12+2,9),(n1+3,7),(n1+2,6),(n1+1,5),(n1,4)]) (by refine⟨v147,v148,v149,v150,v151,v152,by simp[hh,m4_1,m5_2,m6_3,m7_4,m9_26,m10_27],sp⟩) ?_
   clear hh m4_1 m5_2 m6_3 m7_4 m9_26 m10_27
   rintro⟨inside165,v166⟩ ρ H n173 K h ⟨v167,v168,v169,v170,v171,v172,⟨hh,m4_1,m5_2,m6_3,m7_4,m9_26,m10_27⟩,sp⟩ IH174
   refine zE fun k' hk'=>?_
   obtain⟨c176,ec176,h⟩:=atm h
   have f177:=ib_lss (k:=.i64) ec176
   simp[hh,m4_1,m5_2,m6_3,m7_4,m9_26,m10_27,f177,-intBin]
   apply hk'
   refine Runs.seq ?_
   refine Runs.ite (b:=c176) (by simp[hh,m4_1,m5_2,m6_3,m7_4,m9_26,m10_27]) (fun dc176=>?_) (fun dc176=>?_)
   ·replace h:=h.1 dc176
    refine Runs.skip ?_
    refine Runs.seq ?_
    refine Runs.block ?_
    refine zE fun k' hk'=>?_
    obtain⟨hb178,h⟩:=h
    obtain⟨id179,hv,mo180,ln181,ni182⟩:=Sep.openF sp.f5 (by simp) hb178
    subst hv
    simp at ni182
    obtain⟨x183,ex183,h⟩:=atm h
    have f184:=fun H (hm:H id179=some ⟨2,r134.1.map intC2⟩)=>ix_arr (H:=H) (k:=.i64) (off:=0) (len:=r134.1.length) (g:=r134.1.length) kd_83 hm (by simp) rfl hb178
    have f185:=at_some (q:=v166.toNat) hb178 ex183 rfl
    simp[hh,m4_1,m5_2,m6_3,m7_4,m9_26,m10_27,mo180,ni182,f184,f185,dc176,-indexAddrF]
    apply hk'
    refine Runs.cut (fun ρ H n=>∃ (v187 v188 v189 v190 v191 v192:AVal),((ρ 0 = .list false (sig.map Control.cells)∧ρ 4=pA n1 4∧ρ 5=pA (n1+1) 5∧ρ 6=pA (n1+2) 6∧ρ 7=pA (n1+3) 7∧ρ 9=pA (n12+2) 9∧ρ 10=pA (n12+3) 10∧ρ 12=v189∧ρ 13=v188∧ρ 14=v187∧ρ 15=int v119∧ρ 16=v192∧ρ 18=int inside165∧ρ 20=pA n173 20∧ρ 88=int v100∧ρ 89=int v119∧ρ 98=v192∧ρ 99=int len154∧ρ 100=int v166)∧H (n1,4)=some ⟨6,[bC false b]⟩∧H (n1+1,5)=some ⟨1,[[int node]]⟩∧H (n1+2,6)=some ⟨6,[zB]⟩∧H (n1+3,7)=some ⟨6,[zB]⟩∧H (n12+2,9)=some ⟨1,[[v191]]⟩∧H (n12+3,10)=some ⟨1,[[v190]]⟩∧H (n173,20)=some ⟨2,[[int x183.1,int x183.2]]⟩)∧Sep H n [oI v187 l121,oI v188 l122,oI v189 l120,oI v190 l46,oI v191 l45,oE [.c,.c] intC2 v192 r134.1] [(n173,20),(n12+3,10),(n12+2,9),(n1+3,7),(n1+2,6),(n1+1,5),(n1,4)]) (by refine⟨v167,v168,v169,v170,v171,.arr id179 r134.1.length 0 r134.1.length,by simp[hh,m4_1,m5_2,m6_3,m7_4,m9_26,m10_27,mo180,ni182,f184,f185,dc176,-indexAddrF],sp.var⟩) ?_
    clear hh m4_1 m5_2 m6_3 m7_4 m9_26 m10_27 mo180 ni182
    rintro ρ H n193 ⟨v187,v188,v189,v190,v191,v192,⟨hh,m4_1,m5_2,m6_3,m7_4,m9_26,m10_27,m20_185⟩,sp⟩
    refine zE fun k' hk'=>?_
    obtain⟨hb194,h⟩:=h
    obtain⟨r195,er195,h⟩:=atm h
    simp[hh,m4_1,m5_2,m6_3,m7_4,m9_26,m10_27,m20_185]
    refine RunK.callA Ty_ok (hasI_ok l45 x183.1 hb194) e47 (.cons (Sep.argOk' sp.f4 (old_listF (by simp))) (.cons (.v _ _ _) .nil)) (by decide) (by decide) rfl (by simp[hh,m4_1,m5_2,m6_3,m7_4,m9_26,m10_27,m20_185]) ?_
    rintro _ rfl
    rw[← er195]
    simp[hh,m4_1,m5_2,m6_3,m7_4,m9_26,m10_27,m20_185]
    apply hk'
    refine Runs.ite (b:=r195) (by simp[hh,m4_1,m5_2,m6_3,m7_4,m9_26,m10_27,m20_185]) (fun dr195=>?_) (fun dr195=>?_)
    ·replace h:=h.1 dr195
     refine zF fun k' hk'=>?_
     obtain⟨hb196,h⟩:=h
     obtain⟨v197,ev197,h⟩:=atm h
     have f198:=ib_add hb196 ev197
     simp[hh,m4_1,m5_2,m6_3,m7_4,m9_26,m10_27,m20_185,f198,dr195,-intBin]
     apply hk'
     refine Runs.inBlock ?_
     refine zF fun k' hk'=>?_
     obtain⟨hb199,h⟩:=h
     obtain⟨v200,ev200,h⟩:=atm h
     have f201:=ib_add hb199 ev200
     simp[hh,m4_1,m5_2,m6_3,m7_4,m9_26,m10_27,m20_185,f201,dr195,-intBin]
     apply hk'
     refine IH174 (v197,v200) _ _ _ h (by refine⟨v187,v188,v189,v190,v191,v192,by simp[hh,m4_1,m5_2,m6_3,m7_4,m9_26,m10_27,m20_185,dr195],(Sep.sub sp (by simp +contextual))⟩)
    replace h:=h.2 dr195
    refine Runs.skip ?_
    refine Runs.inBlock ?_
    refine zF fun k' hk'=>?_
    obtain⟨hb202,h⟩:=h
    obtain⟨v203,ev203,h⟩:=atm h
    have f204:=ib_add hb202 ev203
    simp[hh,m4_1,m5_2,m6_3,m7_4,m9_26,m10_27,m20_185,f204,dr195,-intBin]
    apply hk'
    refine IH174 (inside165,v203) _ _ _ h (by refine⟨v187,v188,v189,v190,v191,v192,by simp[hh,m4_1,m5_2,m6_3,m7_4,m9_26,m10_27,m20_185,dr195],(Sep.sub sp (by simp +contextual))⟩)
   replace h:=h.2 dc176
   refine Runs.exit rfl ?_
   refine Runs.seq ?_
   refine Runs.block ?_
   refine zE fun k' hk'=>?_
   obtain⟨J205,hJ206,hr207⟩:=h
   have fin214:∀ (sJ:Bool) (ρ:Env) (H:Heap) (n:Nat),J205 sJ→(match sJ with | b208=>∃ (v209 v210 v211 v212 v213:AVal),((ρ 0 = .list false (sig.map Control.cells)∧ρ 4=pA n1 4∧ρ 5=pA (n1+1) 5∧ρ 6=pA (n1+2) 6∧ρ 7=pA (n1+3) 7∧ρ 9=pA (n12+2) 9∧ρ 10=pA (n12+3) 10∧ρ 12=v211∧ρ 13=v210∧ρ 14=v209∧ρ 15=int v119∧ρ 18=int inside165∧ρ 88=int v100∧ρ 89=int v119∧ρ 111=bool b208)∧H (n1,4)=some ⟨6,[bC false b]⟩∧H (n1+1,5)=some ⟨1,[[int node]]⟩∧H (n1+2,6)=some ⟨6,[zB]⟩∧H (n1+3,7)=some ⟨6,[zB]⟩∧H (n12+2,9)=some ⟨1,[[v213]]⟩∧H (n12+3,10)=some ⟨1,[[v212]]⟩)∧Sep H n [oI v209 l121,oI v210 l122,oI v211 l120,oI v212 l46,oI v213 l45] [(n12+3,10),(n12+2,9),(n1+3,7),(n1+2,6),(n1+1,5),(n1,4)])→Runs Tryz.prog 12 239 k' ρ H n Q:=by
    rintro b208 ρ H n215 h ⟨v209,v210,v211,v212,v213,⟨hh,m4_1,m5_2,m6_3,m7_4,m9_26,m10_27⟩,sp⟩
    replace h:=hr207 _ h
    apply hk'
    refine Runs.ite (b:=b208) (by simp[hh,m4_1,m5_2,m6_3,m7_4,m9_26,m10_27]) (fun db208=>?_) (fun db208=>?_)
    ·replace h:=h.1 db208
     refine zE fun k' hk'=>?_
     obtain⟨hb216,h⟩:=h
     obtain⟨l217,el217,h⟩:=atm h
     simp[hh,m4_1,m5_2,m6_3,m7_4,m9_26,m10_27,db208,-appendF]
     refine bind_append [] [oI v209 l121,oI v210 l122,oI v212 l46,oI v213 l45] [[int v119]] [intC v119] sp.f2 kd_24 (by simp) (by simp) (by simp) (by simp[-one1,o1x]) (rows_one (Fill.v _ Fill.nil)) (by simp) (by simpa using hb216) ?_
     rintro v218 H219 n220 sp hfr221 hle222
     replace sp:Sep H219 n220 [oI v218 l217,oI v209 l121,oI v210 l122,oI v212 l46,oI v213 l45] [(n12+3,10),(n12+2,9),(n1+3,7),(n1+2,6),(n1+1,5),(n1,4)]:=Sep.ap el217 sp
     have m4_1:=(hfr221 _ (by simp)).trans m4_1
     have m5_2:=(hfr221 _ (by simp)).trans m5_2
     have m6_3:=(hfr221 _ (by simp)).trans m6_3
     have m7_4:=(hfr221 _ (by simp)).trans m7_4
     have m9_26:=(hfr221 _ (by simp)).trans m9_26
     have m10_27:=(hfr221 _ (by simp)).trans m10_27
     simp[hh,m4_1,m5_2,m6_3,m7_4,m9_26,m10_27,db208]
     apply hk'
     refine Runs.cut (fun ρ H n=>∃ (v224 v225 v226 v227 v228:AVal),((ρ 0 = .list false (sig.map Control.cells)∧ρ 4=pA n1 4∧ρ 5=pA (n1+1) 5∧ρ 6=pA (n1+2) 6∧ρ 7=pA (n1+3) 7∧ρ 9=pA (n12+2) 9∧ρ 10=pA (n12+3) 10∧ρ 12=v224∧ρ 13=v226∧ρ 14=v225∧ρ 88=int v100∧ρ 89=int v119)∧H (n1,4)=some ⟨6,[bC false b]⟩∧H (n1+1,5)=some ⟨1,[[int node]]⟩∧H (n1+2,6)=some ⟨6,[zB]⟩∧H (n1+3,7)=some ⟨6,[zB]⟩∧H (n12+2,9)=some ⟨1,[[v228]]⟩∧H (n12+3,10)=some ⟨1,[[v227]]⟩)∧Sep H n [oI v224 l217,oI v225 l121,oI v226 l122,oI v227 l46,oI v228 l45] [(n12+3,10),(n12+2,9),(n1+3,7),(n1+2,6),(n1+1,5),(n1,4)]) (by refine⟨v218,v209,v210,v212,v213,by simp[hh,m4_1,m5_2,m6_3,m7_4,m9_26,m10_27,db208],sp⟩) ?_
     clear hh m4_1 m5_2 m6_3 m7_4 m9_26 m10_27
     rintro ρ H n229 ⟨v224,v225,v226,v227,v228,⟨hh,m4_1,m5_2,m6_3,m7_4,m9_26,m10_27⟩,sp⟩
     refine Runs.exit rfl ?_
     refine zF fun k' hk'=>?_
     obtain⟨hb230,h⟩:=h
     obtain⟨v231,ev231,h⟩:=atm h
     have f232:=ib_add hb230 ev231
     simp[hh,m4_1,m5_2,m6_3,m7_4,m9_26,m10_27,f232,-intBin]
     apply hk'
     refine IH129 (v231,l217,l121,l122) _ _ _ h (by refine⟨v225,v226,v224,v227,v228,by simp[hh,m4_1,m5_2,m6_3,m7_4,m9_26,m10_27],sp.f2.f2⟩)
    replace h:=h.2 db208
    refine zE fun k' hk'=>?_
    obtain⟨c233,ec233,h⟩:=atm h
    have f234:=ib_lss (k:=.i64) ec233
    simp[hh,m4_1,m5_2,m6_3,m7_4,m9_26,m10_27,f234,db208,-intBin]
    apply hk'
    refine Runs.ite (b:=c233) (by simp[hh,m4_1,m5_2,m6_3,m7_4,m9_26,m10_27,db208]) (fun dc233=>?_) (fun dc233=>?_)
    ·replace h:=h.1 dc233
     refine zF fun k' hk'=>?_
     obtain⟨hb235,h⟩:=h
     obtain⟨l236,el236,h⟩:=atm h
     simp[hh,m4_1,m5_2,m6_3,m7_4,m9_26,m10_27,db208,dc233,-appendF]
     refine bind_append [] [oI v209 l121,oI v211 l120,oI v212 l46,oI v213 l45] [[int v119]] [intC v119] sp.f1 kd_24 (by simp) (by simp) (by simp) (by simp[-one1,o1x]) (rows_one (Fill.v _ Fill.nil)) (by simp) (by simpa using hb235) ?_
     rintro v237 H238 n239 sp hfr240 hle241
     replace sp:Sep H238 n239 [oI v237 l236,oI v209 l121,oI v211 l120,oI v212 l46,oI v213 l45] [(n12+3,10),(n12+2,9),(n1+3,7),(n1+2,6),(n1+1,5),(n1,4)]:=Sep.ap el236 sp
     have m4_1:=(hfr240 _ (by simp)).trans m4_1
     have m5_2:=(hfr240 _ (by simp)).trans m5_2
     have m6_3:=(hfr240 _ (by simp)).trans m6_3
     have m7_4:=(hfr240 _ (by simp)).trans m7_4
     have m9_26:=(hfr240 _ (by simp)).trans m9_26
     have m10_27:=(hfr240 _ (by simp)).trans m10_27
     simp[hh,m4_1,m5_2,m6_3,m7_4,m9_26,m10_27,db208,dc233]
     apply hk'
     refine Runs.cut (fun ρ H n=>∃ (v243 v244 v245 v246 v247:AVal),((ρ 0 = .list false (sig.map Control.cells)∧ρ 4=pA n1 4∧ρ 5=pA (n1+1) 5∧ρ 6=pA (n1+2) 6∧ρ 7=pA (n1+3) 7∧ρ 9=pA (n12+2) 9∧ρ 10=pA (n12+3) 10∧ρ 12=v245∧ρ 13=v243∧ρ 14=v244∧ρ 15=int v119∧ρ 18=int inside165∧ρ 88=int v100∧ρ 89=int v119)∧H (n1,4)=some ⟨6,[bC false b]⟩∧H (n1+1,5)=some ⟨1,[[int node]]⟩∧H (n1+2,6)=some ⟨6,[zB]⟩∧H (n1+3,7)=some ⟨6,[zB]⟩∧H (n12+2,9)=some ⟨1,[[v247]]⟩∧H (n12+3,10)=some ⟨1,[[v246]]⟩)∧Sep H n [oI v243 l236,oI v244 l121,oI v245 l120,oI v246 l46,oI v247 l45] [(n12+3,10),(n12+2,9),(n1+3,7),(n1+2,6),(n1+1,5),(n1,4)]) (by refine⟨v237,v209,v211,v212,v213,by simp[hh,m4_1,m5_2,m6_3,m7_4,m9_26,m10_27,db208,dc233],sp⟩) ?_
     clear hh m4_1 m5_2 m6_3 m7_4 m9_26 m10_27
     rintro ρ H n248 ⟨v243,v244,v245,v246,v247,⟨hh,m4_1,m5_2,m6_3,m7_4,m9_26,m10_27⟩,sp⟩
     refine Runs.inBlock ?_
     refine zE fun k' hk'=>?_
     obtain⟨c249,ec249,h⟩:=atm h
     have f250:=ib_gtr (k:=.i64) ec249
     simp[hh,m4_1,m5_2,m6_3,m7_4,m9_26,m10_27,f250,-intBin]
     apply hk'
     refine Runs.ite (b:=c249) (by simp[hh,m4_1,m5_2,m6_3,m7_4,m9_26,m10_27]) (fun dc249=>?_) (fun dc249=>?_)
     ·replace h:=h.1 dc249
      refine zF fun k' hk'=>?_
      obtain⟨hb251,h⟩:=h
      obtain⟨l252,el252,h⟩:=atm h
      simp[hh,m4_1,m5_2,m6_3,m7_4,m9_26,m10_27,dc249,-appendF]
      refine bind_append [] [oI v243 l236,oI v245 l120,oI v246 l46,oI v247 l45] [[int v119]] [intC v119] sp.f1 kd_24 (by simp) (by simp) (by simp) (by simp[-one1,o1x]) (rows_one (Fill.v _ Fill.nil)) (by simp) (by simpa using hb251) ?_
      rintro v253 H254 n255 sp hfr256 hle257
      replace sp:Sep H254 n255 [oI v253 l252,oI v243 l236,oI v245 l120,oI v246 l46,oI v247 l45] [(n12+3,10),(n12+2,9),(n1+3,7),(n1+2,6),(n1+1,5),(n1,4)]:=Sep.ap el252 sp
      have m4_1:=(hfr256 _ (by simp)).trans m4_1
      have m5_2:=(hfr256 _ (by simp)).trans m5_2
      have m6_3:=(hfr256 _ (by simp)).trans m6_3
      have m7_4:=(hfr256 _ (by simp)).trans m7_4
      have m9_26:=(hfr256 _ (by simp)).trans m9_26
      have m10_27:=(hfr256 _ (by simp)).trans m10_27
      simp[hh,m4_1,m5_2,m6_3,m7_4,m9_26,m10_27,dc249]
      apply hk'
      refine Runs.cut (fun ρ H n=>∃ (v259 v260 v261 v262 v263:AVal),((ρ 0 = .list false (sig.map Control.cells)∧ρ 4=pA n1 4∧ρ 5=pA (n1+1) 5∧ρ 6=pA (n1+2) 6∧ρ 7=pA (n1+3) 7∧ρ 9=pA (n12+2) 9∧ρ 10=pA (n12+3) 10∧ρ 12=v261∧ρ 13=v260∧ρ 14=v259∧ρ 88=int v100∧ρ 89=int v119)∧H (n1,4)=some ⟨6,[bC false b]⟩∧H (n1+1,5)=some ⟨1,[[int node]]⟩∧H (n1+2,6)=some ⟨6,[zB]⟩∧H (n1+3,7)=some ⟨6,[zB]⟩∧H (n12+2,9)=some ⟨1,[[v263]]⟩∧H (n12+3,10)=some ⟨1,[[v262]]⟩)∧Sep H n [oI v259 l252,oI v260 l236,oI v261 l120,oI v262 l46,oI v263 l45] [(n12+3,10),(n12+2,9),(n1+3,7),(n1+2,6),(n1+1,5),(n1,4)]) (by refine⟨v253,v243,v245,v246,v247,by simp[hh,m4_1,m5_2,m6_3,m7_4,m9_26,m10_27,dc249],sp⟩) ?_
      clear hh m4_1 m5_2 m6_3 m7_4 m9_26 m10_27
      rintro ρ H n264 ⟨v259,v260,v261,v262,v263,⟨hh,m4_1,m5_2,m6_3,m7_4,m9_26,m10_27⟩,sp⟩
      refine Runs.inBlock ?_
      refine zF fun k' hk'=>?_
      obtain⟨hb265,h⟩:=h
      obtain⟨v266,ev266,h⟩:=atm h
      have f267:=ib_add hb265 ev266
      simp[hh,m4_1,m5_2,m6_3,m7_4,m9_26,m10_27,f267,-intBin]
      apply hk'
      refine IH129 (v266,l120,l252,l236) _ _ _ h (by refine⟨v259,v260,v261,v262,v263,by simp[hh,m4_1,m5_2,m6_3,m7_4,m9_26,m10_27],sp⟩)
     replace h:=h.2 dc249
     refine Runs.skip ?_
     refine Runs.inBlock ?_
     refine zF fun k' hk'=>?_
     obtain⟨hb268,h⟩:=h
     obtain⟨v269,ev269,h⟩:=atm h
     have f270:=ib_add hb268 ev269
     simp[hh,m4_1,m5_2,m6_3,m7_4,m9_26,m10_27,f270,dc249,-intBin]
     apply hk'
     refine IH129 (v269,l120,l121,l236) _ _ _ h (by refine⟨v244,v243,v245,v246,v247,by simp[hh,m4_1,m5_2,m6_3,m7_4,m9_26,m10_27,dc249],sp.f1⟩)
    replace h:=h.2 dc233
    refine Runs.skip ?_
    refine Runs.inBlock ?_
    refine zE fun k' hk'=>?_
    obtain⟨c271,ec271,h⟩:=atm h
    have f272:=ib_gtr (k:=.i64) ec271
    simp[hh,m4_1,m5_2,m6_3,m7_4,m9_26,m10_27,f272,db208,dc233,-intBin]
    apply hk'
    refine Runs.ite (b:=c271) (by simp[hh,m4_1,m5_2,m6_3,m7_4,m9_26,m10_27,db208,dc233]) (fun dc271=>?_) (fun dc271=>?_)
    ·replace h:=h.1 dc271
     refine zF fun k' hk'=>?_
     obtain⟨hb273,h⟩:=h
     obtain⟨l274,el274,h⟩:=atm h
     simp[hh,m4_1,m5_2,m6_3,m7_4,m9_26,m10_27,db208,dc233,dc271,-appendF]
     refine bind_append [] [oI v210 l122,oI v211 l120,oI v212 l46,oI v213 l45] [[int v119]] [intC v119] sp kd_24 (by simp) (by simp) (by simp) (by simp[-one1,o1x]) (rows_one (Fill.v _ Fill.nil)) (by simp) (by simpa using hb273) ?_
     rintro v275 H276 n277 sp hfr278 hle279
     replace sp:Sep H276 n277 [oI v275 l274,oI v210 l122,oI v211 l120,oI v212 l46,oI v213 l45] [(n12+3,10),(n12+2,9),(n1+3,7),(n1+2,6),(n1+1,5),(n1,4)]:=Sep.ap el274 sp
     have m4_1:=(hfr278 _ (by simp)).trans m4_1
     have m5_2:=(hfr278 _ (by simp)).trans m5_2
     have m6_3:=(hfr278 _ (by simp)).trans m6_3
     have m7_4:=(hfr278 _ (by simp)).trans m7_4
     have m9_26:=(hfr278 _ (by simp)).trans m9_26
     have m10_27:=(hfr278 _ (by simp)).trans m10_27
     simp[hh,m4_1,m5_2,m6_3,m7_4,m9_26,m10_27,db208,dc233,dc271]
     apply hk'
     refine Runs.cut (fun ρ H n=>∃ (v281 v282 v283 v284 v285:AVal),((ρ 0 = .list false (sig.map Control.cells)∧ρ 4=pA n1 4∧ρ 5=pA (n1+1) 5∧ρ 6=pA (n1+2) 6∧ρ 7=pA (n1+3) 7∧ρ 9=pA (n12+2) 9∧ρ 10=pA (n12+3) 10∧ρ 12=v283∧ρ 13=v282∧ρ 14=v281∧ρ 88=int v100∧ρ 89=int v119)∧H (n1,4)=some ⟨6,[bC false b]⟩∧H (n1+1,5)=some ⟨1,[[int node]]⟩∧H (n1+2,6)=some ⟨6,[zB]⟩∧H (n1+3,7)=some ⟨6,[zB]⟩∧H (n12+2,9)=some ⟨1,[[v285]]⟩∧H (n12+3,10)=some ⟨1,[[v284]]⟩)∧Sep H n [oI v281 l274,oI v282 l122,oI v283 l120,oI v284 l46,oI v285 l45] [(n12+3,10),(n12+2,9),(n1+3,7),(n1+2,6),(n1+1,5),(n1,4)]) (by refine⟨v275,v210,v211,v212,v213,by simp[hh,m4_1,m5_2,m6_3,m7_4,m9_26,m10_27,db208,dc233,dc271],sp⟩) ?_
     clear hh m4_1 m5_2 m6_3 m7_4 m9_26 m10_27
     rintro ρ H n286 ⟨v281,v282,v283,v284,v285,⟨hh,m4_1,m5_2,m6_3,m7_4,m9_26,m10_27⟩,sp⟩
     refine Runs.inBlock ?_
     refine zF fun k' hk'=>?_
     obtain⟨hb287,h⟩:=h
     obtain⟨v288,ev288,h⟩:=atm h
     have f289:=ib_add hb287 ev288
     simp[hh,m4_1,m5_2,m6_3,m7_4,m9_26,m10_27,f289,-intBin]
     apply hk'
     refine IH129 (v288,l120,l274,l122) _ _ _ h (by refine⟨v281,v282,v283,v284,v285,by simp[hh,m4_1,m5_2,m6_3,m7_4,m9_26,m10_27],sp⟩)
    replace h:=h.2 dc271
    refine Runs.skip ?_
    refine Runs.inBlock ?_
    refine zF fun k' hk'=>?_
    obtain⟨hb290,h⟩:=h
    obtain⟨v291,ev291,h⟩:=atm h
    have f292:=ib_add hb290 ev291
    simp[hh,m4_1,m5_2,m6_3,m7_4,m9_26,m10_27,f292,db208,dc233,dc271,-intBin]
    apply hk'
    refine IH129 (v291,l120,l121,l122) _ _ _ h (by refine⟨v209,v210,v211,v212,v213,by simp[hh,m4_1,m5_2,m6_3,m7_4,m9_26,m10_27,db208,dc233,dc271],sp⟩)
   replace h:=hJ206
   obtain⟨c293,ec293,h⟩:=atm h
   have f294:=ib_lss (k:=.i64) ec293
   rcases Bool.eq_false_or_eq_true c293 with dc293 | dc293
   ·replace h:=h.1 dc293
    obtain⟨c295,ec295,h⟩:=atm h
    have f296:=ib_gtr (k:=.i64) ec295
    rcases Bool.eq_false_or_eq_true c295 with dc295 | dc295
    ·replace h:=h.1 dc295
     obtain⟨len297,elen297,h⟩:=atm h
     have f298:=len_own (Sep.len (m:=len297) sp.f5 kd_83 (by rw[elen297,List.length_map]))
     obtain⟨c299,ec299,h⟩:=atm h
     have f300:=ib_eql (k:=.i64) ec299
     simp[hh,m4_1,m5_2,m6_3,m7_4,m9_26,m10_27,f294,f296,f298,f300,dc176,dc293,dc295,-intBin,-lenF]
     exact fin214 (c299) _ _ _ h (by refine⟨v167,v168,v169,v170,v171,by simp[hh,m4_1,m5_2,m6_3,m7_4,m9_26,m10_27,f294,f296,f298,f300,dc176,dc293,dc295,-intBin,-lenF],sp.f5.dr⟩)
    replace h:=h.2 dc295
    simp[hh,m4_1,m5_2,m6_3,m7_4,m9_26,m10_27,f294,f296,dc176,dc293,dc295,-intBin]
    exact fin214 (false) _ _ _ h (by refine⟨v167,v168,v169,v170,v171,by simp[hh,m4_1,m5_2,m6_3,m7_4,m9_26,m10_27,f294,f296,dc176,dc293,dc295,-intBin],sp.f5.dr⟩)
   replace h:=h.2 dc293
   simp[hh,m4_1,m5_2,m6_3,m7_4,m9_26,m10_27,f294,dc176,dc293,-intBin]
   exact fin214 (false) _ _ _ h (by refine⟨v167,v168,v169,v170,v171,by simp[hh,m4_1,m5_2,m6_3,m7_4,m9_26,m10_27,f294,dc176,dc293,-intBin],sp.f5.dr⟩)
  replace h:=h.2 dc131
  refine Runs.exit rfl ?_
  refine zE fun k' hk'=>?_
  simp[hh,m4_1,m5_2,m6_3,m7_4,m9_26,m10_27,dc131]
  apply hk'
  refine Runs.cut (fun ρ H n=>∃ (v302 v303 v304 v305 v306 v307:AVal),((ρ 0 = .list false (sig.map Control.cells)∧ρ 4=pA n1 4∧ρ 5=pA (n1+1) 5∧ρ 6=pA (n1+2) 6∧ρ 7=pA (n1+3) 7∧ρ 9=pA (n12+2) 9∧ρ 10=pA (n12+3) 10∧ρ 12=v305∧ρ 13=v304∧ρ 14=v303∧ρ 21=v302)∧H (n1,4)=some ⟨6,[bC false b]⟩∧H (n1+1,5)=some ⟨1,[[int node]]⟩∧H (n1+2,6)=some ⟨6,[zB]⟩∧H (n1+3,7)=some ⟨6,[zB]⟩∧H (n12+2,9)=some ⟨1,[[v307]]⟩∧H (n12+3,10)=some ⟨1,[[v306]]⟩)∧Sep H n [oS v302 ([]:List Str),oI v303 l121,oI v304 l122,oI v305 l120,oI v306 l46,oI v307 l45] [(n12+3,10),(n12+2,9),(n1+3,7),(n1+2,6),(n1+1,5),(n1,4)]) (by refine⟨.arr (n128,146) 0 0 0,v123,v124,v125,v126,v127,by simp[hh,m4_1,m5_2,m6_3,m7_4,m9_26,m10_27,dc131],(Sep.addEmpty (l:=[.c]) sp)⟩) ?_
  clear hh m4_1 m5_2 m6_3 m7_4 m9_26 m10_27
  rintro ρ H n308 ⟨v302,v303,v304,v305,v306,v307,⟨hh,m4_1,m5_2,m6_3,m7_4,m9_26,m10_27⟩,sp⟩
  refine Runs.seq ?_
  refine zE fun k' hk'=>?_
  obtain⟨len309,elen309,h⟩:=atm h
  have f310:=len_own (Sep.len (m:=len309) sp.f1 kd_24 (by rw[elen309,List.length_map]))
  simp[hh,m4_1,m5_2,m6_3,m7_4,m9_26,m10_27,f310,-lenF]
  apply hk'
  refine Runs.block ?_
  refine Runs.loopW h (fun (sJ:Int × (List Str)) ρ H n=>match sJ with | (v328,l329)=>∃ (v330 v331 v332 v333 v334 v335:AVal),((ρ 0 = .list false (sig.map Control.cells)∧ρ 4=pA n1 4∧ρ 5=pA (n1+1) 5∧ρ 6=pA (n1+2) 6∧ρ 7=pA (n1+3) 7∧ρ 9=pA (n12+2) 9∧ρ 10=pA (n12+3) 10∧ρ 12=v333∧ρ 13=v332∧ρ 14=v331∧ρ 21=v330∧ρ 147=v331∧ρ 148=int len309∧ρ 149=int v328)∧H (n1,4)=some ⟨6,[bC false b]⟩∧H (n1+1,5)=some ⟨1,[[int node]]⟩∧H (n1+2,6)=some ⟨6,[zB]⟩∧H (n1+3,7)=some ⟨6,[zB]⟩∧H (n12+2,9)=some ⟨1,[[v335]]⟩∧H (n12+3,10)=some ⟨1,[[v334]]⟩)∧Sep H n [oS v330 l329,oI v331 l121,oI v332 l122,oI v333 l120,oI v334 l46,oI v335 l45] [(n12+3,10),(n12+2,9),(n1+3,7),(n1+2,6),(n1+1,5),(n1,4)]) (by refine⟨v302,v303,v304,v305,v306,v307,by simp[hh,m4_1,m5_2,m6_3,m7_4,m9_26,m10_27],sp⟩) ?_
  clear hh m4_1 m5_2 m6_3 m7_4 m9_26 m10_27
  rintro⟨v328,l329⟩ ρ H n336 K h ⟨v330,v331,v332,v333,v334,v335,⟨hh,m4_1,m5_2,m6_3,m7_4,m9_26,m10_27⟩,sp⟩ IH337
  refine zE fun k' hk'=>?_
  obtain⟨c339,ec339,h⟩:=atm h
  have f340:=ib_lss (k:=.i64) ec339
  simp[hh,m4_1,m5_2,m6_3,m7_4,m9_26,m10_27,f340,-intBin]
  apply hk'
  refine Runs.seq ?_
  refine Runs.ite (b:=c339) (by simp[hh,m4_1,m5_2,m6_3,m7_4,m9_26,m10_27]) (fun dc339=>?_) (fun dc339=>?_)
  ·replace h:=h.1 dc339
   refine Runs.skip ?_
   refine Runs.seq ?_
   refine Runs.block ?_
   refine zE fun k' hk'=>?_
   obtain⟨hb341,h⟩:=h
   obtain⟨id342,hv,mo343,ln344,ni345⟩:=Sep.openF sp.f1 (by simp) hb341
   subst hv
   simp at ni345
   obtain⟨x346,ex346,h⟩:=atm h
   have f347:=fun H (hm:H id342=some ⟨1,l121.map intC⟩)=>ix_arr (H:=H) (k:=.i64) (off:=0) (len:=l121.length) (g:=l121.length) kd_24 hm (by simp) rfl hb341
   have f348:=at_some (q:=v328.toNat) hb341 ex346 rfl
   simp[hh,m4_1,m5_2,m6_3,m7_4,m9_26,m10_27,mo343,ni345,f347,f348,dc339,-indexAddrF]
   apply hk'
   refine zF fun k' hk'=>?_
   obtain⟨hb349,h⟩:=h
   obtain⟨r350,er350,h⟩:=atm h
   simp[hh,m4_1,m5_2,m6_3,m7_4,m9_26,m10_27,mo343,ni345,dc339]
   refine RunK.callA Ty_ok (linkName_ok x346 hb349) e50 (.cons (.v _ _ _) .nil) (by decide) (by decide) rfl (by simp[hh,m4_1,m5_2,m6_3,m7_4,m9_26,m10_27,mo343,ni345,dc339]) ?_
   rintro _ rfl
   rw[← er350]
   obtain⟨hb351,h⟩:=h
   obtain⟨l352,el352,h⟩:=atm h
   simp[hh,m4_1,m5_2,m6_3,m7_4,m9_26,m10_27,mo343,ni345,dc339,-appendF]
   refine bind_append [] [oI (.arr id342 l121.length 0 l121.length) l121,oI v332 l122,oI v333 l120,oI v334 l46,oI v335 l45] [[str r350]] [strC r350] sp kd_25 (by simp) (by simp) (by simp) (by simp[-one1,o1x]) (rows_one (Fill.v _ Fill.nil)) (by simp) (by simpa using hb351) ?_
   rintro v353 H354 n355 sp hfr356 hle357
   replace sp:Sep H354 n355 [oS v353 l352,oI (.arr id342 l121.length 0 l121.length) l121,oI v332 l122,oI v333 l120,oI v334 l46,oI v335 l45] [(n12+3,10),(n12+2,9),(n1+3,7),(n1+2,6),(n1+1,5),(n1,4)]:=Sep.ap el352 sp
   have m4_1:=(hfr356 _ (by simp)).trans m4_1
   have m5_2:=(hfr356 _ (by simp)).trans m5_2
   have m6_3:=(hfr356 _ (by simp)).trans m6_3
   have m7_4:=(hfr356 _ (by simp)).trans m7_4
   have m9_26:=(hfr356 _ (by simp)).trans m9_26
   have m10_27:=(hfr356 _ (by simp)).trans m10_27
   simp[hh,m4_1,m5_2,m6_3,m7_4,m9_26,m10_27,ni345,dc339]
   apply hk'
   refine Runs.cut (fun ρ H n=>∃ (v359 v360 v361 v362 v363 v364:AVal),((ρ 0 = .list false (sig.map Control.cells)∧ρ 4=pA n1 4∧ρ 5=pA (n1+1) 5∧ρ 6=pA (n1+2) 6∧ρ 7=pA (n1+3) 7∧ρ 9=pA (n12+2) 9∧ρ 10=pA (n12+3) 10∧ρ 12=v362∧ρ 13=v361∧ρ 14=v360∧ρ 21=v359∧ρ 147=v360∧ρ 148=int len309∧ρ 149=int v328)∧H (n1,4)=some ⟨6,[bC false b]⟩∧H (n1+1,5)=some ⟨1,[[int node]]⟩∧H (n1+2,6)=some ⟨6,[zB]⟩∧H (n1+3,7)=some ⟨6,[zB]⟩∧H (n12+2,9)=some ⟨1,[[v364]]⟩∧H (n12+3,10)=some ⟨1,[[v363]]⟩)∧Sep H n [oS v359 l352,oI v360 l121,oI v361 l122,oI v362 l120,oI v363 l46,oI v364 l45] [(n12+3,10),(n12+2,9),(n1+3,7),(n1+2,6),(n1+1,5),(n1,4)]) (by refine⟨v353,.arr id342 l121.length 0 l121.length,v332,v333,v334,v335,by simp[hh,m4_1,m5_2,m6_3,m7_4,m9_26,m10_27,ni345,dc339],sp⟩) ?_
   clear hh m4_1 m5_2 m6_3 m7_4 m9_26 m10_27 ni345
   rintro ρ H n365 ⟨v359,v360,v361,v362,v363,v364,⟨hh,m4_1,m5_2,m6_3,m7_4,m9_26,m10_27⟩,sp⟩
   refine Runs.inBlock ?_
   refine zF fun k' hk'=>?_
   obtain⟨hb366,h⟩:=h
   obtain⟨v367,ev367,h⟩:=atm h
   have f368:=ib_add hb366 ev367
   simp[hh,m4_1,m5_2,m6_3,m7_4,m9_26,m10_27,f368,-intBin]
   apply hk'
   refine IH337 (v367,l352) _ _ _ h (by refine⟨v359,v360,v361,v362,v363,v364,by simp[hh,m4_1,m5_2,m6_3,m7_4,m9_26,m10_27],sp⟩)
  replace h:=h.2 dc339
  refine Runs.exit rfl ?_
  refine Runs.seq ?_
  refine zE fun k' hk'=>?_
  obtain⟨len369,elen369,h⟩:=atm h
  have f370:=len_own (Sep.len (m:=len369) sp kd_25 (by rw[elen369,List.length_map]))
  obtain⟨c371,ec371,h⟩:=atm h
  have f372:=ib_gtr (k:=.i64) ec371
  simp[hh,m4_1,m5_2,m6_3,m7_4,m9_26,m10_27,f370,f372,dc339,-intBin,-lenF]
  apply hk'
  refine Runs.ite (b:=c371) (by simp[hh,m4_1,m5_2,m6_3,m7_4,m9_26,m10_27,dc339]) (fun dc371=>?_) (fun dc371=>?_)
  ·replace h:=h.1 dc371
   refine zE fun k' hk'=>?_
   simp[hh,m4_1,m5_2,m6_3,m7_4,m9_26,m10_27,dc339,dc371]
   apply hk'
   refine Runs.cut (fun ρ H n=>((ρ 6=pA (n1+2) 6∧ρ 7=pA (n1+3) 7∧ρ 8=bool false)∧H (n1+2,6)=some ⟨6,[zB]⟩∧H (n1+3,7)=some ⟨6,[zB]⟩)∧Sep H n [] [(n1+3,7),(n1+2,6)]) (by refine⟨by simp[hh,m4_1,m5_2,m6_3,m7_4,m9_26,m10_27,dc339,dc371],(Sep.sub (Sep.dr (Sep.dr (Sep.dr (Sep.dr (Sep.dr (Sep.dr (Sep.setVar (w:=(n1+3,7)) (Sep.setVar (w:=(n1+2,6)) sp (by simp)) (by simp)))))))) (by simp +contextual))⟩) ?_
   clear hh m4_1 m5_2 m6_3 m7_4 m9_26 m10_27
   rintro ρ H n373 ⟨⟨hh,m6_3,m7_4⟩,sp⟩
   exact Runs.res3 Ty_ok (v:=.agg [int 0,.v (.slice none 0 0),.v (.slice none 0 0),int 0,.v (.slice none 0 0),.v (.slice none 0 0)]) (w:=.agg [int 0,.v (.slice none 0 0),.v (.slice none 0 0),int 0,.v (.slice none 0 0),.v (.slice none 0 0)]) (z:=bool false) Tryz.func12 Tryz.results12 (by simp[hh,m6_3,m7_4,resA]) (by simp[hh,m6_3,m7_4,resA]) (by simp[hh,m6_3,m7_4,resA]) (hQ _ _ _ _ (Sep.sub (ids':=[]) (Sep.packT (Fill.own (Fill.own (Fill.v _ Fill.nil))) (Sep.f1 (Sep.pack (Fill.v _ (Fill.own (Fill.own (Fill.v _ (Fill.own (Fill.own Fill.nil)))))) (Sep.f4 (Sep.f3 (Sep.f2 (Sep.f1 (Sep.pack (Fill.v _ (Fill.own (Fill.own (Fill.v _ (Fill.own (Fill.own Fill.nil)))))) (Sep.f7 (Sep.f6 (Sep.f5 (Sep.f4 (Sep.addNil (Sep.addNil (Sep.addNil (Sep.addNil (Sep.addNil (Sep.addNil (Sep.addNil (Sep.addNil sp)))))))))))))))))))) (by simp)) ⟨((Big.mk 0 [] [] 0 [] []),(Big.mk 0 [] [] 0 [] []),false),h,rfl⟩)
  replace h:=h.2 dc371
  refine Runs.skip ?_
  refine zE fun k' hk'=>?_
  obtain⟨hb385,h⟩:=h
  obtain⟨r386,er386,h⟩:=atm h
  simp[hh,m4_1,m5_2,m6_3,m7_4,m9_26,m10_27,dc339,dc371]
  refine RunK.callW Ty_ok (partB_ok b l45 l120 l329 (fun z0=>cutP1 z0 node l45) (fun z0=>cutP1_pre z0 node l45) (fun z0=>linkName z0) (fun z0=>linkName_pre z0) e52 (fun _ _=>by refine (.cons (ArgOk.iptrF (.cons (.v _ _ _) .nil)) (.cons (ArgOk.iptrF (.cons (argI false l45) .nil)) .nil))) (fun z0 hz=>cutP1_ok z0 node l45 hz) e50 (fun _ _=>by exact .nil) (fun z0 hz=>linkName_ok z0 hz) hb385) e51 (.cons (argB false b) (.cons (Sep.argOk' sp.f5 (old_listF (by simp))) (.cons (Sep.argOk' sp.f3 (old_listF (by simp))) (.cons (Sep.argOk' sp (old_listF (by simp))) (.cons (ArgOk.fnF .nil (.cons (ArgOk.ptrVar m5_2 (.cons (.v _ _ _) .nil)) (.cons (ArgOk.ptrVar m9_26 (.cons (Sep.argOk' sp.f5 (old_listF (by simp))) .nil)) .nil))) (.cons (ArgOk.fnF .nil .nil) .nil)))))) sp (by decide) (by decide) rfl (by simp[hh,m4_1,m5_2,m6_3,m7_4,m9_26,m10_27,dc339,dc371]) ?_
  rintro v387 H388 n389 _ sp rfl hle391 hfr390
  rw[← er386] at sp
  have m4_1:=(hfr390 _ (by simp)).trans m4_1
  have m5_2:=(hfr390 _ (by simp)).trans m5_2
  have m6_3:=(hfr390 _ (by simp)).trans m6_3
  have m7_4:=(hfr390 _ (by simp)).trans m7_4
  have m9_26:=(hfr390 _ (by simp)).trans m9_26
  have m10_27:=(hfr390 _ (by simp)).trans m10_27
  replace sp:=Sep.unpack sp
  obtain⟨L399,hv,hl400,sp⟩:=sp
  subst hv
  obtain⟨v393,v394,v395,v396,v397,v398,hv⟩:=len6 (by simpa using hl400)
  subst hv
  simp only[zip3,List.cons_append,List.nil_append] at sp
  replace sp:=Sep.scalar sp
  obtain⟨hv,sp⟩:=sp
  subst hv
  replace sp:=Sep.rot sp
  try simp only[List.cons_append,List.nil_append,List.append_assoc] at sp
  replace sp:=Sep.rot sp
  try simp only[List.cons_append,List.nil_append,List.append_assoc] at sp
  replace sp:=Sep.scalar sp
  obtain⟨hv,sp⟩:=sp
  subst hv
  replace sp:=Sep.rot sp
  try simp only[List.cons_append,List.nil_append,List.append_assoc] at sp
  replace sp:=Sep.rot sp
  try simp only[List.cons_append,List.nil_append,List.append_assoc] at sp
  have f406:=Sep.oc sp.f6
  have f407:=Sep.oc sp.f7
  have f408:=Sep.oc sp.f8
  have f409:=Sep.oc sp.f9
  simp[hh,m4_1,m5_2,m6_3,m7_4,m9_26,m10_27,f406,f407,f408,f409,dc339,dc371,-cellsA,-one1,cAx,o1x]
  apply hk'
  refine Runs.cut (fun ρ H n=>∃ (v410 v411 v412 v413 v414 v415 v416 v417:AVal),((ρ 0 = .list false (sig.map Control.cells)∧ρ 4=pA n1 4∧ρ 5=pA (n1+1) 5∧ρ 6=pA (n1+2) 6∧ρ 7=pA (n1+3) 7∧ρ 10=pA (n12+3) 10∧ρ 13=v412∧ρ 14=v411∧ρ 21=v410∧ρ 24=pA n389 24)∧H (n1,4)=some ⟨6,[bC false b]⟩∧H (n1+1,5)=some ⟨1,[[int node]]⟩∧H (n1+2,6)=some ⟨6,[zB]⟩∧H (n1+3,7)=some ⟨6,[zB]⟩∧H (n12+3,10)=some ⟨1,[[v413]]⟩∧H (n389,24)=some ⟨6,[[int r386.roots,v414,v415,int r386.edges,v416,v417]]⟩)∧Sep H n [oS v410 l329,oI v411 l121,oI v412 l122,oI v413 l46,oN v414 r386.nodes,oI v415 r386.sites,oS v416 r386.outer,oW v417 r386.inner] [(n389,24),(n12+3,10),(n1+3,7),(n1+2,6),(n1+1,5),(n1,4)]) (by refine⟨v330,v331,v332,v334,v394,v395,v397,v398,by simp[hh,m4_1,m5_2,m6_3,m7_4,m9_26,m10_27,f406,f407,f408,f409,dc339,dc371,-cellsA,-one1,cAx,o1x],(Sep.sub sp.var.f3.dr.f4.dr (by simp +contextual))⟩) ?_
  clear hh m4_1 m5_2 m6_3 m7_4 m9_26 m10_27
  rintro ρ H n418 ⟨v410,v411,v412,v413,v414,v415,v416,v417,⟨hh,m4_1,m5_2,m6_3,m7_4,m10_27,m24_404⟩,sp⟩
  refine zE fun k' hk'=>?_
  simp[hh,m4_1,m5_2,m6_3,m7_4,m10_27,m24_404]
  apply hk'
  refine Runs.cut (fun ρ H n=>∃ (v419 v420 v421 v422 v423 v424 v425 v426:AVal),((ρ 0 = .list false (sig.map Control.cells)∧ρ 4=pA n1 4∧ρ 5=pA (n1+1) 5∧ρ 6=pA (n1+2) 6∧ρ 7=pA (n1+3) 7∧ρ 10=pA (n12+3) 10∧ρ 13=v421∧ρ 14=v420∧ρ 21=v419∧ρ 24=pA n389 24)∧H (n1,4)=some ⟨6,[bC false b]⟩∧H (n1+1,5)=some ⟨1,[[int node]]⟩∧H (n1+2,6)=some ⟨6,[zB]⟩∧H (n1+3,7)=some ⟨6,[zB]⟩∧H (n12+3,10)=some ⟨1,[[v422]]⟩∧H (n389,24)=some ⟨6,[[int 1,v423,v424,int r386.edges,v425,v426]]⟩)∧Sep H n [oS v419 l329,oI v420 l121,oI v421 l122,oI v422 l46,oN v423 r386.nodes,oI v424 r386.sites,oS v425 r386.outer,oW v426 r386.inner] [(n389,24),(n12+3,10),(n1+3,7),(n1+2,6),(n1+1,5),(n1,4)]) (by refine⟨v410,v411,v412,v413,v414,v415,v416,v417,by simp[hh,m4_1,m5_2,m6_3,m7_4,m10_27,m24_404],(Sep.setVar (w:=(n389,24)) sp (by simp))⟩) ?_
  clear hh m4_1 m5_2 m6_3 m7_4 m10_27 m24_404
  rintro ρ H n427 ⟨v419,v420,v421,v422,v423,v424,v425,v426,⟨hh,m4_1,m5_2,m6_3,m7_4,m10_27,m24_404⟩,sp⟩
  refine zE fun k' hk'=>?_
  obtain⟨hb428,h⟩:=h
  obtain⟨r429,er429,h⟩:=atm h
  simp[hh,m4_1,m5_2,m6_3,m7_4,m10_27,m24_404]
  refine RunK.callW Ty_ok (partB_ok b l46 l122 b.outer (fun z0=>cutP2 z0 l46) (fun z0=>cutP2_pre z0 l46) (fun z0=>cutP3 z0 b) (fun z0=>cutP3_pre z0 b) e54 (fun _ _=>by refine (.cons (ArgOk.iptrF (.cons (argI false l46) .nil)) .nil)) (fun z0 hz=>cutP2_ok z0 l46 hz) e55 (fun _ _=>by refine (.cons (ArgOk.iptrF (.cons (.v _ _ _) (.cons (ArgOk.nest_Node false b.nodes) (.cons (argI false b.sites) (.cons (.v _ _ _) (.cons (argS false b.outer) (.cons (argW false b.inner) .nil))))))) .nil)) (fun z0 hz=>cutP3_ok z0 b hz) hb428) e51 (.cons (argB false b) (.cons (Sep.argOk' sp.f3 (old_listF (by simp))) (.cons (Sep.argOk' sp.f2 (old_listF (by simp))) (.cons (argS false b.outer) (.cons (ArgOk.fnF .nil (.cons (ArgOk.ptrVar m10_27 (.cons (Sep.argOk' sp.f3 (old_listF (by simp))) .nil)) .nil)) (.cons (ArgOk.fnF .nil (.cons (ArgOk.ptrVar m4_1 (.cons (.v _ _ _) (.cons (ArgOk.nest_Node false b.nodes) (.cons (argI false b.sites) (.cons (.v _ _ _) (.cons (argS false b.outer) (.cons (argW false b.inner) .nil))))))) .nil)) .nil)))))) sp (by decide) (by decide) rfl (by simp[hh,m4_1,m5_2,m6_3,m7_4,m10_27,m24_404]) ?_
  rintro v430 H431 n432 _ sp rfl hle434 hfr433
  rw[← er429] at sp
  have m4_1:=(hfr433 _ (by simp)).trans m4_1
  have m5_2:=(hfr433 _ (by simp)).trans m5_2
  have m6_3:=(hfr433 _ (by simp)).trans m6_3
  have m7_4:=(hfr433 _ (by simp)).trans m7_4
  have m10_27:=(hfr433 _ (by simp)).trans m10_27
  have m24_404:=(hfr433 _ (by simp)).trans m24_404
  replace sp:=Sep.unpack sp
  obtain⟨L442,hv,hl443,sp⟩:=sp
  subst hv
  obtain⟨v436,v437,v438,v439,v440,v441,hv⟩:=len6 (by simpa using hl443)
  subst hv
  simp only[zip3,List.cons_append,List.nil_append] at sp
  replace sp:=Sep.scalar sp
  obtain⟨hv,sp⟩:=sp
  subst hv
  replace sp:=Sep.rot sp
  try simp only[List.cons_append,List.nil_append,List.append_assoc] at sp
  replace sp:=Sep.rot sp
  try simp only[List.cons_append,List.nil_append,List.append_assoc] at sp
  replace sp:=Sep.scalar sp
  obtain⟨hv,sp⟩:=sp
  subst hv
  replace sp:=Sep.rot sp
  try simp only[List.cons_append,List.nil_append,List.append_assoc] at sp
  replace sp:=Sep.rot sp
  try simp only[List.cons_append,List.nil_append,List.append_assoc] at sp
  have f449:=Sep.oc sp.f8
  have f450:=Sep.oc sp.f9
  have f451:=Sep.oc sp.f10
  have f452:=Sep.oc sp.f11
  simp[hh,m4_1,m5_2,m6_3,m7_4,m10_27,m24_404,f449,f450,f451,f452,-cellsA,-one1,cAx,o1x]
  apply hk'
  refine Runs.cut (fun ρ H n=>∃ (v453 v454 v455 v456 v457 v458 v459 v460 v461 v462 v463 v464:AVal),((ρ 0 = .list false (sig.map Control.cells)∧ρ 4=pA n1 4∧ρ 5=pA (n1+1) 5∧ρ 6=pA (n1+2) 6∧ρ 7=pA (n1+3) 7∧ρ 10=pA (n12+3) 10∧ρ 13=v455∧ρ 14=v454∧ρ 21=v453∧ρ 24=pA n389 24∧ρ 25=pA n432 25)∧H (n1,4)=some ⟨6,[bC false b]⟩∧H (n1+1,5)=some ⟨1,[[int node]]⟩∧H (n1+2,6)=some ⟨6,[zB]⟩∧H (n1+3,7)=some ⟨6,[zB]⟩∧H (n12+3,10)=some ⟨1,[[v456]]⟩∧H (n389,24)=some ⟨6,[[int 1,v457,v458,int r386.edges,v459,v460]]⟩∧H (n432,25)=some ⟨6,[[int r429.roots,v461,v462,int r429.edges,v463,v464]]⟩)∧Sep H n [oS v453 l329,oI v454 l121,oI v455 l122,oI v456 l46,oN v457 r386.nodes,oI v458 r386.sites,oS v459 r386.outer,oW v460 r386.inner,oN v461 r429.nodes,oI v462 r429.sites,oS v463 r429.outer,oW v464 r429.inner] [(n432,25),(n389,24),(n12+3,10),(n1+3,7),(n1+2,6),(n1+1,5),(n1,4)]) (by refine⟨v419,v420,v421,v422,v423,v424,v425,v426,v437,v438,v440,v441,by simp[hh,m4_1,m5_2,m6_3,m7_4,m10_27,m24_404,f449,f450,f451,f452,-cellsA,-one1,cAx,o1x],sp.var⟩) ?_
  clear hh m4_1 m5_2 m6_3 m7_4 m10_27 m24_404
  rintro ρ H n465 ⟨v453,v454,v455,v456,v457,v458,v459,v460,v461,v462,v463,v464,⟨hh,m4_1,m5_2,m6_3,m7_4,m10_27,m24_404,m25_447⟩,sp⟩
  refine Runs.seqK Ty_ok (by decide) fun k' hk'=>?_
  refine RunK.same1 (v:=v456) Ty_ok (by decide) rfl (by simp[hh,m4_1,m5_2,m6_3,m7_4,m10_27,m24_404,m25_447]) ?_
  refine RunK.same1 (v:=(int node)) Ty_ok (by decide) rfl (by simp[hh,m4_1,m5_2,m6_3,m7_4,m10_27,m24_404,m25_447]) ?_
  obtain⟨hb466,h⟩:=h
  obtain⟨r467,er467,h⟩:=atm h
  refine RunK.callA2 (xs1:=[v456,int node]) Ty_ok (indexI_ok l46 node hb466) e53 (.cons (Sep.argOk' sp.f3 (old_listF (by simp))) (.cons (.v _ _ _) .nil)) (by decide) rfl (by simp[hh,m4_1,m5_2,m6_3,m7_4,m10_27,m24_404,m25_447]) ?_
  rintro _ rfl
  rw[← er467]
  obtain⟨l468,el468,h⟩:=atm h
  refine RunK.makeS (l':=[.c]) (cs:=[int r467]) Ty_ok (([r467]:List Int).map intC) sp (by decide) (by decide) (by simp) kd_24 (by simp) (by simp) (by simp[hh,m4_1,m5_2,m6_3,m7_4,m10_27,m24_404,m25_447,splice,List.replicate,fillA]) (by simp[chunks,List.range_succ]) (by simp) (by simp) ?_
  rintro id469 H470 n471 sp hfr472 hle473
  replace sp:Sep H470 n471 [oI (.arr id469 1 0 1) l468,oS v453 l329,oI v454 l121,oI v455 l122,oI v456 l46,oN v457 r386.nodes,oI v458 r386.sites,oS v459 r386.outer,oW v460 r386.inner,oN v461 r429.nodes,oI v462 r429.sites,oS v463 r429.outer,oW v464 r429.inner] [(n432,25),(n389,24),(n12+3,10),(n1+3,7),(n1+2,6),(n1+1,5),(n1,4)]:=by rw[el468];exact sp
  have m4_1:=(hfr472 _ (by simp)).trans m4_1
  have m5_2:=(hfr472 _ (by simp)).trans m5_2
  have m6_3:=(hfr472 _ (by simp)).trans m6_3
  have m7_4:=(hfr472 _ (by simp)).trans m7_4
  have m10_27:=(hfr472 _ (by simp)).trans m10_27
  have m24_404:=(hfr472 _ (by simp)).trans m24_404
  have m25_447:=(hfr472 _ (by simp)).trans m25_447
  simp[hh,m4_1,m5_2,m6_3,m7_4,m10_27,m24_404,m25_447]
  apply hk'
  refine Runs.cut (fun ρ H n=>∃ (v476 v477 v478 v479 v480 v481 v482 v483 v484 v485 v486:AVal),((ρ 0 = .list false (sig.map Control.cells)∧ρ 4=pA n1 4∧ρ 6=pA (n1+2) 6∧ρ 7=pA (n1+3) 7∧ρ 13=v479∧ρ 14=v478∧ρ 21=v477∧ρ 24=pA n389 24∧ρ 25=pA n432 25)∧H (n1,4)=some ⟨6,[bC false b]⟩∧H (n1+2,6)=some ⟨6,[zB]⟩∧H (n1+3,7)=some ⟨6,[zB]⟩∧H (n389,24)=some ⟨6,[[int 1,v480,v481,int r386.edges,v482,v483]]⟩∧H (n432,25)=some ⟨6,[[int r429.roots,v484,v476,int r429.edges,v485,v486]]⟩)∧Sep H n [oI v476 l468,oS v477 l329,oI v478 l121,oI v479 l122,oN v480 r386.nodes,oI v481 r386.sites,oS v482 r386.outer,oW v483 r386.inner,oN v484 r429.nodes,oS v485 r429.outer,oW v486 r429.inner] [(n432,25),(n389,24),(n1+3,7),(n1+2,6),(n1,4)]) (by refine⟨.arr id469 1 0 1,v453,v454,v455,v457,v458,v459,v460,v461,v463,v464,by simp[hh,m4_1,m5_2,m6_3,m7_4,m10_27,m24_404,m25_447],(Sep.sub (Sep.dr (Sep.f9 (Sep.dr (Sep.f4 (Sep.setVar (w:=(n432,25)) sp (by simp)))))) (by simp +contextual))⟩) ?_
  clear hh m4_1 m5_2 m6_3 m7_4 m10_27 m24_404 m25_447
  rintro ρ H n487 ⟨v476,v477,v478,v479,v480,v481,v482,v483,v484,v485,v486,⟨hh,m4_1,m6_3,m7_4,m24_404,m25_447⟩,sp⟩
  refine Runs.seq ?_
  refine zE fun k' hk'=>?_
  obtain⟨len488,elen488,h⟩:=atm h
  have f489:=len_own (Sep.len (m:=len488) sp.f2 kd_24 (by rw[elen488,List.length_map]))
  simp[hh,m4_1,m6_3,m7_4,m24_404,m25_447,f489,-lenF]
  apply hk'
  refine Runs.block ?_
  refine Runs.loopW h (fun (sJ:Int × (List Wire)) ρ H n=>match sJ with | (v517,l518)=>∃ (v519 v520 v521 v522 v523 v524 v525 v526 v527 v528 v529:AVal),((ρ 0 = .list false (sig.map Control.cells)∧ρ 4=pA n1 4∧ρ 6=pA (n1+2) 6∧ρ 7=pA (n1+3) 7∧ρ 13=v522∧ρ 21=v520∧ρ 24=pA n389 24∧ρ 25=pA n432 25∧ρ 184=v521∧ρ 185=int len488∧ρ 186=int v517)∧H (n1,4)=some ⟨6,[bC false b]⟩∧H (n1+2,6)=some ⟨6,[zB]⟩∧H (n1+3,7)=some ⟨6,[zB]⟩∧H (n389,24)=some ⟨6,[[int 1,v523,v524,int r386.edges,v525,v526]]⟩∧H (n432,25)=some ⟨6,[[int r429.roots,v527,v519,int r429.edges,v528,v529]]⟩)∧Sep H n [oI v519 l468,oS v520 l329,oI v521 l121,oI v522 l122,oN v523 r386.nodes,oI v524 r386.sites,oS v525 r386.outer,oW v526 r386.inner,oN v527 r429.nodes,oS v528 r429.outer,oW v529 l518] [(n432,25),(n389,24),(n1+3,7),(n1+2,6),(n1,4)]) (by refine⟨v476,v477,v478,v479,v480,v481,v482,v483,v484,v485,v486,by simp[hh,m4_1,m6_3,m7_4,m24_404,m25_447],sp⟩) ?_
  clear hh m4_1 m6_3 m7_4 m24_404 m25_447
  rintro⟨v517,l518⟩ ρ H n530 K h ⟨v519,v520,v521,v522,v523,v524,v525,v526,v527,v528,v529,⟨hh,m4_1,m6_3,m7_4,m24_404,m25_447⟩,sp⟩ IH531
  refine zE fun k' hk'=>?_
  obtain⟨c533,ec533,h⟩:=atm h
  have f534:=ib_lss (k:=.i64) ec533
  simp[hh,m4_1,m6_3,m7_4,m24_404,m25_447,f534,-intBin]
  apply hk'
  refine Runs.seq ?_
  refine Runs.ite (b:=c533) (by simp[hh,m4_1,m6_3,m7_4,m24_404,m25_447]) (fun dc533=>?_) (fun dc533=>?_)
  ·replace h:=h.1 dc533
   refine Runs.skip ?_
   refine Runs.seq ?_
   refine Runs.block ?_
   refine zE fun k' hk'=>?_
   obtain⟨hb535,h⟩:=h
   obtain⟨id536,hv,mo537,ln538,ni539⟩:=Sep.openF sp.f2 (by simp) hb535
   subst hv
   simp at ni539
   obtain⟨x540,ex540,h⟩:=atm h
   have f541:=fun H (hm:H id536=some ⟨1,l121.map intC⟩)=>ix_arr (H:=H) (k:=.i64) (off:=0) (len:=l121.length) (g:=l121.length) kd_24 hm (by simp) rfl hb535
   have f542:=at_some (q:=v517.toNat) hb535 ex540 rfl
   simp[hh,m4_1,m6_3,m7_4,m24_404,m25_447,mo537,ni539,f541,f542,dc533,-indexAddrF]
   apply hk'
   refine zE fun k' hk'=>?_
   obtain⟨hb543,h⟩:=h
   obtain⟨r544,er544,h⟩:=atm h
   simp[hh,m4_1,m6_3,m7_4,m24_404,m25_447,mo537,ni539,dc533]
   refine RunK.callA Ty_ok (indexI_ok l122 x540 hb543) e53 (.cons (Sep.argOk' sp.f3 (old_listF (by simp))) (.cons (.v _ _ _) .nil)) (by decide) (by decide) rfl (by simp[hh,m4_1,m6_3,m7_4,m24_404,m25_447,mo537,ni539,dc533]) ?_
   rintro _ rfl
   rw[← er544]
   simp[hh,m4_1,m6_3,m7_4,m24_404,m25_447,mo537,ni539,dc533]
   apply hk'
   refine Runs.seq ?_
   refine zE fun k' hk'=>?_
   obtain⟨c545,ec545,h⟩:=atm h
   have f546:=ib_geq (k:=.i64) ec545
   simp[hh,m4_1,m6_3,m7_4,m24_404,m25_447,mo537,ni539,f546,dc533,-intBin]
   apply hk'
   refine Runs.ite (b:=c545) (by simp[hh,m4_1,m6_3,m7_4,m24_404,m25_447,mo537,ni539,dc533]) (fun dc545=>?_) (fun dc545=>?_)
   ·replace h:=h.1 dc545
    refine zF fun k' hk'=>?_
    obtain⟨len547,elen547,h⟩:=atm h
    have f548:=len_own (Sep.len (m:=len547) sp.f3 kd_24 (by rw[elen547,List.length_map]))
    obtain⟨hb549,h⟩:=h
    obtain⟨v550,ev550,h⟩:=atm h
    have f551:=ib_add hb549 ev550
    obtain⟨hb552,h⟩:=h
    obtain⟨v553,ev553,h⟩:=atm h
    have f554:=ib_sub hb552 ev553
    simp[hh,m4_1,m6_3,m7_4,m24_404,m25_447,mo537,ni539,f548,f551,f554,dc533,dc545,-intBin,-lenF]
    apply hk'
    refine Runs.cut (fun ρ H n=>∃ (v555 v556 v557 v558 v559 v560 v561 v562 v563 v564 v565:AVal),((ρ 0 = .list false (sig.map Control.cells)∧ρ 4=pA n1 4∧ρ 6=pA (n1+2) 6∧ρ 7=pA (n1+3) 7∧ρ 13=v558∧ρ 21=v556∧ρ 24=pA n389 24∧ρ 25=pA n432 25∧ρ 26=int v517∧ρ 28=int v553∧ρ 184=v557∧ρ 185=int len488∧ρ 186=int v517)∧H (n1,4)=some ⟨6,[bC false b]⟩∧H (n1+2,6)=some ⟨6,[zB]⟩∧H (n1+3,7)=some ⟨6,[zB]⟩∧H (n389,24)=some ⟨6,[[int 1,v559,v560,int r386.edges,v561,v562]]⟩∧H (n432,25)=some ⟨6,[[int r429.roots,v563,v555,int r429.edges,v564,v565]]⟩)∧Sep H n [oI v555 l468,oS v556 l329,oI v557 l121,oI v558 l122,oN v559 r386.nodes,oI v560 r386.sites,oS v561 r386.outer,oW v562 r386.inner,oN v563 r429.nodes,oS v564 r429.outer,oW v565 l518] [(n432,25),(n389,24),(n1+3,7),(n1+2,6),(n1,4)]) (by refine⟨v519,v520,.arr id536 l121.length 0 l121.length,v522,v523,v524,v525,v526,v527,v528,v529,by simp[hh,m4_1,m6_3,m7_4,m24_404,m25_447,mo537,ni539,f548,f551,f554,dc533,dc545,-intBin,-lenF],sp⟩) ?_
    clear hh m4_1 m6_3 m7_4 m24_404 m25_447 mo537 ni539
    rintro ρ H n566 ⟨v555,v556,v557,v558,v559,v560,v561,v562,v563,v564,v565,⟨hh,m4_1,m6_3,m7_4,m24_404,m25_447⟩,sp⟩
    refine Runs.evalDE Ty_ok kindOp_ok draws (by decide) (by kernel_rfl) fun k' hk'=>?_
    obtain⟨hb567,h⟩:=h
    obtain⟨id568,hv,mo569,ln570,ni571⟩:=Sep.openF sp.f1 (by simp) hb567
    subst hv
    simp at ni571
    obtain⟨x572,ex572,h⟩:=atm h
    have f573:=fun H (hm:H id568=some ⟨1,l329.map strC⟩)=>ix_arr (H:=H) (k:=.i64) (off:=0) (len:=l329.length) (g:=l329.length) kd_25 hm (by simp) rfl hb567
    have f574:=at_some (q:=v517.toNat) hb567 ex572 rfl
    obtain⟨hb575,h⟩:=h
    obtain⟨l576,el576,h⟩:=atm h
    simp[hh,m4_1,m6_3,m7_4,m24_404,m25_447,mo569,ni571,f573,f574,-indexAddrF,-appendF]
    refine bindD_append [] [oI v555 l468,oS (.arr id568 l329.length 0 l329.length) l329,oI v557 l121,oI v558 l122,oN v559 r386.nodes,oI v560 r386.sites,oS v561 r386.outer,oW v562 r386.inner,oN v563 r429.nodes,oS v564 r429.outer] [[str x572,int v553]] [Wire.cells (Wire.mk x572 v553)] sp.f10 kd_32 (by simp) (by simp) (by simp) (by simp[-one1,o1x]) (rows_one (Fill.v _ (Fill.v _ Fill.nil))) (by simp) (by simpa using hb575) ?_
    rintro v577 H578 n579 sp hfr580 hle581
    replace sp:Sep H578 n579 [oW v577 l576,oI v555 l468,oS (.arr id568 l329.length 0 l329.length) l329,oI v557 l121,oI v558 l122,oN v559 r386.nodes,oI v560 r386.sites,oS v561 r386.outer,oW v562 r386.inner,oN v563 r429.nodes,oS v564 r429.outer] [(n432,25),(n389,24),(n1+3,7),(n1+2,6),(n1,4)]:=Sep.ap el576 sp
    have m4_1:=(hfr580 _ (by simp)).trans m4_1
    have m6_3:=(hfr580 _ (by simp)).trans m6_3
    have m7_4:=(hfr580 _ (by simp)).trans m7_4
    have m24_404:=(hfr580 _ (by simp)).trans m24_404
    have m25_447:=(hfr580 _ (by simp)).trans m25_447
    have f583:=Sep.oc sp
    simp[hh,m4_1,m6_3,m7_4,m24_404,m25_447,ni571,f573,f574,f583,-cellsA,-indexAddrF,-one1,cAx,o1x]
    apply hk'
    refine Runs.cut (fun ρ H n=>∃ (v584 v585 v586 v587 v588 v589 v590 v591 v592 v593 v594:AVal),((ρ 0 = .list false (sig.map Control.cells)∧ρ 4=pA n1 4∧ρ 6=pA (n1+2) 6∧ρ 7=pA (n1+3) 7∧ρ 13=v588∧ρ 21=v586∧ρ 24=pA n389 24∧ρ 25=pA n432 25∧ρ 184=v587∧ρ 185=int len488∧ρ 186=int v517)∧H (n1,4)=some ⟨6,[bC false b]⟩∧H (n1+2,6)=some ⟨6,[zB]⟩∧H (n1+3,7)=some ⟨6,[zB]⟩∧H (n389,24)=some ⟨6,[[int 1,v589,v590,int r386.edges,v591,v592]]⟩∧H (n432,25)=some ⟨6,[[int r429.roots,v593,v585,int r429.edges,v594,v584]]⟩)∧Sep H n [oW v584 l576,oI v585 l468,oS v586 l329,oI v587 l121,oI v588 l122,oN v589 r386.nodes,oI v590 r386.sites,oS v591 r386.outer,oW v592 r386.inner,oN v593 r429.nodes,oS v594 r429.outer] [(n432,25),(n389,24),(n1+3,7),(n1+2,6),(n1,4)]) (by refine⟨v577,v555,.arr id568 l329.length 0 l329.length,v557,v558,v559,v560,v561,v562,v563,v564,by simp[hh,m4_1,m6_3,m7_4,m24_404,m25_447,ni571,f573,f574,f583,-cellsA,-indexAddrF,-one1,cAx,o1x],(Sep.setVar (w:=(n432,25)) sp (by simp))⟩) ?_
    clear hh m4_1 m6_3 m7_4 m24_404 m25_447 ni571
    rintro ρ H n595 ⟨v584,v585,v586,v587,v588,v589,v590,v591,v592,v593,v594,⟨hh,m4_1,m6_3,m7_4,m24_404,m25_447⟩,sp⟩
    refine Runs.inBlock ?_
    refine zF fun k' hk'=>?_
    obtain⟨hb596,h⟩:=h
    obtain⟨v597,ev597,h⟩:=atm h
    have f598:=ib_add hb596 ev597
    simp[hh,m4_1,m6_3,m7_4,m24_404,m25_447,f598,-intBin]
    apply hk'
    refine IH531 (v597,l576) _ _ _ h (by refine⟨v585,v586,v587,v588,v589,v590,v591,v592,v593,v594,v584,by simp[hh,m4_1,m6_3,m7_4,m24_404,m25_447],sp.f10.f10.f10.f10.f10.f10.f10.f10.f10.f10⟩)
   replace h:=h.2 dc545
   refine Runs.skip ?_
   refine Runs.evalDE Ty_ok kindOp_ok draws (by decide) (by kernel_rfl) fun k' hk'=>?_
   obtain⟨hb599,h⟩:=h
   obtain⟨id600,hv,mo601,ln602,ni603⟩:=Sep.openF sp.f1 (by simp) hb599
   subst hv
   simp at ni603
   obtain⟨x604,ex604,h⟩:=atm h
   have f605:=fun H (hm:H id600=some ⟨1,l329.map strC⟩)=>ix_arr (H:=H) (k:=.i64) (off:=0) (len:=l329.length) (g:=l329.length) kd_25 hm (by simp) rfl hb599
   have f606:=at_some (q:=v517.toNat) hb599 ex604 rfl
   obtain⟨hb607,h⟩:=h
   obtain⟨l608,el608,h⟩:=atm h
   simp[hh,m4_1,m6_3,m7_4,m24_404,m25_447,mo537,ni539,mo601,ni603,f605,f606,dc533,dc545,-indexAddrF,-appendF]
   refine bindD_append [] [oI v519 l468,oS (.arr id600 l329.length 0 l329.length) l329,oI (.arr id536 l121.length 0 l121.length) l121,oI v522 l122,oN v523 r386.nodes,oI v524 r386.sites,oS v525 r386.outer,oW v526 r386.inner,oN v527 r429.nodes,oS v528 r429.outer] [[str x604,int r544]] [Wire.cells (Wire.mk x604 r544)] sp.f10 kd_32 (by simp) (by simp) (by simp) (by simp[-one1,o1x]) (rows_one (Fill.v _ (Fill.v _ Fill.nil))) (by simp) (by simpa using hb607) ?_
   rintro v609 H610 n611 sp hfr612 hle613
   replace sp:Sep H610 n611 [oW v609 l608,oI v519 l468,oS (.arr id600 l329.length 0 l329.length) l329,oI (.arr id536 l121.length 0 l121.length) l121,oI v522 l122,oN v523 r386.nodes,oI v524 r386.sites,oS v525 r386.outer,oW v526 r386.inner,oN v527 r429.nodes,oS v528 r429.outer] [(n432,25),(n389,24),(n1+3,7),(n1+2,6),(n1,4)]:=Sep.ap el608 sp
   have m4_1:=(hfr612 _ (by simp)).trans m4_1
   have m6_3:=(hfr612 _ (by simp)).trans m6_3
   have m7_4:=(hfr612 _ (by simp)).trans m7_4
   have m24_404:=(hfr612 _ (by simp)).trans m24_404
   have m25_447:=(hfr612 _ (by simp)).trans m25_447
   have f615:=Sep.oc sp
   simp[hh,m4_1,m6_3,m7_4,m24_404,m25_447,ni539,ni603,f605,f606,f615,dc533,dc545,-cellsA,-indexAddrF,-one1,cAx,o1x]
   apply hk'
   refine Runs.cut (fun ρ H n=>∃ (v616 v617 v618 v619 v620 v621 v622 v623 v624 v625 v626:AVal),((ρ 0 = .list false (sig.map Control.cells)∧ρ 4=pA n1 4∧ρ 6=pA (n1+2) 6∧ρ 7=pA (n1+3) 7∧ρ 13=v620∧ρ 21=v618∧ρ 24=pA n389 24∧ρ 25=pA n432 25∧ρ 184=v619∧ρ 185=int len488∧ρ 186=int v517)∧H (n1,4)=some ⟨6,[bC false b]⟩∧H (n1+2,6)=some ⟨6,[zB]⟩∧H (n1+3,7)=some ⟨6,[zB]⟩∧H (n389,24)=some ⟨6,[[int 1,v621,v622,int r386.edges,v623,v624]]⟩∧H (n432,25)=some ⟨6,[[int r429.roots,v625,v617,int r429.edges,v626,v616]]⟩)∧Sep H n [oW v616 l608,oI v617 l468,oS v618 l329,oI v619 l121,oI v620 l122,oN v621 r386.nodes,oI v622 r386.sites,oS v623 r386.outer,oW v624 r386.inner,oN v625 r429.nodes,oS v626 r429.outer] [(n432,25),(n389,24),(n1+3,7),(n1+2,6),(n1,4)]) (by refine⟨v609,v519,.arr id600 l329.length 0 l329.length,.arr id536 l121.length 0 l121.length,v522,v523,v524,v525,v526,v527,v528,by simp[hh,m4_1,m6_3,m7_4,m24_404,m25_447,ni539,ni603,f605,f606,f615,dc533,dc545,-cellsA,-indexAddrF,-one1,cAx,o1x],(Sep.setVar (w:=(n432,25)) sp (by simp))⟩) ?_
   clear hh m4_1 m6_3 m7_4 m24_404 m25_447 ni539 ni603
   rintro ρ H n627 ⟨v616,v617,v618,v619,v620,v621,v622,v623,v624,v625,v626,⟨hh,m4_1,m6_3,m7_4,m24_404,m25_447⟩,sp⟩
   refine Runs.inBlock ?_
   refine zF fun k' hk'=>?_
   obtain⟨hb628,h⟩:=h
   obtain⟨v629,ev629,h⟩:=atm h
   have f630:=ib_add hb628 ev629
   simp[hh,m4_1,m6_3,m7_4,m24_404,m25_447,f630,-intBin]
   apply hk'
   refine IH531 (v629,l608) _ _ _ h (by refine⟨v617,v618,v619,v620,v621,v622,v623,v624,v625,v626,v616,by simp[hh,m4_1,m6_3,m7_4,m24_404,m25_447],sp.f10.f10.f10.f10.f10.f10.f10.f10.f10.f10⟩)
  replace h:=h.2 dc533
  refine Runs.exit rfl ?_
  refine zE fun k' hk'=>?_
  obtain⟨hb631,h⟩:=h
  obtain⟨r632,er632,h⟩:=atm h
  simp[hh,m4_1,m6_3,m7_4,m24_404,m25_447,dc533]
  refine RunK.callW Ty_ok (validI_ok sig (Big.mk r429.roots r429.nodes l468 r429.edges r429.outer l518) hb631) e56 (.cons (argC false sig) (.cons (ArgOk.agg (.cons (.v _ _ _) (.cons (Sep.argOk' sp.f8 (old_nest_Node true r429.nodes)) (.cons (Sep.argOk' sp (old_listF (by simp))) (.cons (.v _ _ _) (.cons (Sep.argOk' sp.f9 (old_listF (by simp))) (.cons (Sep.argOk' sp.f10 (old_listF (by simp))) .nil))))))) .nil)) sp (by decide) (by decide) rfl (by simp[hh,m4_1,m6_3,m7_4,m24_404,m25_447,dc533]) ?_
  rintro v633 H634 n635 _ sp rfl hle637 hfr636
  rw[← er632] at sp
  have m4_1:=(hfr636 _ (by simp)).trans m4_1
  have m6_3:=(hfr636 _ (by simp)).trans m6_3
  have m7_4:=(hfr636 _ (by simp)).trans m7_4
  have m24_404:=(hfr636 _ (by simp)).trans m24_404
  have m25_447:=(hfr636 _ (by simp)).trans m25_447
  replace sp:=Sep.unpackT sp
  obtain⟨L641,hv,hl642,sp⟩:=sp
  subst hv
  obtain⟨v639,v640,hv⟩:=len2 (by simpa using hl642)
  subst hv
  simp only[zip3,List.cons_append,List.nil_append] at sp
  replace sp:=Sep.unpack sp
  obtain⟨L649,hv,hl650,sp⟩:=sp
  subst hv
  obtain⟨v643,v644,v645,v646,v647,v648,hv⟩:=len6 (by simpa using hl650)
  subst hv
  simp only[zip3,List.cons_append,List.nil_append] at sp
  replace sp:=Sep.scalar sp
  obtain⟨hv,sp⟩:=sp
  subst hv
  replace sp:=Sep.rot sp
  try simp only[List.cons_append,List.nil_append,List.append_assoc] at sp
  replace sp:=Sep.rot sp
  try simp only[List.cons_append,List.nil_append,List.append_assoc] at sp
  replace sp:=Sep.scalar sp
  obtain⟨hv,sp⟩:=sp
  subst hv
  replace sp:=Sep.rot sp
  try simp only[List.cons_append,List.nil_append,List.append_assoc] at sp
  replace sp:=Sep.rot sp
  try simp only[List.cons_append,List.nil_append,List.append_assoc] at sp
  replace sp:=Sep.scalar sp
  obtain⟨hv,sp⟩:=sp
  subst hv
  have f656:=Sep.oc sp.f11
  have f657:=Sep.oc sp.f12
  have f658:=Sep.oc sp.f13
  have f659:=Sep.oc sp.f14
  simp[hh,m4_1,m6_3,m7_4,m24_404,m25_447,f656,f657,f658,f659,dc533,-cellsA,-one1,cAx,o1x]
  apply hk'
  refine Runs.cut (fun ρ H n=>∃ (v660 v661 v662 v663 v664 v665 v666 v667:AVal),((ρ 0 = .list false (sig.map Control.cells)∧ρ 6=pA (n1+2) 6∧ρ 7=pA (n1+3) 7∧ρ 24=pA n389 24∧ρ 29=pA n635 29∧ρ 30=bool r632.2)∧H (n1+2,6)=some ⟨6,[zB]⟩∧H (n1+3,7)=some ⟨6,[zB]⟩∧H (n389,24)=some ⟨6,[[int 1,v660,v661,int r386.edges,v662,v663]]⟩∧H (n635,29)=some ⟨6,[[int r632.1.roots,v664,v665,int r632.1.edges,v666,v667]]⟩)∧Sep H n [oN v660 r386.nodes,oI v661 r386.sites,oS v662 r386.outer,oW v663 r386.inner,oN v664 r632.1.nodes,oI v665 r632.1.sites,oS v666 r632.1.outer,oW v667 r632.1.inner] [(n635,29),(n389,24),(n1+3,7),(n1+2,6)]) (by refine⟨v523,v524,v525,v526,v644,v645,v647,v648,by simp[hh,m4_1,m6_3,m7_4,m24_404,m25_447,f656,f657,f658,f659,dc533,-cellsA,-one1,cAx,o1x],(Sep.sub sp.var.dr.dr.dr.dr.f4.dr.f4.dr.f4.dr (by simp +contextual))⟩) ?_
  clear hh m4_1 m6_3 m7_4 m24_404 m25_447
  rintro ρ H n668 ⟨v660,v661,v662,v663,v664,v665,v666,v667,⟨hh,m6_3,m7_4,m24_404,m29_654⟩,sp⟩
  refine zE fun k' hk'=>?_
  obtain⟨hb669,h⟩:=h
  obtain⟨r670,er670,h⟩:=atm h
  simp[hh,m6_3,m7_4,m24_404,m29_654]
  refine RunK.callW Ty_ok (validI_ok sig (Big.mk 1 r386.nodes r386.sites r386.edges r386.outer r386.inner) hb669) e56 (.cons (argC false sig) (.cons (ArgOk.agg (.cons (.v _ _ _) (.cons (Sep.argOk' sp (old_nest_Node true r386.nodes)) (.cons (Sep.argOk' sp.f1 (old_listF (by simp))) (.cons (.v _ _ _) (.cons (Sep.argOk' sp.f2 (old_listF (by simp))) (.cons (Sep.argOk' sp.f3 (old_listF (by simp))) .nil))))))) .nil)) sp (by decide) (by decide) rfl (by simp[hh,m6_3,m7_4,m24_404,m29_654]) ?_
  rintro v671 H672 n673 _ sp rfl hle675 hfr674
  rw[← er670] at sp
  have m6_3:=(hfr674 _ (by simp)).trans m6_3
  have m7_4:=(hfr674 _ (by simp)).trans m7_4
  have m24_404:=(hfr674 _ (by simp)).trans m24_404
  have m29_654:=(hfr674 _ (by simp)).trans m29_654
  replace sp:=Sep.unpackT sp
  obtain⟨L679,hv,hl680,sp⟩:=sp
  subst hv
  obtain⟨v677,v678,hv⟩:=len2 (by simpa using hl680)
  subst hv
  simp only[zip3,List.cons_append,List.nil_append] at sp
  replace sp:=Sep.unpack sp
  obtain⟨L687,hv,hl688,sp⟩:=sp
  subst hv
  obtain⟨v681,v682,v683,v684,v685,v686,hv⟩:=len6 (by simpa using hl688)
  subst hv
  simp only[zip3,List.cons_append,List.nil_append] at sp
  replace sp:=Sep.scalar sp
  obtain⟨hv,sp⟩:=sp
  subst hv
  replace sp:=Sep.rot sp
  try simp only[List.cons_append,List.nil_append,List.append_assoc] at sp
  replace sp:=Sep.rot sp
  try simp only[List.cons_append,List.nil_append,List.append_assoc] at sp
  replace sp:=Sep.scalar sp
  obtain⟨hv,sp⟩:=sp
  subst hv
  replace sp:=Sep.rot sp
  try simp only[List.cons_append,List.nil_append,List.append_assoc] at sp
  replace sp:=Sep.rot sp
  try simp only[List.cons_append,List.nil_append,List.append_assoc] at sp
  replace sp:=Sep.scalar sp
  obtain⟨hv,sp⟩:=sp
  subst hv
  have f694:=Sep.oc sp.f8
  have f695:=Sep.oc sp.f9
  have f696:=Sep.oc sp.f10
  have f697:=Sep.oc sp.f11
  simp[hh,m6_3,m7_4,m24_404,m29_654,f694,f695,f696,f697,-cellsA,-one1,cAx,o1x]
  apply hk'
  refine Runs.cut (fun ρ H n=>∃ (v698 v699 v700 v701 v702 v703 v704 v705:AVal),((ρ 6=pA (n1+2) 6∧ρ 7=pA (n1+3) 7∧ρ 29=pA n635 29∧ρ 30=bool r632.2∧ρ 31=pA n673 31∧ρ 32=bool r670.2)∧H (n1+2,6)=some ⟨6,[zB]⟩∧H (n1+3,7)=some ⟨6,[zB]⟩∧H (n635,29)=some ⟨6,[[int r632.1.roots,v698,v699,int r632.1.edges,v700,v701]]⟩∧H (n673,31)=some ⟨6,[[int r670.1.roots,v702,v703,int r670.1.edges,v704,v705]]⟩)∧Sep H n [oN v698 r632.1.nodes,oI v699 r632.1.sites,oS v700 r632.1.outer,oW v701 r632.1.inner,oN v702 r670.1.nodes,oI v703 r670.1.sites,oS v704 r670.1.outer,oW v705 r670.1.inner] [(n673,31),(n635,29),(n1+3,7),(n1+2,6)]) (by refine⟨v664,v665,v666,v667,v682,v683,v685,v686,by simp[hh,m6_3,m7_4,m24_404,m29_654,f694,f695,f696,f697,-cellsA,-one1,cAx,o1x],(Sep.sub sp.var.dr.dr.dr.dr (by simp +contextual))⟩) ?_
  clear hh m6_3 m7_4 m24_404 m29_654
  rintro ρ H n706 ⟨v698,v699,v700,v701,v702,v703,v704,v705,⟨hh,m6_3,m7_4,m29_654,m31_692⟩,sp⟩
  refine Runs.seq ?_
  refine zE fun k' hk'=>?_
  obtain⟨J707,hJ708,hr709⟩:=h
  have fin719:∀ (sJ:Bool) (ρ:Env) (H:Heap) (n:Nat),J707 sJ→(match sJ with | b710=>∃ (v711 v712 v713 v714 v715 v716 v717 v718:AVal),((ρ 6=pA (n1+2) 6∧ρ 7=pA (n1+3) 7∧ρ 29=pA n635 29∧ρ 31=pA n673 31∧ρ 234=bool b710)∧H (n1+2,6)=some ⟨6,[zB]⟩∧H (n1+3,7)=some ⟨6,[zB]⟩∧H (n635,29)=some ⟨6,[[int r632.1.roots,v711,v712,int r632.1.edges,v713,v714]]⟩∧H (n673,31)=some ⟨6,[[int r670.1.roots,v715,v716,int r670.1.edges,v717,v718]]⟩)∧Sep H n [oN v711 r632.1.nodes,oI v712 r632.1.sites,oS v713 r632.1.outer,oW v714 r632.1.inner,oN v715 r670.1.nodes,oI v716 r670.1.sites,oS v717 r670.1.outer,oW v718 r670.1.inner] [(n673,31),(n635,29),(n1+3,7),(n1+2,6)])→Runs Tryz.prog 12 239 k' ρ H n Q:=by
   rintro b710 ρ H n720 h ⟨v711,v712,v713,v714,v715,v716,v717,v718,⟨hh,m6_3,m7_4,m29_654,m31_692⟩,sp⟩
   replace h:=hr709 _ h
   apply hk'
   refine Runs.ite (b:=b710) (by simp[hh,m6_3,m7_4,m29_654,m31_692]) (fun db710=>?_) (fun db710=>?_)
   ·replace h:=h.1 db710
    refine zE fun k' hk'=>?_
    simp[hh,m6_3,m7_4,m29_654,m31_692,db710]
    apply hk'
    refine Runs.cut (fun ρ H n=>((ρ 6=pA (n1+2) 6∧ρ 7=pA (n1+3) 7∧ρ 8=bool false)∧H (n1+2,6)=some ⟨6,[zB]⟩∧H (n1+3,7)=some ⟨6,[zB]⟩)∧Sep H n [] [(n1+3,7),(n1+2,6)]) (by refine⟨by simp[hh,m6_3,m7_4,m29_654,m31_692,db710],(Sep.sub (Sep.dr (Sep.dr (Sep.dr (Sep.dr (Sep.dr (Sep.dr (Sep.dr (Sep.dr (Sep.setVar (w:=(n1+3,7)) (Sep.setVar (w:=(n1+2,6)) sp (by simp)) (by simp)))))))))) (by simp +contextual))⟩) ?_
    clear hh m6_3 m7_4 m29_654 m31_692
    rintro ρ H n721 ⟨⟨hh,m6_3,m7_4⟩,sp⟩
    exact Runs.res3 Ty_ok (v:=.agg [int 0,.v (.slice none 0 0),.v (.slice none 0 0),int 0,.v (.slice none 0 0),.v (.slice none 0 0)]) (w:=.agg [int 0,.v (.slice none 0 0),.v (.slice none 0 0),int 0,.v (.slice none 0 0),.v (.slice none 0 0)]) (z:=bool false) Tryz.func12 Tryz.results12 (by simp[hh,m6_3,m7_4,resA]) (by simp[hh,m6_3,m7_4,resA]) (by simp[hh,m6_3,m7_4,resA]) (hQ _ _ _ _ (Sep.sub (ids':=[]) (Sep.packT (Fill.own (Fill.own (Fill.v _ Fill.nil))) (Sep.f1 (Sep.pack (Fill.v _ (Fill.own (Fill.own (Fill.v _ (Fill.own (Fill.own Fill.nil)))))) (Sep.f4 (Sep.f3 (Sep.f2 (Sep.f1 (Sep.pack (Fill.v _ (Fill.own (Fill.own (Fill.v _ (Fill.own (Fill.own Fill.nil)))))) (Sep.f7 (Sep.f6 (Sep.f5 (Sep.f4 (Sep.addNil (Sep.addNil (Sep.addNil (Sep.addNil (Sep.addNil (Sep.addNil (Sep.addNil (Sep.addNil sp)))))))))))))))))))) (by simp)) ⟨((Big.mk 0 [] [] 0 [] []),(Big.mk 0 [] [] 0 [] []),false),h,rfl⟩)
   replace h:=h.2 db710
   refine Runs.skip ?_
   refine Runs.cut (fun ρ H n=>∃ (v733 v734 v735 v736 v737 v738 v739 v740:AVal),((ρ 6=pA (n1+2) 6∧ρ 7=pA (n1+3) 7∧ρ 29=pA n635 29∧ρ 31=pA n673 31)∧H (n1+2,6)=some ⟨6,[zB]⟩∧H (n1+3,7)=some ⟨6,[zB]⟩∧H (n635,29)=some ⟨6,[[int r632.1.roots,v733,v734,int r632.1.edges,v735,v736]]⟩∧H (n673,31)=some ⟨6,[[int r670.1.roots,v737,v738,int r670.1.edges,v739,v740]]⟩)∧Sep H n [oN v733 r632.1.nodes,oI v734 r632.1.sites,oS v735 r632.1.outer,oW v736 r632.1.inner,oN v737 r670.1.nodes,oI v738 r670.1.sites,oS v739 r670.1.outer,oW v740 r670.1.inner] [(n673,31),(n635,29),(n1+3,7),(n1+2,6)]) (by refine⟨v711,v712,v713,v714,v715,v716,v717,v718,by simp[hh,m6_3,m7_4,m29_654,m31_692,db710],sp⟩) ?_
   clear hh m6_3 m7_4 m29_654 m31_692
   rintro ρ H n741 ⟨v733,v734,v735,v736,v737,v738,v739,v740,⟨hh,m6_3,m7_4,m29_654,m31_692⟩,sp⟩
   refine Runs.seqC (fun H n=>H (n635,29)=some ⟨6,[[int r632.1.roots,v733,v734,int r632.1.edges,v735,v736]]⟩∧H (n673,31)=some ⟨6,[[int r670.1.roots,v737,v738,int r670.1.edges,v739,v740]]⟩∧Sep H n [oN v733 r632.1.nodes,oI v734 r632.1.sites,oS v735 r632.1.outer,oW v736 r632.1.inner,oN v737 r670.1.nodes,oI v738 r670.1.sites,oS v739 r670.1.outer,oW v740 r670.1.inner] [(n673,31),(n635,29),(n1+3,7),(n1+2,6)]) [2,3,4] (.free 0 (.free 1 (.hard 2 (.hard 3 (.hard 4 (.fin) (.stop)) (.stop)) (.stop)))) (fun ρ H n=>∃ (v742 v743 v744 v745 v746 v747 v748 v749:AVal),((ρ 6=pA (n1+2) 6∧ρ 7=pA (n1+3) 7∧ρ 8=bool true)∧H (n1+2,6)=some ⟨6,[[int r632.1.roots,v742,v743,int r632.1.edges,v744,v745]]⟩∧H (n1+3,7)=some ⟨6,[[int r670.1.roots,v746,v747,int r670.1.edges,v748,v749]]⟩)∧Sep H n [oN v742 r632.1.nodes,oI v743 r632.1.sites,oS v744 r632.1.outer,oW v745 r632.1.inner,oN v746 r670.1.nodes,oI v747 r670.1.sites,oS v748 r670.1.outer,oW v749 r670.1.inner] [(n1+3,7),(n1+2,6)]) draws (by decide) (by kernel_rfl) ?_ ?_
   ·refine RunT.free (.agg [int r632.1.roots,v733,v734,int r632.1.edges,v735,v736]) rfl rfl ⟨m29_654,m31_692,sp⟩ (fun H n hS=>by obtain⟨m29_654,m31_692,sp⟩:=hS;exact (by exact stepF_ok Ty_ok (by rw[stepF_loc];simp[hh,m6_3,m7_4,m29_654,m31_692]))) ?_
    refine RunT.free (.agg [int r670.1.roots,v737,v738,int r670.1.edges,v739,v740]) rfl rfl ⟨m29_654,m31_692,sp⟩ (fun H n hS=>by obtain⟨m29_654,m31_692,sp⟩:=hS;exact (by exact stepF_ok Ty_ok (by rw[stepF_loc];simp[hh,m6_3,m7_4,m29_654,m31_692]))) ?_
    refine⟨?_,trivial⟩
    have f757:=Sep.oc sp
    have f758:=Sep.oc sp.f1
    have f759:=Sep.oc sp.f2
    have f760:=Sep.oc sp.f3
    refine RunT.step (v:=.undef) Ty_ok rfl rfl (by simp[hh,m6_3,m7_4,m29_654,m31_692,f757,f758,f759,f760,-cellsA,-one1,cAx,o1x];first | exact⟨rfl,rfl⟩ | exact rfl) (fun _=>⟨(by simp[hh,m6_3,m7_4,m29_654,m31_692,f757,f758,f759,f760,Heap.get_set,-cellsA,-one1,cAx,o1x]),(by simp[hh,m6_3,m7_4,m29_654,m31_692,f757,f758,f759,f760,Heap.get_set,-cellsA,-one1,cAx,o1x]),(Sep.setVar (w:=(n1+2,6)) sp (by simp))⟩) ?_
    refine⟨?_,trivial⟩
    have f767:=Sep.oc sp.f4
    have f768:=Sep.oc sp.f5
    have f769:=Sep.oc sp.f6
    have f770:=Sep.oc sp.f7
    refine RunT.step (v:=.undef) Ty_ok rfl rfl (by simp[hh,m6_3,m7_4,m29_654,m31_692,f757,f758,f759,f760,f767,f768,f769,f770,-cellsA,-one1,cAx,o1x];first | exact⟨rfl,rfl⟩ | exact rfl) (fun hl=>absurd (hl.symm.trans (show lateC _ _ _=true by kernel_rfl)) (by decide)) ?_
    refine⟨?_,trivial⟩
    refine RunT.same (v:=(bool true)) Ty_ok rfl rfl (by simp[hh,m6_3,m7_4,m29_654,m31_692,f757,f758,f759,f760,f767,f768,f769,f770,-cellsA,-one1,cAx,o1x]) (fun hl=>absurd (hl.symm.trans (show lateC _ _ _=true by kernel_rfl)) (by decide)) ?_
    refine RunT.fin (by refine⟨v733,v734,v735,v736,v737,v738,v739,v740,by simp[hh,m6_3,m7_4,m29_654,m31_692,f757,f758,f759,f760,f767,f768,f769,f770,-cellsA,-one1,cAx,o1x],(Sep.sub (Sep.setVar (w:=(n1+3,7)) (Sep.setVar (w:=(n1+2,6)) sp (by simp)) (by simp)) (by simp +contextual))⟩)
   clear hh m6_3 m7_4 m29_654 m31_692
   rintro ρ H n750 ⟨v742,v743,v744,v745,v746,v747,v748,v749,⟨hh,m6_3,m7_4⟩,sp⟩
   exact Runs.res3 Ty_ok (v:=.agg [int r632.1.roots,v742,v743,int r632.1.edges,v744,v745]) (w:=.agg [int r670.1.roots,v746,v747,int r670.1.edges,v748,v749]) (z:=bool true) Tryz.func12 Tryz.results12 (by simp[hh,m6_3,m7_4,resA]) (by simp[hh,m6_3,m7_4,resA]) (by simp[hh,m6_3,m7_4,resA]) (hQ _ _ _ _ (Sep.sub (ids':=[]) (Sep.packT (Fill.own (Fill.own (Fill.v _ Fill.nil))) (Sep.f1 (Sep.pack (Fill.v _ (Fill.own (Fill.own (Fill.v _ (Fill.own (Fill.own Fill.nil)))))) (Sep.f4 (Sep.f4 (Sep.f4 (Sep.f4 (Sep.pack (Fill.v _ (Fill.own (Fill.own (Fill.v _ (Fill.own (Fill.own Fill.nil)))))) sp)))))))) (by simp)) ⟨(r632.1,r670.1,true),h,rfl⟩)
  replace h:=hJ708
  rcases Bool.eq_false_or_eq_true r632.2 with dr632_2 | dr632_2
  ·replace h:=h.1 dr632_2
   simp[hh,m6_3,m7_4,m29_654,m31_692,dr632_2]
   exact fin719 ((!r670.2)) _ _ _ h (by refine⟨v698,v699,v700,v701,v702,v703,v704,v705,by simp[hh,m6_3,m7_4,m29_654,m31_692,dr632_2],sp⟩)
  replace h:=h.2 dr632_2
  simp[hh,m6_3,m7_4,m29_654,m31_692,dr632_2]
  exact fin719 (true) _ _ _ h (by refine⟨v698,v699,v700,v701,v702,v703,v704,v705,by simp[hh,m6_3,m7_4,m29_654,m31_692,dr632_2],sp⟩)
 replace h:=hJ8
 obtain⟨hb780,h⟩:=h
 obtain⟨r781,er781,h⟩:=atm h
 simp[hh,m4_1,m5_2,m6_3,m7_4]
 refine RunK.callA Ty_ok (agentB_ok sig b hb780) e45 (.cons (argC false sig) (.cons (argB false b) .nil)) (by decide) (by decide) rfl (by simp[hh,m4_1,m5_2,m6_3,m7_4]) ?_
 rintro _ rfl
 rw[← er781]
 rcases Bool.eq_false_or_eq_true r781 with dr781 | dr781
 ·replace h:=h.1 dr781
  obtain⟨hb782,h⟩:=h
  obtain⟨r783,er783,h⟩:=atm h
  simp[hh,m4_1,m5_2,m6_3,m7_4,dr781]
  refine RunK.callA Ty_ok (isNodeB_ok b node hb782) e46 (.cons (argB false b) (.cons (.v _ _ _) .nil)) (by decide) (by decide) rfl (by simp[hh,m4_1,m5_2,m6_3,m7_4,dr781]) ?_
  rintro _ rfl
  rw[← er783]
  rcases Bool.eq_false_or_eq_true r783 with dr783 | dr783
  ·replace h:=h.1 dr783
   obtain⟨hb784,h⟩:=h
   obtain⟨x785,ex785,h⟩:=atm h
   have f786:=fun H=>ix_list (H:=H) (fr:=false) (f:=(GNode.cells false)) (k:=.i64) kd_31 (fun _=>rfl) hb784 ex785
   obtain⟨hb787,h⟩:=h
   obtain⟨x788,ex788,h⟩:=atm h
   have f789:=fun H=>ix_list (H:=H) (fr:=false) (f:=Control.cells) (k:=.i64) kd_37 (fun _=>rfl) hb787 ex788
   obtain⟨c790,ec790,h⟩:=atm h
   have f791:=ib_eql (k:=.i64) ec790
   simp[hh,m4_1,m5_2,m6_3,m7_4,f786,f789,f791,dr781,dr783,-indexAddrF,-intBin]
   exact fin11 (c790) _ _ _ h (by refine⟨by simp[hh,m4_1,m5_2,m6_3,m7_4,f786,f789,f791,dr781,dr783,-indexAddrF,-intBin],sp⟩)
  replace h:=h.2 dr783
  simp[hh,m4_1,m5_2,m6_3,m7_4,dr781,dr783]
  exact fin11 (true) _ _ _ h (by refine⟨by simp[hh,m4_1,m5_2,m6_3,m7_4,dr781,dr783],sp⟩)
 replace h:=h.2 dr781
 simp[hh,m4_1,m5_2,m6_3,m7_4,dr781]
 exact fin11 (true) _ _ _ h (by refine⟨by simp[hh,m4_1,m5_2,m6_3,m7_4,dr781],sp⟩)
theorem CutUnder_ok (sig:List Control) (b:Big) (node:Int) (hp:CutUnder_pre sig b node):OwnS Tryz.prog 12 [.list false (sig.map Control.cells),.agg (bC false b),int node] (.t [.a [.c,.s [.c,.c,.s [.c]],.s [.c],.c,.s [.c],.s [.c,.c]],.a [.c,.s [.c,.c,.s [.c]],.s [.c],.c,.s [.c],.s [.c,.c]],.c]) (fun r=>r = .tup [.agg [int (((CutUnder sig b node).1).roots),.list true ((((CutUnder sig b node).1).nodes).map (GNode.cells true)),.list true ((((CutUnder sig b node).1).sites).map intC),int (((CutUnder sig b node).1).edges),.list true ((((CutUnder sig b node).1).outer).map strC),.list true ((((CutUnder sig b node).1).inner).map Wire.cells)],.agg [int (((CutUnder sig b node).2.1).roots),.list true ((((CutUnder sig b node).2.1).nodes).map (GNode.cells true)),.list true ((((CutUnder sig b node).2.1).sites).map intC),int (((CutUnder sig b node).2.1).edges),.list true ((((CutUnder sig b node).2.1).outer).map strC),.list true ((((CutUnder sig b node).2.1).inner).map Wire.cells)],bool ((CutUnder sig b node).2.2)]):=(CutUnder_walk sig b node _ (CutUnder_vc sig b node hp)).mono (by rintro _ ⟨_,rfl,rfl⟩;rfl)
theorem e9:Ent Tryz.prog 9:=Ent.of Tryz.func9 (by kernel_rfl) rfl
theorem sCutUnder_walk (sig:List Control) (b:Big) (node:Int) (Z:(Big × Big × Bool)→Prop) (h:sCutUnder_wp sig b node Z):OwnS Tryz.prog 9 [.list false (sig.map Control.cells),.agg (bC false b),int node] (.t [.a [.c,.s [.c,.c,.s [.c]],.s [.c],.c,.s [.c],.s [.c,.c]],.a [.c,.s [.c,.c,.s [.c]],.s [.c],.c,.s [.c],.s [.c,.c]],.c]) (fun r=>∃ y:Big × Big × Bool,Z y∧r = .tup [.agg (bC true y.1),.agg (bC true y.2.1),bool y.2.2]):=by
 unfold sCutUnder_wp at h
 have sp:Sep noHeap 0 [] []:=Sep.nil (by simp)
 refine OwnS.of Tryz.func9 rfl Tryz.ntmps9 (by simp) fun Q hQ=>?_
 refine Runs.cut (fun ρ H n=>(ρ 0 = .list false (sig.map Control.cells)∧ρ 1 = .agg (bC false b)∧ρ 2=int node)∧Sep H n [] []) (by refine⟨by simp ,sp⟩) ?_
 rintro ρ H n1 ⟨hh,sp⟩
 refine zE fun k' hk'=>?_
 simp[hh]
 apply hk'
 refine Runs.cut (fun ρ H n=>((ρ 0 = .list false (sig.map Control.cells)∧ρ 2=int node∧ρ 4=pA n1 4∧ρ 6=pA (n1+1) 6∧ρ 7=pA (n1+2) 7)∧H (n1,4)=some ⟨6,[bC false b]⟩∧H (n1+1,6)=some ⟨6,[zB]⟩∧H (n1+2,7)=some ⟨6,[zB]⟩)∧Sep H n [] [(n1+2,7),(n1+1,6),(n1,4)]) (by refine⟨by simp[hh],sp.var.var.var⟩) ?_
 clear hh
 rintro ρ H n5 ⟨⟨hh,m4_1,m6_2,m7_3⟩,sp⟩
 refine Runs.seq ?_
 refine zE fun k' hk'=>?_
 obtain⟨J6,hJ7,hr8⟩:=h
 have fin10:∀ (sJ:Bool) (ρ:Env) (H:Heap) (n:Nat),J6 sJ→(match sJ with | b9=>((ρ 0 = .list false (sig.map Control.cells)∧ρ 2=int node∧ρ 4=pA n1 4∧ρ 6=pA (n1+1) 6∧ρ 7=pA (n1+2) 7∧ρ 33=bool b9)∧H (n1,4)=some ⟨6,[bC false b]⟩∧H (n1+1,6)=some ⟨6,[zB]⟩∧H (n1+2,7)=some ⟨6,[zB]⟩)∧Sep H n [] [(n1+2,7),(n1+1,6),(n1,4)])→Runs Tryz.prog 9 56 k' ρ H n Q:=by
  rintro b9 ρ H n11 h ⟨⟨hh,m4_1,m6_2,m7_3⟩,sp⟩
  replace h:=hr8 _ h
  apply hk'
  refine Runs.ite (b:=b9) (by simp[hh,m4_1,m6_2,m7_3]) (fun db9=>?_) (fun db9=>?_)
  ·replace h:=h.1 db9
   refine zE fun k' hk'=>?_
   simp[hh,m4_1,m6_2,m7_3,db9]
   apply hk'
   refine Runs.cut (fun ρ H n=>((ρ 6=pA (n1+1) 6∧ρ 7=pA (n1+2) 7∧ρ 8=bool false)∧H (n1+1,6)=some ⟨6,[zB]⟩∧H (n1+2,7)=some ⟨6,[zB]⟩)∧Sep H n [] [(n1+2,7),(n1+1,6)]) (by refine⟨by simp[hh,m4_1,m6_2,m7_3,db9],(Sep.sub (Sep.setVar (w:=(n1+2,7)) (Sep.setVar (w:=(n1+1,6)) sp (by simp)) (by simp)) (by simp +contextual))⟩) ?_
   clear hh m4_1 m6_2 m7_3
   rintro ρ H n12 ⟨⟨hh,m6_2,m7_3⟩,sp⟩
   exact Runs.res3 Ty_ok (v:=.agg [int 0,.v (.slice none 0 0),.v (.slice none 0 0),int 0,.v (.slice none 0 0),.v (.slice none 0 0)]) (w:=.agg [int 0,.v (.slice none 0 0),.v (.slice none 0 0),int 0,.v (.slice none 0 0),.v (.slice none 0 0)]) (z:=bool false) Tryz.func9 Tryz.results9 (by simp[hh,m6_2,m7_3,resA]) (by simp[hh,m6_2,m7_3,resA]) (by simp[hh,m6_2,m7_3,resA]) (hQ _ _ _ _ (Sep.sub (ids':=[]) (Sep.packT (Fill.own (Fill.own (Fill.v _ Fill.nil))) (Sep.f1 (Sep.pack (Fill.v _ (Fill.own (Fill.own (Fill.v _ (Fill.own (Fill.own Fill.nil)))))) (Sep.f4 (Sep.f3 (Sep.f2 (Sep.f1 (Sep.pack (Fill.v _ (Fill.own (Fill.own (Fill.v _ (Fill.own (Fill.own Fill.nil)))))) (Sep.f7 (Sep.f6 (Sep.f5 (Sep.f4 (Sep.addNil (Sep.addNil (Sep.addNil (Sep.addNil (Sep.addNil (Sep.addNil (Sep.addNil (Sep.addNil sp)))))))))))))))))))) (by simp)) ⟨((Big.mk 0 [] [] 0 [] []),(Big.mk 0 [] [] 0 [] []),false),h,rfl⟩)
  replace h:=h.2 db9
  refine Runs.skip ?_
  refine zE fun k' hk'=>?_
  obtain⟨hb24,h⟩:=h
  obtain⟨r25,er25,h⟩:=atm h
  simp[hh,m4_1,m6_2,m7_3,db9]
  refine RunK.callW Ty_ok (l4Cut_ok b node hb24) e38 (.cons (argB false b) (.cons (.v _ _ _) .nil)) sp (by decide) (by decide) rfl (by simp[hh,m4_1,m6_2,m7_3,db9]) ?_
  rintro v26 H27 n28 _ sp rfl hle30 hfr29
  rw[← er25] at sp
  have m4_1:=(hfr29 _ (by simp)).trans m4_1
  have m6_2:=(hfr29 _ (by simp)).trans m6_2
  have m7_3:=(hfr29 _ (by simp)).trans m7_3
  replace sp:=Sep.unpackT sp
  obtain⟨L34,hv,hl35,sp⟩:=sp
  subst hv
  obtain⟨v32,v33,hv⟩:=len2 (by simpa using hl35)
  subst hv
  simp only[zip3,List.cons_append,List.nil_append] at sp
  replace sp:=Sep.unpack sp
  obtain⟨L42,hv,hl43,sp⟩:=sp
  subst hv
  obtain⟨v36,v37,v38,v39,v40,v41,hv⟩:=len6 (by simpa using hl43)
  subst hv
  simp only[zip3,List.cons_append,List.nil_append] at sp
  replace sp:=Sep.scalar sp
  obtain⟨hv,sp⟩:=sp
  subst hv
  replace sp:=Sep.rot sp
  try simp only[List.cons_append,List.nil_append,List.append_assoc] at sp
  replace sp:=Sep.rot sp
  try simp only[List.cons_append,List.nil_append,List.append_assoc] at sp
  replace sp:=Sep.scalar sp
  obtain⟨hv,sp⟩:=sp
  subst hv
  replace sp:=Sep.rot sp
  try simp only[List.cons_append,List.nil_append,List.append_assoc] at sp
  replace sp:=Sep.rot sp
  try simp only[List.cons_append,List.nil_append,List.append_assoc] at sp
  replace sp:=Sep.unpack sp
  obtain⟨L54,hv,hl55,sp⟩:=sp
  subst hv
  obtain⟨v48,v49,v50,v51,v52,v53,hv⟩:=len6 (by simpa using hl55)
  subst hv
  simp only[zip3,List.cons_append,List.nil_append] at sp
  replace sp:=Sep.scalar sp
  obtain⟨hv,sp⟩:=sp
  subst hv
  replace sp:=Sep.rot sp
  try simp only[List.cons_append,List.nil_append,List.append_assoc] at sp
  replace sp:=Sep.rot sp
  try simp only[List.cons_append,List.nil_append,List.append_assoc] at sp
  replace sp:=Sep.scalar sp
  obtain⟨hv,sp⟩:=sp
  subst hv
  replace sp:=Sep.rot sp
  try simp only[List.cons_append,List.nil_append,List.append_assoc] at sp
  replace sp:=Sep.rot sp
  try simp only[List.cons_append,List.nil_append,List.append_assoc] at sp
  have f62:=Sep.oc sp
  have f63:=Sep.oc sp.f1
  have f64:=Sep.oc sp.f2
  have f65:=Sep.oc sp.f3
  have f66:=Sep.oc sp.f4
  have f67:=Sep.oc sp.f5
  have f68:=Sep.oc sp.f6
  have f69:=Sep.oc sp.f7
  simp[hh,m4_1,m6_2,m7_3,f62,f63,f64,f65,f66,f67,f68,f69,db9,-cellsA,-one1,cAx,o1x]
  apply hk'
  refine Runs.cut (fun ρ H n=>∃ (v70 v71 v72 v73 v74 v75 v76 v77:AVal),((ρ 0 = .list false (sig.map Control.cells)∧ρ 6=pA (n1+1) 6∧ρ 7=pA (n1+2) 7∧ρ 9=pA n28 9∧ρ 10=pA (n28+1) 10)∧H (n1+1,6)=some ⟨6,[zB]⟩∧H (n1+2,7)=some ⟨6,[zB]⟩∧H (n28,9)=some ⟨6,[[int r25.1.roots,v70,v71,int r25.1.edges,v72,v73]]⟩∧H (n28+1,10)=some ⟨6,[[int r25.2.roots,v74,v75,int r25.2.edges,v76,v77]]⟩)∧Sep H n [oN v70 r25.1.nodes,oI v71 r25.1.sites,oS v72 r25.1.outer,oW v73 r25.1.inner,oN v74 r25.2.nodes,oI v75 r25.2.sites,oS v76 r25.2.outer,oW v77 r25.2.inner] [(n28+1,10),(n28,9),(n1+2,7),(n1+1,6)]) (by refine⟨v37,v38,v40,v41,v49,v50,v52,v53,by simp[hh,m4_1,m6_2,m7_3,f62,f63,f64,f65,f66,f67,f68,f69,db9,-cellsA,-one1,cAx,o1x],(Sep.sub (Sep.setVar (w:=(n28+1,10)) (Sep.setVar (w:=(n28,9)) sp.var.var (by simp)) (by simp)) (by simp +contextual))⟩) ?_
  clear hh m4_1 m6_2 m7_3
  rintro ρ H n78 ⟨v70,v71,v72,v73,v74,v75,v76,v77,⟨hh,m6_2,m7_3,m9_59,m10_60⟩,sp⟩
  refine Runs.seq ?_
  refine zE fun k' hk'=>?_
  obtain⟨J79,hJ80,hr81⟩:=h
  have fin91:∀ (sJ:Bool) (ρ:Env) (H:Heap) (n:Nat),J79 sJ→(match sJ with | b82=>∃ (v83 v84 v85 v86 v87 v88 v89 v90:AVal),((ρ 6=pA (n1+1) 6∧ρ 7=pA (n1+2) 7∧ρ 9=pA n28 9∧ρ 10=pA (n28+1) 10∧ρ 51=bool b82)∧H (n1+1,6)=some ⟨6,[zB]⟩∧H (n1+2,7)=some ⟨6,[zB]⟩∧H (n28,9)=some ⟨6,[[int r25.1.roots,v83,v84,int r25.1.edges,v85,v86]]⟩∧H (n28+1,10)=some ⟨6,[[int r25.2.roots,v87,v88,int r25.2.edges,v89,v90]]⟩)∧Sep H n [oN v83 r25.1.nodes,oI v84 r25.1.sites,oS v85 r25.1.outer,oW v86 r25.1.inner,oN v87 r25.2.nodes,oI v88 r25.2.sites,oS v89 r25.2.outer,oW v90 r25.2.inner] [(n28+1,10),(n28,9),(n1+2,7),(n1+1,6)])→Runs Tryz.prog 9 56 k' ρ H n Q:=by
   rintro b82 ρ H n92 h ⟨v83,v84,v85,v86,v87,v88,v89,v90,⟨hh,m6_2,m7_3,m9_59,m10_60⟩,sp⟩
   replace h:=hr81 _ h
   apply hk'
   refine Runs.ite (b:=b82) (by simp[hh,m6_2,m7_3,m9_59,m10_60]) (fun db82=>?_) (fun db82=>?_)
   ·replace h:=h.1 db82
    refine zE fun k' hk'=>?_
    simp[hh,m6_2,m7_3,m9_59,m10_60,db82]
    apply hk'
    refine Runs.cut (fun ρ H n=>((ρ 6=pA (n1+1) 6∧ρ 7=pA (n1+2) 7∧ρ 8=bool false)∧H (n1+1,6)=some ⟨6,[zB]⟩∧H (n1+2,7)=some ⟨6,[zB]⟩)∧Sep H n [] [(n1+2,7),(n1+1,6)]) (by refine⟨by simp[hh,m6_2,m7_3,m9_59,m10_60,db82],(Sep.sub (Sep.dr (Sep.dr (Sep.dr (Sep.dr (Sep.dr (Sep.dr (Sep.dr (Sep.dr (Sep.setVar (w:=(n1+2,7)) (Sep.setVar (w:=(n1+1,6)) sp (by simp)) (by simp)))))))))) (by simp +contextual))⟩) ?_
    clear hh m6_2 m7_3 m9_59 m10_60
    rintro ρ H n93 ⟨⟨hh,m6_2,m7_3⟩,sp⟩
    exact Runs.res3 Ty_ok (v:=.agg [int 0,.v (.slice none 0 0),.v (.slice none 0 0),int 0,.v (.slice none 0 0),.v (.slice none 0 0)]) (w:=.agg [int 0,.v (.slice none 0 0),.v (.slice none 0 0),int 0,.v (.slice none 0 0),.v (.slice none 0 0)]) (z:=bool false) Tryz.func9 Tryz.results9 (by simp[hh,m6_2,m7_3,resA]) (by simp[hh,m6_2,m7_3,resA]) (by simp[hh,m6_2,m7_3,resA]) (hQ _ _ _ _ (Sep.sub (ids':=[]) (Sep.packT (Fill.own (Fill.own (Fill.v _ Fill.nil))) (Sep.f1 (Sep.pack (Fill.v _ (Fill.own (Fill.own (Fill.v _ (Fill.own (Fill.own Fill.nil)))))) (Sep.f4 (Sep.f3 (Sep.f2 (Sep.f1 (Sep.pack (Fill.v _ (Fill.own (Fill.own (Fill.v _ (Fill.own (Fill.own Fill.nil)))))) (Sep.f7 (Sep.f6 (Sep.f5 (Sep.f4 (Sep.addNil (Sep.addNil (Sep.addNil (Sep.addNil (Sep.addNil (Sep.addNil (Sep.addNil (Sep.addNil sp)))))))))))))))))))) (by simp)) ⟨((Big.mk 0 [] [] 0 [] []),(Big.mk 0 [] [] 0 [] []),false),h,rfl⟩)
   replace h:=h.2 db82
   refine Runs.skip ?_
   refine Runs.cut (fun ρ H n=>∃ (v105 v106 v107 v108 v109 v110 v111 v112:AVal),((ρ 6=pA (n1+1) 6∧ρ 7=pA (n1+2) 7∧ρ 9=pA n28 9∧ρ 10=pA (n28+1) 10)∧H (n1+1,6)=some ⟨6,[zB]⟩∧H (n1+2,7)=some ⟨6,[zB]⟩∧H (n28,9)=some ⟨6,[[int r25.1.roots,v105,v106,int r25.1.edges,v107,v108]]⟩∧H (n28+1,10)=some ⟨6,[[int r25.2.roots,v109,v110,int r25.2.edges,v111,v112]]⟩)∧Sep H n [oN v105 r25.1.nodes,oI v106 r25.1.sites,oS v107 r25.1.outer,oW v108 r25.1.inner,oN v109 r25.2.nodes,oI v110 r25.2.sites,oS v111 r25.2.outer,oW v112 r25.2.inner] [(n28+1,10),(n28,9),(n1+2,7),(n1+1,6)]) (by refine⟨v83,v84,v85,v86,v87,v88,v89,v90,by simp[hh,m6_2,m7_3,m9_59,m10_60,db82],sp⟩) ?_
   clear hh m6_2 m7_3 m9_59 m10_60
   rintro ρ H n113 ⟨v105,v106,v107,v108,v109,v110,v111,v112,⟨hh,m6_2,m7_3,m9_59,m10_60⟩,sp⟩
   refine Runs.seqC (fun H n=>H (n28,9)=some ⟨6,[[int r25.1.roots,v105,v106,int r25.1.edges,v107,v108]]⟩∧H (n28+1,10)=some ⟨6,[[int r25.2.roots,v109,v110,int r25.2.edges,v111,v112]]⟩∧Sep H n [oN v105 r25.1.nodes,oI v106 r25.1.sites,oS v107 r25.1.outer,oW v108 r25.1.inner,oN v109 r25.2.nodes,oI v110 r25.2.sites,oS v111 r25.2.outer,oW v112 r25.2.inner] [(n28+1,10),(n28,9),(n1+2,7),(n1+1,6)]) [2,3,4] (.free 0 (.free 1 (.hard 2 (.hard 3 (.hard 4 (.fin) (.stop)) (.stop)) (.stop)))) (fun ρ H n=>∃ (v114 v115 v116 v117 v118 v119 v120 v121:AVal),((ρ 6=pA (n1+1) 6∧ρ 7=pA (n1+2) 7∧ρ 8=bool true)∧H (n1+1,6)=some ⟨6,[[int r25.1.roots,v114,v115,int r25.1.edges,v116,v117]]⟩∧H (n1+2,7)=some ⟨6,[[int r25.2.roots,v118,v119,int r25.2.edges,v120,v121]]⟩)∧Sep H n [oN v114 r25.1.nodes,oI v115 r25.1.sites,oS v116 r25.1.outer,oW v117 r25.1.inner,oN v118 r25.2.nodes,oI v119 r25.2.sites,oS v120 r25.2.outer,oW v121 r25.2.inner] [(n1+2,7),(n1+1,6)]) draws (by decide) (by kernel_rfl) ?_ ?_
   ·refine RunT.free (.agg [int r25.1.roots,v105,v106,int r25.1.edges,v107,v108]) rfl rfl ⟨m9_59,m10_60,sp⟩ (fun H n hS=>by obtain⟨m9_59,m10_60,sp⟩:=hS;exact (by exact stepF_ok Ty_ok (by rw[stepF_loc];simp[hh,m6_2,m7_3,m9_59,m10_60]))) ?_
    refine RunT.free (.agg [int r25.2.roots,v109,v110,int r25.2.edges,v111,v112]) rfl rfl ⟨m9_59,m10_60,sp⟩ (fun H n hS=>by obtain⟨m9_59,m10_60,sp⟩:=hS;exact (by exact stepF_ok Ty_ok (by rw[stepF_loc];simp[hh,m6_2,m7_3,m9_59,m10_60]))) ?_
    refine⟨?_,trivial⟩
    have f129:=Sep.oc sp
    have f130:=Sep.oc sp.f1
    have f131:=Sep.oc sp.f2
    have f132:=Sep.oc sp.f3
    refine RunT.step (v:=.undef) Ty_ok rfl rfl (by simp[hh,m6_2,m7_3,m9_59,m10_60,f129,f130,f131,f132,-cellsA,-one1,cAx,o1x];first | exact⟨rfl,rfl⟩ | exact rfl) (fun _=>⟨(by simp[hh,m6_2,m7_3,m9_59,m10_60,f129,f130,f131,f132,Heap.get_set,-cellsA,-one1,cAx,o1x]),(by simp[hh,m6_2,m7_3,m9_59,m10_60,f129,f130,f131,f132,Heap.get_set,-cellsA,-one1,cAx,o1x]),(Sep.setVar (w:=(n1+1,6)) sp (by simp))⟩) ?_
    refine⟨?_,trivial⟩
    have f139:=Sep.oc sp.f4
    have f140:=Sep.oc sp.f5
    have f141:=Sep.oc sp.f6
    have f142:=Sep.oc sp.f7
    refine RunT.step (v:=.undef) Ty_ok rfl rfl (by simp[hh,m6_2,m7_3,m9_59,m10_60,f129,f130,f131,f132,f139,f140,f141,f142,-cellsA,-one1,cAx,o1x];first | exact⟨rfl,rfl⟩ | exact rfl) (fun hl=>absurd (hl.symm.trans (show lateC _ _ _=true by kernel_rfl)) (by decide)) ?_
    refine⟨?_,trivial⟩
    refine RunT.same (v:=(bool true)) Ty_ok rfl rfl (by simp[hh,m6_2,m7_3,m9_59,m10_60,f129,f130,f131,f132,f139,f140,f141,f142,-cellsA,-one1,cAx,o1x]) (fun hl=>absurd (hl.symm.trans (show lateC _ _ _=true by kernel_rfl)) (by decide)) ?_
    refine RunT.fin (by refine⟨v105,v106,v107,v108,v109,v110,v111,v112,by simp[hh,m6_2,m7_3,m9_59,m10_60,f129,f130,f131,f132,f139,f140,f141,f142,-cellsA,-one1,cAx,o1x],(Sep.sub (Sep.setVar (w:=(n1+2,7)) (Sep.setVar (w:=(n1+1,6)) sp (by simp)) (by simp)) (by simp +contextual))⟩)
   clear hh m6_2 m7_3 m9_59 m10_60
   rintro ρ H n122 ⟨v114,v115,v116,v117,v118,v119,v120,v121,⟨hh,m6_2,m7_3⟩,sp⟩
   exact Runs.res3 Ty_ok (v:=.agg [int r25.1.roots,v114,v115,int r25.1.edges,v116,v117]) (w:=.agg [int r25.2.roots,v118,v119,int r25.2.edges,v120,v121]) (z:=bool true) Tryz.func9 Tryz.results9 (by simp[hh,m6_2,m7_3,resA]) (by simp[hh,m6_2,m7_3,resA]) (by simp[hh,m6_2,m7_3,resA]) (hQ _ _ _ _ (Sep.sub (ids':=[]) (Sep.packT (Fill.own (Fill.own (Fill.v _ Fill.nil))) (Sep.f1 (Sep.pack (Fill.v _ (Fill.own (Fill.own (Fill.v _ (Fill.own (Fill.own Fill.nil)))))) (Sep.f4 (Sep.f4 (Sep.f4 (Sep.f4 (Sep.pack (Fill.v _ (Fill.own (Fill.own (Fill.v _ (Fill.own (Fill.own Fill.nil)))))) sp)))))))) (by simp)) ⟨(r25.1,r25.2,true),h,rfl⟩)
  replace h:=hJ80
  obtain⟨hb152,h⟩:=h
  obtain⟨r153,er153,h⟩:=atm h
  simp[hh,m6_2,m7_3,m9_59,m10_60]
  refine RunK.callA Ty_ok (l2Good_ok sig r25.1 hb152) e39 (.cons (argC false sig) (.cons (ArgOk.agg (.cons (.v _ _ _) (.cons (Sep.argOk' sp (old_nest_Node true r25.1.nodes)) (.cons (Sep.argOk' sp.f1 (old_listF (by simp))) (.cons (.v _ _ _) (.cons (Sep.argOk' sp.f2 (old_listF (by simp))) (.cons (Sep.argOk' sp.f3 (old_listF (by simp))) .nil))))))) .nil)) (by decide) (by decide) rfl (by simp[hh,m6_2,m7_3,m9_59,m10_60]) ?_
  rintro _ rfl
  rw[← er153]
  rcases Bool.eq_false_or_eq_true r153 with dr153 | dr153
  ·replace h:=h.1 dr153
   obtain⟨hb154,h⟩:=h
   obtain⟨r155,er155,h⟩:=atm h
   simp[hh,m6_2,m7_3,m9_59,m10_60,dr153]
   refine RunK.callA Ty_ok (l2Good_ok sig r25.2 hb154) e39 (.cons (argC false sig) (.cons (ArgOk.agg (.cons (.v _ _ _) (.cons (Sep.argOk' sp.f4 (old_nest_Node true r25.2.nodes)) (.cons (Sep.argOk' sp.f5 (old_listF (by simp))) (.cons (.v _ _ _) (.cons (Sep.argOk' sp.f6 (old_listF (by simp))) (.cons (Sep.argOk' sp.f7 (old_listF (by simp))) .nil))))))) .nil)) (by decide) (by decide) rfl (by simp[hh,m6_2,m7_3,m9_59,m10_60,dr153]) ?_
   rintro _ rfl
   rw[← er155]
   simp[hh,m6_2,m7_3,m9_59,m10_60,dr153]
   exact fin91 ((!r155)) _ _ _ h (by refine⟨v70,v71,v72,v73,v74,v75,v76,v77,by simp[hh,m6_2,m7_3,m9_59,m10_60,dr153],sp⟩)
  replace h:=h.2 dr153
  simp[hh,m6_2,m7_3,m9_59,m10_60,dr153]
  exact fin91 (true) _ _ _ h (by refine⟨v70,v71,v72,v73,v74,v75,v76,v77,by simp[hh,m6_2,m7_3,m9_59,m10_60,dr153],sp⟩)
 replace h:=hJ7
 obtain⟨hb156,h⟩:=h
 obtain⟨r157,er157,h⟩:=atm h
 simp[hh,m4_1,m6_2,m7_3]
 refine RunK.callA Ty_ok (l2Agent_ok sig b hb156) e36 (.cons (argC false sig) (.cons (argB false b) .nil)) (by decide) (by decide) rfl (by simp[hh,m4_1,m6_2,m7_3]) ?_
 rintro _ rfl
 rw[← er157]
 rcases Bool.eq_false_or_eq_true r157 with dr157 | dr157
 ·replace h:=h.1 dr157
  obtain⟨hb158,h⟩:=h
  obtain⟨r159,er159,h⟩:=atm h
  simp[hh,m4_1,m6_2,m7_3,dr157]
  refine RunK.callA Ty_ok (l2Is_ok b node hb158) e37 (.cons (argB false b) (.cons (.v _ _ _) .nil)) (by decide) (by decide) rfl (by simp[hh,m4_1,m6_2,m7_3,dr157]) ?_
  rintro _ rfl
  rw[← er159]
  rcases Bool.eq_false_or_eq_true r159 with dr159 | dr159
  ·replace h:=h.1 dr159
   obtain⟨hb160,h⟩:=h
   obtain⟨x161,ex161,h⟩:=atm h
   have f162:=fun H=>ix_list (H:=H) (fr:=false) (f:=(GNode.cells false)) (k:=.i64) kd_31 (fun _=>rfl) hb160 ex161
   obtain⟨hb163,h⟩:=h
   obtain⟨x164,ex164,h⟩:=atm h
   have f165:=fun H=>ix_list (H:=H) (fr:=false) (f:=Control.cells) (k:=.i64) kd_37 (fun _=>rfl) hb163 ex164
   obtain⟨c166,ec166,h⟩:=atm h
   have f167:=ib_eql (k:=.i64) ec166
   simp[hh,m4_1,m6_2,m7_3,f162,f165,f167,dr157,dr159,-indexAddrF,-intBin]
   exact fin10 (c166) _ _ _ h (by refine⟨by simp[hh,m4_1,m6_2,m7_3,f162,f165,f167,dr157,dr159,-indexAddrF,-intBin],sp⟩)
  replace h:=h.2 dr159
  simp[hh,m4_1,m6_2,m7_3,dr157,dr159]
  exact fin10 (true) _ _ _ h (by refine⟨by simp[hh,m4_1,m6_2,m7_3,dr157,dr159],sp⟩)
 replace h:=h.2 dr157
 simp[hh,m4_1,m6_2,m7_3,dr157]
 exact fin10 (true) _ _ _ h (by refine⟨by simp[hh,m4_1,m6_2,m7_3,dr157],sp⟩)
theorem sCutUnder_ok (sig:List Control) (b:Big) (node:Int) (hp:sCutUnder_pre sig b node):OwnS Tryz.prog 9 [.list false (sig.map Control.cells),.agg (bC false b),int node] (.t [.a [.c,.s [.c,.c,.s [.c]],.s [.c],.c,.s [.c],.s [.c,.c]],.a [.c,.s [.c,.c,.s [.c]],.s [.c],.c,.s [.c],.s [.c,.c]],.c]) (fun r=>r = .tup [.agg [int (((sCutUnder sig b node).1).roots),.list true ((((sCutUnder sig b node).1).nodes).map (GNode.cells true)),.list true ((((sCutUnder sig b node).1).sites).map intC),int (((sCutUnder sig b node).1).edges),.list true ((((sCutUnder sig b node).1).outer).map strC),.list true ((((sCutUnder sig b node).1).inner).map Wire.cells)],.agg [int (((sCutUnder sig b node).2.1).roots),.list true ((((sCutUnder sig b node).2.1).nodes).map (GNode.cells true)),.list true ((((sCutUnder sig b node).2.1).sites).map intC),int (((sCutUnder sig b node).2.1).edges),.list true ((((sCutUnder sig b node).2.1).outer).map strC),.list true ((((sCutUnder sig b node).2.1).inner).map Wire.cells)],bool ((sCutUnder sig b node).2.2)]):=(sCutUnder_walk sig b node _ (sCutUnder_vc sig b node hp)).mono (by rintro _ ⟨_,rfl,rfl⟩;rfl)
end Go.Ab.Vg
