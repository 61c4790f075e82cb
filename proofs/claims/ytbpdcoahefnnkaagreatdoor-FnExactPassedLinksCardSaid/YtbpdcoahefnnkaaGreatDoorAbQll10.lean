/- Merged texts (10 of 15) of the proof that ends in Lly: L2kw Maw O. -/
import Derived.Test.YtbpdcoahefnnkaaGreatDoorAbQll9
/- Walks by program for YtbpdcoahefnnkaaGreatDoorAbL2k. -/
namespace Go.Ab.Vg
open Go.Proofs
set_option maxRecDepth 100000
set_option linter.unusedSimpArgs false
set_option linter.unusedVariables false
attribute [local simp] GNode.cells Wire.cells intC sliceC strC bC pA
theorem e160:Ent Tryz.prog 160:=Ent.of Tryz.func160 (by kernel_rfl) rfl
theorem l2Kids_walk (b:Big) (parent:Int) (Z:(List Int)→Prop) (h:l2Kids_wp b parent Z):OwnS Tryz.prog 160 [.agg (bC false b),int parent] (.s [.c]) (fun r=>∃ y:List Int,Z y∧r = .list true (y.map intC)):=by
 unfold l2Kids_wp at h
 have sp:Sep noHeap 0 [] []:=Sep.nil (by simp)
 refine OwnS.of Tryz.func160 rfl Tryz.ntmps160 (by simp) fun Q hQ=>?_
 refine Runs.cut (fun ρ H n=>(ρ 0 = .agg (bC false b)∧ρ 1=int parent)∧Sep H n [] []) (by refine⟨?_,sp⟩<;>simp ) ?_
 rintro ρ H n1 ⟨hh,sp⟩
 refine zE fun k' hk'=>?_
 simp[hh]
 apply hk'
 refine Runs.cut (fun ρ H n=>(ρ 1=int parent∧ρ 2=pA n1 2)∧H (n1,2)=some ⟨6,[bC false b]⟩∧Sep H n [] [(n1,2)]) (by refine⟨?_,?_,sp.var⟩<;>simp[hh]) ?_
 clear hh
 rintro ρ H n3 ⟨hh,m2_1,sp⟩
 refine zE fun k' hk'=>?_
 simp[hh,m2_1]
 apply hk'
 refine Runs.cut (fun ρ H n=>∃ (v5:AVal),(ρ 1=int parent∧ρ 2=pA n1 2∧ρ 5=v5)∧H (n1,2)=some ⟨6,[bC false b]⟩∧Sep H n [oI v5 ([]:List Int)] [(n1,2)]) (by refine⟨.arr (n3,7) 0 0 0,?_,?_,(Sep.addEmpty (l:=[.c]) sp)⟩<;>simp[hh,m2_1]) ?_
 clear hh m2_1
 rintro ρ H n6 ⟨v5,hh,m2_1,sp⟩
 refine Runs.seq ?_
 refine zE fun k' hk'=>?_
 simp[hh,m2_1]
 apply hk'
 refine Runs.block ?_
 refine Runs.loopW h (fun (sJ:Int × (List Int)) ρ H n=>match sJ with | (i14,l15)=>∃ (v16:AVal),(ρ 1=int parent∧ρ 2=pA n1 2∧ρ 5=v16∧ρ 6=int i14)∧H (n1,2)=some ⟨6,[bC false b]⟩∧Sep H n [oI v16 l15] [(n1,2)]) (by refine⟨v5,?_,?_,sp⟩<;>simp[hh,m2_1]) ?_
 clear hh m2_1
 rintro⟨i14,l15⟩ ρ H n17 K h ⟨v16,hh,m2_1,sp⟩ IH18
 refine Runs.seq ?_
 refine zE fun k' hk'=>?_
 obtain⟨len20,elen20,h⟩:=atm h
 have f21:=fun H=>len_list (H:=H) (fr:=false) (f:=(GNode.cells false)) kd_44 elen20
 obtain⟨c22,ec22,h⟩:=atm h
 have f23:=ib_lss (k:=.i64) ec22
 simp[hh,m2_1,f21,f23,-intBin,-lenF]
 apply hk'
 refine Runs.ite (b:=c22) (by simp[hh,m2_1]) (fun dc22=>?_) (fun dc22=>?_)
 ·replace h:=h.1 dc22
  refine Runs.skip ?_
  refine Runs.seq ?_
  refine Runs.block ?_
  refine zE fun k' hk'=>?_
  obtain⟨hb24,h⟩:=h
  obtain⟨x25,ex25,h⟩:=atm h
  have f26:=fun H=>ix_list (H:=H) (fr:=false) (f:=(GNode.cells false)) (k:=.i64) kd_44 (fun _=>rfl) hb24 ex25
  obtain⟨c27,ec27,h⟩:=atm h
  have f28:=ib_eql (k:=.i64) ec27
  simp[hh,m2_1,f26,f28,dc22,-indexAddrF,-intBin]
  apply hk'
  refine Runs.ite (b:=c27) (by simp[hh,m2_1,dc22]) (fun dc27=>?_) (fun dc27=>?_)
  ·replace h:=h.1 dc27
   refine zF fun k' hk'=>?_
   obtain⟨hb29,h⟩:=h
   obtain⟨l30,el30,h⟩:=atm h
   simp[hh,m2_1,dc22,dc27,-appendF]
   refine bind_append [] [] [[int i14]] [intC i14] sp kd_24 (by simp) (by simp) (by simp) (by simp[-one1,o1x]) (rows_one (Fill.v _ Fill.nil)) (by simp) (by simpa using hb29) ?_
   rintro v31 H32 n33 sp hfr34 hle35
   replace sp:Sep H32 n33 [oI v31 l30] [(n1,2)]:=Sep.ap el30 sp
   have m2_1:H32 (n1,2)=some ⟨6,[bC false b]⟩:=(hfr34 _ (by simp)).trans (by simp[hh,m2_1,Heap.get_set])
   simp[hh,m2_1,dc22,dc27]
   apply hk'
   refine Runs.cut (fun ρ H n=>∃ (v37:AVal),(ρ 1=int parent∧ρ 2=pA n1 2∧ρ 5=v37∧ρ 6=int i14)∧H (n1,2)=some ⟨6,[bC false b]⟩∧Sep H n [oI v37 l30] [(n1,2)]) (by refine⟨v31,?_,?_,sp⟩<;>simp[hh,m2_1,dc22,dc27]) ?_
   clear hh m2_1
   rintro ρ H n38 ⟨v37,hh,m2_1,sp⟩
   refine Runs.inBlock ?_
   refine zF fun k' hk'=>?_
   obtain⟨hb39,h⟩:=h
   obtain⟨v40,ev40,h⟩:=atm h
   have f41:=ib_add hb39 ev40
   simp[hh,m2_1,f41,-intBin]
   apply hk'
   refine IH18 (v40,l30) _ _ _ h (by refine⟨v37,?_,?_,sp⟩<;>simp[hh,m2_1])
  replace h:=h.2 dc27
  refine Runs.skip ?_
  refine Runs.inBlock ?_
  refine zF fun k' hk'=>?_
  obtain⟨hb42,h⟩:=h
  obtain⟨v43,ev43,h⟩:=atm h
  have f44:=ib_add hb42 ev43
  simp[hh,m2_1,f44,dc22,dc27,-intBin]
  apply hk'
  refine Runs.cut (fun ρ H n=>∃ (v45:AVal),(ρ 1=int parent∧ρ 2=pA n1 2∧ρ 5=v45∧ρ 6=int v43)∧H (n1,2)=some ⟨6,[bC false b]⟩∧Sep H n [oI v45 l15] [(n1,2)]) (by refine⟨v16,?_,?_,sp⟩<;>simp[hh,m2_1,f44,dc22,dc27,-intBin]) ?_
  clear hh m2_1
  rintro ρ H n46 ⟨v45,hh,m2_1,sp⟩
  refine IH18 (v43,l15) _ _ _ h (by refine⟨v45,?_,?_,sp⟩<;>simp[hh,m2_1])
 replace h:=h.2 dc22
 refine Runs.exit rfl ?_
 refine zE fun k' hk'=>?_
 simp[hh,m2_1,dc22]
 apply hk'
 exact Runs.ret1 (v:=v16) Tryz.func160 Tryz.results160 (by simp[hh,m2_1,dc22]) (hQ _ _ _ _ (Sep.sub (ids':=[]) sp (by simp)) ⟨l15,h,rfl⟩)
theorem l2Kids_ok (b:Big) (parent:Int) (hp:l2Kids_pre b parent):OwnS Tryz.prog 160 [.agg (bC false b),int parent] (.s [.c]) (fun r=>r = .list true ((l2Kids b parent).map intC)):=(l2Kids_walk b parent _ (l2Kids_vc b parent hp)).mono (by rintro _ ⟨_,rfl,rfl⟩;rfl)
theorem e161:Ent Tryz.prog 161:=Ent.of Tryz.func161 (by kernel_rfl) rfl
theorem l2Holes_walk (b:Big) (parent:Int) (Z:(List Int)→Prop) (h:l2Holes_wp b parent Z):OwnS Tryz.prog 161 [.agg (bC false b),int parent] (.s [.c]) (fun r=>∃ y:List Int,Z y∧r = .list true (y.map intC)):=by
 unfold l2Holes_wp at h
 have sp:Sep noHeap 0 [] []:=Sep.nil (by simp)
 refine OwnS.of Tryz.func161 rfl Tryz.ntmps161 (by simp) fun Q hQ=>?_
 refine Runs.cut (fun ρ H n=>(ρ 0 = .agg (bC false b)∧ρ 1=int parent)∧Sep H n [] []) (by refine⟨?_,sp⟩<;>simp ) ?_
 rintro ρ H n1 ⟨hh,sp⟩
 refine zE fun k' hk'=>?_
 simp[hh]
 apply hk'
 refine Runs.cut (fun ρ H n=>(ρ 1=int parent∧ρ 2=pA n1 2)∧H (n1,2)=some ⟨6,[bC false b]⟩∧Sep H n [] [(n1,2)]) (by refine⟨?_,?_,sp.var⟩<;>simp[hh]) ?_
 clear hh
 rintro ρ H n3 ⟨hh,m2_1,sp⟩
 refine zE fun k' hk'=>?_
 simp[hh,m2_1]
 apply hk'
 refine Runs.cut (fun ρ H n=>∃ (v5:AVal),(ρ 1=int parent∧ρ 2=pA n1 2∧ρ 5=v5)∧H (n1,2)=some ⟨6,[bC false b]⟩∧Sep H n [oI v5 ([]:List Int)] [(n1,2)]) (by refine⟨.arr (n3,7) 0 0 0,?_,?_,(Sep.addEmpty (l:=[.c]) sp)⟩<;>simp[hh,m2_1]) ?_
 clear hh m2_1
 rintro ρ H n6 ⟨v5,hh,m2_1,sp⟩
 refine Runs.seq ?_
 refine zE fun k' hk'=>?_
 simp[hh,m2_1]
 apply hk'
 refine Runs.block ?_
 refine Runs.loopW h (fun (sJ:Int × (List Int)) ρ H n=>match sJ with | (i14,l15)=>∃ (v16:AVal),(ρ 1=int parent∧ρ 2=pA n1 2∧ρ 5=v16∧ρ 6=int i14)∧H (n1,2)=some ⟨6,[bC false b]⟩∧Sep H n [oI v16 l15] [(n1,2)]) (by refine⟨v5,?_,?_,sp⟩<;>simp[hh,m2_1]) ?_
 clear hh m2_1
 rintro⟨i14,l15⟩ ρ H n17 K h ⟨v16,hh,m2_1,sp⟩ IH18
 refine Runs.seq ?_
 refine zE fun k' hk'=>?_
 obtain⟨len20,elen20,h⟩:=atm h
 have f21:=fun H=>len_list (H:=H) (fr:=false) (f:=intC) kd_24 elen20
 obtain⟨c22,ec22,h⟩:=atm h
 have f23:=ib_lss (k:=.i64) ec22
 simp[hh,m2_1,f21,f23,-intBin,-lenF]
 apply hk'
 refine Runs.ite (b:=c22) (by simp[hh,m2_1]) (fun dc22=>?_) (fun dc22=>?_)
 ·replace h:=h.1 dc22
  refine Runs.skip ?_
  refine Runs.seq ?_
  refine Runs.block ?_
  refine zE fun k' hk'=>?_
  obtain⟨hb24,h⟩:=h
  obtain⟨x25,ex25,h⟩:=atm h
  have f26:=fun H=>ix_list (H:=H) (fr:=false) (f:=intC) (k:=.i64) kd_24 (fun _=>rfl) hb24 ex25
  obtain⟨c27,ec27,h⟩:=atm h
  have f28:=ib_eql (k:=.i64) ec27
  simp[hh,m2_1,f26,f28,dc22,-indexAddrF,-intBin]
  apply hk'
  refine Runs.ite (b:=c27) (by simp[hh,m2_1,dc22]) (fun dc27=>?_) (fun dc27=>?_)
  ·replace h:=h.1 dc27
   refine zF fun k' hk'=>?_
   obtain⟨hb29,h⟩:=h
   obtain⟨l30,el30,h⟩:=atm h
   simp[hh,m2_1,dc22,dc27,-appendF]
   refine bind_append [] [] [[int i14]] [intC i14] sp kd_24 (by simp) (by simp) (by simp) (by simp[-one1,o1x]) (rows_one (Fill.v _ Fill.nil)) (by simp) (by simpa using hb29) ?_
   rintro v31 H32 n33 sp hfr34 hle35
   replace sp:Sep H32 n33 [oI v31 l30] [(n1,2)]:=Sep.ap el30 sp
   have m2_1:H32 (n1,2)=some ⟨6,[bC false b]⟩:=(hfr34 _ (by simp)).trans (by simp[hh,m2_1,Heap.get_set])
   simp[hh,m2_1,dc22,dc27]
   apply hk'
   refine Runs.cut (fun ρ H n=>∃ (v37:AVal),(ρ 1=int parent∧ρ 2=pA n1 2∧ρ 5=v37∧ρ 6=int i14)∧H (n1,2)=some ⟨6,[bC false b]⟩∧Sep H n [oI v37 l30] [(n1,2)]) (by refine⟨v31,?_,?_,sp⟩<;>simp[hh,m2_1,dc22,dc27]) ?_
   clear hh m2_1
   rintro ρ H n38 ⟨v37,hh,m2_1,sp⟩
   refine Runs.inBlock ?_
   refine zF fun k' hk'=>?_
   obtain⟨hb39,h⟩:=h
   obtain⟨v40,ev40,h⟩:=atm h
   have f41:=ib_add hb39 ev40
   simp[hh,m2_1,f41,-intBin]
   apply hk'
   refine IH18 (v40,l30) _ _ _ h (by refine⟨v37,?_,?_,sp⟩<;>simp[hh,m2_1])
  replace h:=h.2 dc27
  refine Runs.skip ?_
  refine Runs.inBlock ?_
  refine zF fun k' hk'=>?_
  obtain⟨hb42,h⟩:=h
  obtain⟨v43,ev43,h⟩:=atm h
  have f44:=ib_add hb42 ev43
  simp[hh,m2_1,f44,dc22,dc27,-intBin]
  apply hk'
  refine Runs.cut (fun ρ H n=>∃ (v45:AVal),(ρ 1=int parent∧ρ 2=pA n1 2∧ρ 5=v45∧ρ 6=int v43)∧H (n1,2)=some ⟨6,[bC false b]⟩∧Sep H n [oI v45 l15] [(n1,2)]) (by refine⟨v16,?_,?_,sp⟩<;>simp[hh,m2_1,f44,dc22,dc27,-intBin]) ?_
  clear hh m2_1
  rintro ρ H n46 ⟨v45,hh,m2_1,sp⟩
  refine IH18 (v43,l15) _ _ _ h (by refine⟨v45,?_,?_,sp⟩<;>simp[hh,m2_1])
 replace h:=h.2 dc22
 refine Runs.exit rfl ?_
 refine zE fun k' hk'=>?_
 simp[hh,m2_1,dc22]
 apply hk'
 exact Runs.ret1 (v:=v16) Tryz.func161 Tryz.results161 (by simp[hh,m2_1,dc22]) (hQ _ _ _ _ (Sep.sub (ids':=[]) sp (by simp)) ⟨l15,h,rfl⟩)
theorem l2Holes_ok (b:Big) (parent:Int) (hp:l2Holes_pre b parent):OwnS Tryz.prog 161 [.agg (bC false b),int parent] (.s [.c]) (fun r=>r = .list true ((l2Holes b parent).map intC)):=(l2Holes_walk b parent _ (l2Holes_vc b parent hp)).mono (by rintro _ ⟨_,rfl,rfl⟩;rfl)
theorem e126:Ent Tryz.prog 126:=Ent.of Tryz.func126 (by kernel_rfl) rfl
theorem childrenOf_walk (b:Big) (parent:Int) (Z:((List Int) × (List Int))→Prop) (h:childrenOf_wp b parent Z):OwnS Tryz.prog 126 [.agg (bC false b),int parent] (.t [.s [.c],.s [.c]]) (fun r=>∃ y:(List Int) × (List Int),Z y∧r = .tup [.list true (y.1.map intC),.list true (y.2.map intC)]):=by
 unfold childrenOf_wp at h
 have sp:Sep noHeap 0 [] []:=Sep.nil (by simp)
 refine OwnS.of Tryz.func126 rfl Tryz.ntmps126 (by simp) fun Q hQ=>?_
 refine Runs.cut (fun ρ H n=>(ρ 0 = .agg (bC false b)∧ρ 1=int parent)∧Sep H n [] []) (by refine⟨?_,sp⟩<;>simp ) ?_
 rintro ρ H n1 ⟨hh,sp⟩
 refine zE fun k' hk'=>?_
 simp[hh]
 apply hk'
 refine Runs.cut (fun ρ H n=>(ρ 1=int parent∧ρ 2=pA n1 2)∧H (n1,2)=some ⟨6,[bC false b]⟩∧Sep H n [] [(n1,2)]) (by refine⟨?_,?_,sp.var⟩<;>simp[hh]) ?_
 clear hh
 rintro ρ H n3 ⟨hh,m2_1,sp⟩
 refine zE fun k' hk'=>?_
 simp[hh,m2_1]
 apply hk'
 refine Runs.cut (fun ρ H n=>∃ (v6 v7:AVal),(ρ 1=int parent∧ρ 2=pA n1 2∧ρ 6=v7∧ρ 7=v6)∧H (n1,2)=some ⟨6,[bC false b]⟩∧Sep H n [oI v6 ([]:List Int),oI v7 ([]:List Int)] [(n1,2)]) (by refine⟨.arr (n3+1,13) 0 0 0,.arr (n3,12) 0 0 0,?_,?_,(Sep.addEmpty (l:=[.c]) (Sep.addEmpty (l:=[.c]) sp))⟩<;>simp[hh,m2_1]) ?_
 clear hh m2_1
 rintro ρ H n8 ⟨v6,v7,hh,m2_1,sp⟩
 refine Runs.seq ?_
 refine zE fun k' hk'=>?_
 obtain⟨len9,elen9,h⟩:=atm h
 have f10:=fun H=>len_list (H:=H) (fr:=false) (f:=(GNode.cells false)) kd_44 elen9
 simp[hh,m2_1,f10,-lenF]
 apply hk'
 refine Runs.block ?_
 refine Runs.loopW h (fun (sJ:Int × (List Int)) ρ H n=>match sJ with | (v20,l21)=>∃ (v22 v23:AVal),(ρ 1=int parent∧ρ 2=pA n1 2∧ρ 6=v23∧ρ 7=v22∧ρ 15 = .list false (b.nodes.map (GNode.cells false))∧ρ 16=int len9∧ρ 17=int v20)∧H (n1,2)=some ⟨6,[bC false b]⟩∧Sep H n [oI v22 ([]:List Int),oI v23 l21] [(n1,2)]) (by refine⟨v6,v7,?_,?_,sp⟩<;>simp[hh,m2_1]) ?_
 clear hh m2_1
 rintro⟨v20,l21⟩ ρ H n24 K h ⟨v22,v23,hh,m2_1,sp⟩ IH25
 refine zE fun k' hk'=>?_
 obtain⟨c27,ec27,h⟩:=atm h
 have f28:=ib_lss (k:=.i64) ec27
 simp[hh,m2_1,f28,-intBin]
 apply hk'
 refine Runs.seq ?_
 refine Runs.ite (b:=c27) (by simp[hh,m2_1]) (fun dc27=>?_) (fun dc27=>?_)
 ·replace h:=h.1 dc27
  refine Runs.skip ?_
  refine Runs.seq ?_
  refine Runs.block ?_
  refine zE fun k' hk'=>?_
  obtain⟨hb29,h⟩:=h
  obtain⟨x30,ex30,h⟩:=atm h
  have f31:=fun H=>ix_list (H:=H) (fr:=false) (f:=(GNode.cells false)) (k:=.i64) kd_44 (fun _=>rfl) hb29 ex30
  simp[hh,m2_1,f31,dc27,-indexAddrF]
  apply hk'
  refine Runs.cut (fun ρ H n=>∃ (v33 v34:AVal),(ρ 1=int parent∧ρ 2=pA n1 2∧ρ 6=v34∧ρ 7=v33∧ρ 8=int v20∧ρ 9=pA n24 9∧ρ 15 = .list false (b.nodes.map (GNode.cells false))∧ρ 16=int len9∧ρ 17=int v20)∧H (n1,2)=some ⟨6,[bC false b]⟩∧H (n24,9)=some ⟨3,[[int x30.control,int x30.parent,.list false (x30.links.map intC)]]⟩∧Sep H n [oI v33 ([]:List Int),oI v34 l21] [(n24,9),(n1,2)]) (by refine⟨v22,v23,?_,?_,?_,sp.var⟩<;>simp[hh,m2_1,f31,dc27,-indexAddrF]) ?_
  clear hh m2_1
  rintro ρ H n35 ⟨v33,v34,hh,m2_1,m9_31,sp⟩
  refine zE fun k' hk'=>?_
  obtain⟨c36,ec36,h⟩:=atm h
  have f37:=ib_eql (k:=.i64) ec36
  simp[hh,m2_1,m9_31,f37,-intBin]
  apply hk'
  refine Runs.ite (b:=c36) (by simp[hh,m2_1,m9_31]) (fun dc36=>?_) (fun dc36=>?_)
  ·replace h:=h.1 dc36
   refine zF fun k' hk'=>?_
   obtain⟨hb38,h⟩:=h
   obtain⟨l39,el39,h⟩:=atm h
   simp[hh,m2_1,m9_31,dc36,-appendF]
   refine bind_append [] [oI v33 ([]:List Int)] [[int v20]] [intC v20] sp.f1 kd_24 (by simp) (by simp) (by simp) (by simp[-one1,o1x]) (rows_one (Fill.v _ Fill.nil)) (by simp) (by simpa using hb38) ?_
   rintro v40 H41 n42 sp hfr43 hle44
   replace sp:Sep H41 n42 [oI v40 l39,oI v33 ([]:List Int)] [(n24,9),(n1,2)]:=Sep.ap el39 sp
   have m2_1:H41 (n1,2)=some ⟨6,[bC false b]⟩:=(hfr43 _ (by simp)).trans (by simp[hh,m2_1,m9_31,Heap.get_set])
   have m9_31:H41 (n24,9)=some ⟨3,[[int x30.control,int x30.parent,.list false (x30.links.map intC)]]⟩:=(hfr43 _ (by simp)).trans (by simp[hh,m2_1,m9_31,Heap.get_set])
   simp[hh,m2_1,m9_31,dc36]
   apply hk'
   refine Runs.cut (fun ρ H n=>∃ (v46 v47:AVal),(ρ 1=int parent∧ρ 2=pA n1 2∧ρ 6=v46∧ρ 7=v47∧ρ 15 = .list false (b.nodes.map (GNode.cells false))∧ρ 16=int len9∧ρ 17=int v20)∧H (n1,2)=some ⟨6,[bC false b]⟩∧Sep H n [oI v46 l39,oI v47 ([]:List Int)] [(n1,2)]) (by refine⟨v40,v33,?_,?_,(Sep.sub sp (by simp +contextual))⟩<;>simp[hh,m2_1,m9_31,dc36]) ?_
   clear hh m2_1 m9_31
   rintro ρ H n48 ⟨v46,v47,hh,m2_1,sp⟩
   refine Runs.inBlock ?_
   refine zF fun k' hk'=>?_
   obtain⟨hb49,h⟩:=h
   obtain⟨v50,ev50,h⟩:=atm h
   have f51:=ib_add hb49 ev50
   simp[hh,m2_1,f51,-intBin]
   apply hk'
   refine IH25 (v50,l39) _ _ _ h (by refine⟨v47,v46,?_,?_,sp.f1⟩<;>simp[hh,m2_1])
  replace h:=h.2 dc36
  refine Runs.skip ?_
  refine Runs.inBlock ?_
  refine zF fun k' hk'=>?_
  obtain⟨hb52,h⟩:=h
  obtain⟨v53,ev53,h⟩:=atm h
  have f54:=ib_add hb52 ev53
  simp[hh,m2_1,m9_31,f54,dc36,-intBin]
  apply hk'
  refine IH25 (v53,l21) _ _ _ h (by refine⟨v33,v34,?_,?_,(Sep.sub sp (by simp +contextual))⟩<;>simp[hh,m2_1,m9_31,dc36])
 replace h:=h.2 dc27
 refine Runs.exit rfl ?_
 refine Runs.seq ?_
 refine zE fun k' hk'=>?_
 obtain⟨len55,elen55,h⟩:=atm h
 have f56:=fun H=>len_list (H:=H) (fr:=false) (f:=intC) kd_24 elen55
 simp[hh,m2_1,f56,dc27,-lenF]
 apply hk'
 refine Runs.block ?_
 refine Runs.loopW h (fun (sJ:Int × (List Int)) ρ H n=>match sJ with | (v66,l67)=>∃ (v68 v69:AVal),(ρ 1=int parent∧ρ 6=v69∧ρ 7=v68∧ρ 32 = .list false (b.sites.map intC)∧ρ 33=int len55∧ρ 34=int v66)∧Sep H n [oI v68 l67,oI v69 l21] []) (by refine⟨v22,v23,?_,(Sep.sub sp (by simp +contextual))⟩<;>simp[hh,m2_1,dc27]) ?_
 clear hh m2_1
 rintro⟨v66,l67⟩ ρ H n70 K h ⟨v68,v69,hh,sp⟩ IH71
 refine zE fun k' hk'=>?_
 obtain⟨c73,ec73,h⟩:=atm h
 have f74:=ib_lss (k:=.i64) ec73
 simp[hh,f74,-intBin]
 apply hk'
 refine Runs.seq ?_
 refine Runs.ite (b:=c73) (by simp[hh]) (fun dc73=>?_) (fun dc73=>?_)
 ·replace h:=h.1 dc73
  refine Runs.skip ?_
  refine Runs.seq ?_
  refine Runs.block ?_
  refine zE fun k' hk'=>?_
  obtain⟨hb75,h⟩:=h
  obtain⟨x76,ex76,h⟩:=atm h
  have f77:=fun H=>ix_list (H:=H) (fr:=false) (f:=intC) (k:=.i64) kd_24 (fun _=>rfl) hb75 ex76
  simp[hh,f77,dc73,-indexAddrF]
  apply hk'
  refine zE fun k' hk'=>?_
  obtain⟨c78,ec78,h⟩:=atm h
  have f79:=ib_eql (k:=.i64) ec78
  simp[hh,f79,dc73,-intBin]
  apply hk'
  refine Runs.ite (b:=c78) (by simp[hh,dc73]) (fun dc78=>?_) (fun dc78=>?_)
  ·replace h:=h.1 dc78
   refine zF fun k' hk'=>?_
   obtain⟨hb80,h⟩:=h
   obtain⟨l81,el81,h⟩:=atm h
   simp[hh,dc73,dc78,-appendF]
   refine bind_append [] [oI v69 l21] [[int v66]] [intC v66] sp kd_24 (by simp) (by simp) (by simp) (by simp[-one1,o1x]) (rows_one (Fill.v _ Fill.nil)) (by simp) (by simpa using hb80) ?_
   rintro v82 H83 n84 sp hfr85 hle86
   replace sp:Sep H83 n84 [oI v82 l81,oI v69 l21] []:=Sep.ap el81 sp
   simp[hh,dc73,dc78]
   apply hk'
   refine Runs.cut (fun ρ H n=>∃ (v88 v89:AVal),(ρ 1=int parent∧ρ 6=v89∧ρ 7=v88∧ρ 32 = .list false (b.sites.map intC)∧ρ 33=int len55∧ρ 34=int v66)∧Sep H n [oI v88 l81,oI v89 l21] []) (by refine⟨v82,v69,?_,sp⟩<;>simp[hh,dc73,dc78]) ?_
   clear hh
   rintro ρ H n90 ⟨v88,v89,hh,sp⟩
   refine Runs.inBlock ?_
   refine zF fun k' hk'=>?_
   obtain⟨hb91,h⟩:=h
   obtain⟨v92,ev92,h⟩:=atm h
   have f93:=ib_add hb91 ev92
   simp[hh,f93,-intBin]
   apply hk'
   refine IH71 (v92,l81) _ _ _ h (by refine⟨v88,v89,?_,sp⟩<;>simp[hh])
  replace h:=h.2 dc78
  refine Runs.skip ?_
  refine Runs.inBlock ?_
  refine zF fun k' hk'=>?_
  obtain⟨hb94,h⟩:=h
  obtain⟨v95,ev95,h⟩:=atm h
  have f96:=ib_add hb94 ev95
  simp[hh,f96,dc73,dc78,-intBin]
  apply hk'
  refine IH71 (v95,l67) _ _ _ h (by refine⟨v68,v69,?_,sp⟩<;>simp[hh,dc73,dc78])
 replace h:=h.2 dc73
 refine Runs.exit rfl ?_
 refine zE fun k' hk'=>?_
 simp[hh,dc73]
 apply hk'
 exact Runs.ret2 (v:=v69) (w:=v68) Tryz.func126 Tryz.results126 (by simp[hh,dc73]) (by simp[hh,dc73]) (hQ _ _ _ _ (Sep.sub (ids':=[]) (Sep.packT (Fill.own (Fill.own Fill.nil)) sp.f1) (by simp)) ⟨(l21,l67),h,rfl⟩)
theorem childrenOf_ok (b:Big) (parent:Int) (hp:childrenOf_pre b parent):OwnS Tryz.prog 126 [.agg (bC false b),int parent] (.t [.s [.c],.s [.c]]) (fun r=>r = .tup [.list true (((childrenOf b parent).1).map intC),.list true (((childrenOf b parent).2).map intC)]):=(childrenOf_walk b parent _ (childrenOf_vc b parent hp)).mono (by rintro _ ⟨_,rfl,rfl⟩;rfl)
end Go.Ab.Vg
/- Walks by program for YtbpdcoahefnnkaaGreatDoorAbMa. -/
namespace Go.Ab.Vg
open Go.Proofs
set_option maxRecDepth 100000
set_option linter.unusedSimpArgs false
set_option linter.unusedVariables false
attribute [local simp] Control.cells GNode.cells Wire.cells intC intC2 sliceC strC bC pA
theorem e173:Ent Tryz.prog 173:=Ent.of Tryz.func173 (by kernel_rfl) rfl
theorem l2Ports_walk (b:Big) (link:Int) (Z:(List (Int × Int))→Prop) (h:l2Ports_wp b link Z):OwnS Tryz.prog 173 [.agg (bC false b),int link] (.s [.c,.c]) (fun r=>∃ y:List (Int × Int),Z y∧r = .list true (y.map intC2)):=by
 unfold l2Ports_wp at h
 have sp:Sep noHeap 0 [] []:=Sep.nil (by simp)
 refine OwnS.of Tryz.func173 rfl Tryz.ntmps173 (by simp) fun Q hQ=>?_
 refine Runs.cut (fun ρ H n=>(ρ 0 = .agg (bC false b)∧ρ 1=int link)∧Sep H n [] []) (by refine⟨?_,sp⟩<;>simp ) ?_
 rintro ρ H n1 ⟨hh,sp⟩
 refine zE fun k' hk'=>?_
 simp[hh]
 apply hk'
 refine Runs.cut (fun ρ H n=>(ρ 1=int link∧ρ 2=pA n1 2)∧H (n1,2)=some ⟨6,[bC false b]⟩∧Sep H n [] [(n1,2)]) (by refine⟨?_,?_,sp.var⟩<;>simp[hh]) ?_
 clear hh
 rintro ρ H n3 ⟨hh,m2_1,sp⟩
 refine zE fun k' hk'=>?_
 simp[hh,m2_1]
 apply hk'
 refine Runs.cut (fun ρ H n=>∃ (v5:AVal),(ρ 1=int link∧ρ 2=pA n1 2∧ρ 5=v5)∧H (n1,2)=some ⟨6,[bC false b]⟩∧Sep H n [oE [.c,.c] intC2 v5 ([]:List (Int × Int))] [(n1,2)]) (by refine⟨.arr (n3,8) 0 0 0,?_,?_,(Sep.addEmpty (l:=[.c,.c]) sp)⟩<;>simp[hh,m2_1]) ?_
 clear hh m2_1
 rintro ρ H n6 ⟨v5,hh,m2_1,sp⟩
 refine Runs.seq ?_
 refine zE fun k' hk'=>?_
 simp[hh,m2_1]
 apply hk'
 refine Runs.block ?_
 refine Runs.loopW h (fun (sJ:Int × (List (Int × Int))) ρ H n=>match sJ with | (i14,l15)=>∃ (v16:AVal),(ρ 1=int link∧ρ 2=pA n1 2∧ρ 5=v16∧ρ 6=int i14)∧H (n1,2)=some ⟨6,[bC false b]⟩∧Sep H n [oE [.c,.c] intC2 v16 l15] [(n1,2)]) (by refine⟨v5,?_,?_,sp⟩<;>simp[hh,m2_1]) ?_
 clear hh m2_1
 rintro⟨i14,l15⟩ ρ H n17 K h ⟨v16,hh,m2_1,sp⟩ IH18
 refine Runs.seq ?_
 refine zE fun k' hk'=>?_
 obtain⟨len20,elen20,h⟩:=atm h
 have f21:=fun H=>len_list (H:=H) (fr:=false) (f:=(GNode.cells false)) kd_44 elen20
 obtain⟨c22,ec22,h⟩:=atm h
 have f23:=ib_lss (k:=.i64) ec22
 simp[hh,m2_1,f21,f23,-intBin,-lenF]
 apply hk'
 refine Runs.ite (b:=c22) (by simp[hh,m2_1]) (fun dc22=>?_) (fun dc22=>?_)
 ·replace h:=h.1 dc22
  refine Runs.skip ?_
  refine Runs.seq ?_
  refine Runs.block ?_
  refine zE fun k' hk'=>?_
  simp[hh,m2_1,dc22]
  apply hk'
  refine Runs.block ?_
  refine Runs.loopW h (fun (sJ:Int × (List (Int × Int))) ρ H n=>match sJ with | (k31,l32)=>∃ (v33:AVal),(ρ 1=int link∧ρ 2=pA n1 2∧ρ 5=v33∧ρ 6=int i14∧ρ 7=int k31)∧H (n1,2)=some ⟨6,[bC false b]⟩∧Sep H n [oE [.c,.c] intC2 v33 l32] [(n1,2)]) (by refine⟨v16,?_,?_,sp⟩<;>simp[hh,m2_1,dc22]) ?_
  clear hh m2_1
  rintro⟨k31,l32⟩ ρ H n34 K h ⟨v33,hh,m2_1,sp⟩ IH35
  refine Runs.seq ?_
  refine zE fun k' hk'=>?_
  obtain⟨hb37,h⟩:=h
  obtain⟨x38,ex38,h⟩:=atm h
  have f39:=fun H=>ix_list (H:=H) (fr:=false) (f:=(GNode.cells false)) (k:=.i64) kd_44 (fun _=>rfl) hb37 ex38
  obtain⟨len40,elen40,h⟩:=atm h
  have f41:=fun H=>len_list (H:=H) (fr:=false) (f:=intC) kd_24 elen40
  obtain⟨c42,ec42,h⟩:=atm h
  have f43:=ib_lss (k:=.i64) ec42
  simp[hh,m2_1,f39,f41,f43,-indexAddrF,-intBin,-lenF]
  apply hk'
  refine Runs.ite (b:=c42) (by simp[hh,m2_1]) (fun dc42=>?_) (fun dc42=>?_)
  ·replace h:=h.1 dc42
   refine Runs.skip ?_
   refine Runs.seq ?_
   refine Runs.block ?_
   refine zE fun k' hk'=>?_
   obtain⟨hb44,h⟩:=h
   obtain⟨x45,ex45,h⟩:=atm h
   have hq46:=ex38.trans ex45.symm
   subst hq46
   have f47:=fun H=>ix_list (H:=H) (fr:=false) (f:=(GNode.cells false)) (k:=.i64) kd_44 (fun _=>rfl) hb44 ex38
   obtain⟨hb48,h⟩:=h
   obtain⟨x49,ex49,h⟩:=atm h
   have f50:=fun H=>ix_list (H:=H) (fr:=false) (f:=intC) (k:=.i64) kd_24 (fun _=>rfl) hb48 ex49
   obtain⟨c51,ec51,h⟩:=atm h
   have f52:=ib_eql (k:=.i64) ec51
   simp[hh,m2_1,f47,f50,f52,dc42,-indexAddrF,-intBin]
   apply hk'
   refine Runs.cut (fun ρ H n=>∃ (v53:AVal),(ρ 1=int link∧ρ 2=pA n1 2∧ρ 5=v53∧ρ 6=int i14∧ρ 7=int k31∧ρ 37=bool c51)∧H (n1,2)=some ⟨6,[bC false b]⟩∧Sep H n [oE [.c,.c] intC2 v53 l32] [(n1,2)]) (by refine⟨v33,?_,?_,sp⟩<;>simp[hh,m2_1,f47,f50,f52,dc42,-indexAddrF,-intBin]) ?_
   clear hh m2_1
   rintro ρ H n54 ⟨v53,hh,m2_1,sp⟩
   refine Runs.ite (b:=c51) (by simp[hh,m2_1]) (fun dc51=>?_) (fun dc51=>?_)
   ·replace h:=h.1 dc51
    refine zF fun k' hk'=>?_
    obtain⟨hb55,h⟩:=h
    obtain⟨l56,el56,h⟩:=atm h
    simp[hh,m2_1,dc51,-appendF]
    refine bind_append [] [] [[int i14,int k31]] [intC2 (i14,k31)] sp kd_186 (by simp) (by simp) (by simp) (by simp[-one1,o1x]) (rows_one (Fill.v _ (Fill.v _ Fill.nil))) (by simp) (by simpa using hb55) ?_
    rintro v57 H58 n59 sp hfr60 hle61
    replace sp:Sep H58 n59 [oE [.c,.c] intC2 v57 l56] [(n1,2)]:=Sep.ap el56 sp
    have m2_1:H58 (n1,2)=some ⟨6,[bC false b]⟩:=(hfr60 _ (by simp)).trans (by simp[hh,m2_1,Heap.get_set])
    simp[hh,m2_1,dc51]
    apply hk'
    refine Runs.cut (fun ρ H n=>∃ (v63:AVal),(ρ 1=int link∧ρ 2=pA n1 2∧ρ 5=v63∧ρ 6=int i14∧ρ 7=int k31)∧H (n1,2)=some ⟨6,[bC false b]⟩∧Sep H n [oE [.c,.c] intC2 v63 l56] [(n1,2)]) (by refine⟨v57,?_,?_,sp⟩<;>simp[hh,m2_1,dc51]) ?_
    clear hh m2_1
    rintro ρ H n64 ⟨v63,hh,m2_1,sp⟩
    refine Runs.inBlock ?_
    refine zF fun k' hk'=>?_
    obtain⟨hb65,h⟩:=h
    obtain⟨v66,ev66,h⟩:=atm h
    have f67:=ib_add hb65 ev66
    simp[hh,m2_1,f67,-intBin]
    apply hk'
    refine IH35 (v66,l56) _ _ _ h (by refine⟨v63,?_,?_,sp⟩<;>simp[hh,m2_1])
   replace h:=h.2 dc51
   refine Runs.skip ?_
   refine Runs.inBlock ?_
   refine zF fun k' hk'=>?_
   obtain⟨hb68,h⟩:=h
   obtain⟨v69,ev69,h⟩:=atm h
   have f70:=ib_add hb68 ev69
   simp[hh,m2_1,f70,dc51,-intBin]
   apply hk'
   refine IH35 (v69,l32) _ _ _ h (by refine⟨v53,?_,?_,sp⟩<;>simp[hh,m2_1,dc51])
  replace h:=h.2 dc42
  refine Runs.exit rfl ?_
  refine Runs.inBlock ?_
  refine zF fun k' hk'=>?_
  obtain⟨hb71,h⟩:=h
  obtain⟨v72,ev72,h⟩:=atm h
  have f73:=ib_add hb71 ev72
  simp[hh,m2_1,f73,dc42,-intBin]
  apply hk'
  refine IH18 (v72,l32) _ _ _ h (by refine⟨v33,?_,?_,sp⟩<;>simp[hh,m2_1,dc42])
 replace h:=h.2 dc22
 refine Runs.exit rfl ?_
 refine zE fun k' hk'=>?_
 simp[hh,m2_1,dc22]
 apply hk'
 exact Runs.ret1 (v:=v16) Tryz.func173 Tryz.results173 (by simp[hh,m2_1,dc22]) (hQ _ _ _ _ (Sep.sub (ids':=[]) sp (by simp)) ⟨l15,h,rfl⟩)
theorem l2Ports_ok (b:Big) (link:Int) (hp:l2Ports_pre b link):OwnS Tryz.prog 173 [.agg (bC false b),int link] (.s [.c,.c]) (fun r=>r = .list true ((l2Ports b link).map intC2)):=(l2Ports_walk b link _ (l2Ports_vc b link hp)).mono (by rintro _ ⟨_,rfl,rfl⟩;rfl)
theorem e183:Ent Tryz.prog 183:=Ent.of Tryz.func183 (by kernel_rfl) rfl
theorem l2Ends_walk (b:Big) (link:Int) (Z:(List Str)→Prop) (h:l2Ends_wp b link Z):OwnS Tryz.prog 183 [.agg (bC false b),int link] (.s [.c]) (fun r=>∃ y:List Str,Z y∧r = .list true (y.map strC)):=by
 unfold l2Ends_wp at h
 have sp:Sep noHeap 0 [] []:=Sep.nil (by simp)
 refine OwnS.of Tryz.func183 rfl Tryz.ntmps183 (by simp) fun Q hQ=>?_
 refine Runs.cut (fun ρ H n=>(ρ 0 = .agg (bC false b)∧ρ 1=int link)∧Sep H n [] []) (by refine⟨?_,sp⟩<;>simp ) ?_
 rintro ρ H n1 ⟨hh,sp⟩
 refine zE fun k' hk'=>?_
 simp[hh]
 apply hk'
 refine Runs.cut (fun ρ H n=>(ρ 1=int link∧ρ 2=pA n1 2)∧H (n1,2)=some ⟨6,[bC false b]⟩∧Sep H n [] [(n1,2)]) (by refine⟨?_,?_,sp.var⟩<;>simp[hh]) ?_
 clear hh
 rintro ρ H n3 ⟨hh,m2_1,sp⟩
 refine zE fun k' hk'=>?_
 simp[hh,m2_1]
 apply hk'
 refine Runs.cut (fun ρ H n=>∃ (v5:AVal),(ρ 1=int link∧ρ 2=pA n1 2∧ρ 5=v5)∧H (n1,2)=some ⟨6,[bC false b]⟩∧Sep H n [oS v5 ([]:List Str)] [(n1,2)]) (by refine⟨.arr (n3,7) 0 0 0,?_,?_,(Sep.addEmpty (l:=[.c]) sp)⟩<;>simp[hh,m2_1]) ?_
 clear hh m2_1
 rintro ρ H n6 ⟨v5,hh,m2_1,sp⟩
 refine Runs.seq ?_
 refine zE fun k' hk'=>?_
 simp[hh,m2_1]
 apply hk'
 refine Runs.block ?_
 refine Runs.loopW h (fun (sJ:Int × (List Str)) ρ H n=>match sJ with | (i14,l15)=>∃ (v16:AVal),(ρ 1=int link∧ρ 2=pA n1 2∧ρ 5=v16∧ρ 6=int i14)∧H (n1,2)=some ⟨6,[bC false b]⟩∧Sep H n [oS v16 l15] [(n1,2)]) (by refine⟨v5,?_,?_,sp⟩<;>simp[hh,m2_1]) ?_
 clear hh m2_1
 rintro⟨i14,l15⟩ ρ H n17 K h ⟨v16,hh,m2_1,sp⟩ IH18
 refine Runs.seq ?_
 refine zE fun k' hk'=>?_
 obtain⟨len20,elen20,h⟩:=atm h
 have f21:=fun H=>len_list (H:=H) (fr:=false) (f:=Wire.cells) kd_45 elen20
 obtain⟨c22,ec22,h⟩:=atm h
 have f23:=ib_lss (k:=.i64) ec22
 simp[hh,m2_1,f21,f23,-intBin,-lenF]
 apply hk'
 refine Runs.ite (b:=c22) (by simp[hh,m2_1]) (fun dc22=>?_) (fun dc22=>?_)
 ·replace h:=h.1 dc22
  refine Runs.skip ?_
  refine Runs.seq ?_
  refine Runs.block ?_
  refine zE fun k' hk'=>?_
  obtain⟨hb24,h⟩:=h
  obtain⟨x25,ex25,h⟩:=atm h
  have f26:=fun H=>ix_list (H:=H) (fr:=false) (f:=Wire.cells) (k:=.i64) kd_45 (fun _=>rfl) hb24 ex25
  obtain⟨c27,ec27,h⟩:=atm h
  have f28:=ib_eql (k:=.i64) ec27
  simp[hh,m2_1,f26,f28,dc22,-indexAddrF,-intBin]
  apply hk'
  refine Runs.ite (b:=c27) (by simp[hh,m2_1,dc22]) (fun dc27=>?_) (fun dc27=>?_)
  ·replace h:=h.1 dc27
   refine zF fun k' hk'=>?_
   obtain⟨hb29,h⟩:=h
   obtain⟨x30,ex30,h⟩:=atm h
   have hq31:=ex25.trans ex30.symm
   subst hq31
   have f32:=fun H=>ix_list (H:=H) (fr:=false) (f:=Wire.cells) (k:=.i64) kd_45 (fun _=>rfl) hb29 ex25
   obtain⟨hb33,h⟩:=h
   obtain⟨l34,el34,h⟩:=atm h
   simp[hh,m2_1,f32,dc22,dc27,-indexAddrF,-appendF]
   refine bind_append [] [] [[str x25.name]] [strC x25.name] sp kd_25 (by simp) (by simp) (by simp) (by simp[-one1,o1x]) (rows_one (Fill.v _ Fill.nil)) (by simp) (by simpa using hb33) ?_
   rintro v35 H36 n37 sp hfr38 hle39
   replace sp:Sep H36 n37 [oS v35 l34] [(n1,2)]:=Sep.ap el34 sp
   have m2_1:H36 (n1,2)=some ⟨6,[bC false b]⟩:=(hfr38 _ (by simp)).trans (by simp[hh,m2_1,Heap.get_set])
   simp[hh,m2_1,f32,dc22,dc27,-indexAddrF]
   apply hk'
   refine Runs.cut (fun ρ H n=>∃ (v41:AVal),(ρ 1=int link∧ρ 2=pA n1 2∧ρ 5=v41∧ρ 6=int i14)∧H (n1,2)=some ⟨6,[bC false b]⟩∧Sep H n [oS v41 l34] [(n1,2)]) (by refine⟨v35,?_,?_,sp⟩<;>simp[hh,m2_1,f32,dc22,dc27,-indexAddrF]) ?_
   clear hh m2_1
   rintro ρ H n42 ⟨v41,hh,m2_1,sp⟩
   refine Runs.inBlock ?_
   refine zF fun k' hk'=>?_
   obtain⟨hb43,h⟩:=h
   obtain⟨v44,ev44,h⟩:=atm h
   have f45:=ib_add hb43 ev44
   simp[hh,m2_1,f45,-intBin]
   apply hk'
   refine IH18 (v44,l34) _ _ _ h (by refine⟨v41,?_,?_,sp⟩<;>simp[hh,m2_1])
  replace h:=h.2 dc27
  refine Runs.skip ?_
  refine Runs.inBlock ?_
  refine zF fun k' hk'=>?_
  obtain⟨hb46,h⟩:=h
  obtain⟨v47,ev47,h⟩:=atm h
  have f48:=ib_add hb46 ev47
  simp[hh,m2_1,f48,dc22,dc27,-intBin]
  apply hk'
  refine Runs.cut (fun ρ H n=>∃ (v49:AVal),(ρ 1=int link∧ρ 2=pA n1 2∧ρ 5=v49∧ρ 6=int v47)∧H (n1,2)=some ⟨6,[bC false b]⟩∧Sep H n [oS v49 l15] [(n1,2)]) (by refine⟨v16,?_,?_,sp⟩<;>simp[hh,m2_1,f48,dc22,dc27,-intBin]) ?_
  clear hh m2_1
  rintro ρ H n50 ⟨v49,hh,m2_1,sp⟩
  refine IH18 (v47,l15) _ _ _ h (by refine⟨v49,?_,?_,sp⟩<;>simp[hh,m2_1])
 replace h:=h.2 dc22
 refine Runs.exit rfl ?_
 refine zE fun k' hk'=>?_
 simp[hh,m2_1,dc22]
 apply hk'
 exact Runs.ret1 (v:=v16) Tryz.func183 Tryz.results183 (by simp[hh,m2_1,dc22]) (hQ _ _ _ _ (Sep.sub (ids':=[]) sp (by simp)) ⟨l15,h,rfl⟩)
theorem l2Ends_ok (b:Big) (link:Int) (hp:l2Ends_pre b link):OwnS Tryz.prog 183 [.agg (bC false b),int link] (.s [.c]) (fun r=>r = .list true ((l2Ends b link).map strC)):=(l2Ends_walk b link _ (l2Ends_vc b link hp)).mono (by rintro _ ⟨_,rfl,rfl⟩;rfl)
theorem e169:Ent Tryz.prog 169:=Ent.of Tryz.func169 (by kernel_rfl) rfl
theorem pointsOf_walk (b:Big) (link:Int) (Z:((List (Int × Int)) × (List Str))→Prop) (h:pointsOf_wp b link Z):OwnS Tryz.prog 169 [.agg (bC false b),int link] (.t [.s [.c,.c],.s [.c]]) (fun r=>∃ y:(List (Int × Int)) × (List Str),Z y∧r = .tup [.list true (y.1.map intC2),.list true (y.2.map strC)]):=by
 unfold pointsOf_wp at h
 have sp:Sep noHeap 0 [] []:=Sep.nil (by simp)
 refine OwnS.of Tryz.func169 rfl Tryz.ntmps169 (by simp) fun Q hQ=>?_
 refine Runs.cut (fun ρ H n=>(ρ 0 = .agg (bC false b)∧ρ 1=int link)∧Sep H n [] []) (by refine⟨?_,sp⟩<;>simp ) ?_
 rintro ρ H n1 ⟨hh,sp⟩
 refine zE fun k' hk'=>?_
 simp[hh]
 apply hk'
 refine Runs.cut (fun ρ H n=>(ρ 1=int link∧ρ 2=pA n1 2)∧H (n1,2)=some ⟨6,[bC false b]⟩∧Sep H n [] [(n1,2)]) (by refine⟨?_,?_,sp.var⟩<;>simp[hh]) ?_
 clear hh
 rintro ρ H n3 ⟨hh,m2_1,sp⟩
 refine zE fun k' hk'=>?_
 simp[hh,m2_1]
 apply hk'
 refine Runs.cut (fun ρ H n=>∃ (v6 v7:AVal),(ρ 1=int link∧ρ 2=pA n1 2∧ρ 6=v7∧ρ 7=v6)∧H (n1,2)=some ⟨6,[bC false b]⟩∧Sep H n [oS v6 ([]:List Str),oE [.c,.c] intC2 v7 ([]:List (Int × Int))] [(n1,2)]) (by refine⟨.arr (n3+1,15) 0 0 0,.arr (n3,14) 0 0 0,?_,?_,(Sep.addEmpty (l:=[.c]) (Sep.addEmpty (l:=[.c,.c]) sp))⟩<;>simp[hh,m2_1]) ?_
 clear hh m2_1
 rintro ρ H n8 ⟨v6,v7,hh,m2_1,sp⟩
 refine Runs.seq ?_
 refine zE fun k' hk'=>?_
 obtain⟨len9,elen9,h⟩:=atm h
 have f10:=fun H=>len_list (H:=H) (fr:=false) (f:=(GNode.cells false)) kd_44 elen9
 simp[hh,m2_1,f10,-lenF]
 apply hk'
 refine Runs.block ?_
 refine Runs.loopW h (fun (sJ:Int × (List (Int × Int))) ρ H n=>match sJ with | (v20,l21)=>∃ (v22 v23:AVal),(ρ 1=int link∧ρ 2=pA n1 2∧ρ 6=v23∧ρ 7=v22∧ρ 17 = .list false (b.nodes.map (GNode.cells false))∧ρ 18=int len9∧ρ 19=int v20)∧H (n1,2)=some ⟨6,[bC false b]⟩∧Sep H n [oS v22 ([]:List Str),oE [.c,.c] intC2 v23 l21] [(n1,2)]) (by refine⟨v6,v7,?_,?_,sp⟩<;>simp[hh,m2_1]) ?_
 clear hh m2_1
 rintro⟨v20,l21⟩ ρ H n24 K h ⟨v22,v23,hh,m2_1,sp⟩ IH25
 refine zE fun k' hk'=>?_
 obtain⟨c27,ec27,h⟩:=atm h
 have f28:=ib_lss (k:=.i64) ec27
 simp[hh,m2_1,f28,-intBin]
 apply hk'
 refine Runs.seq ?_
 refine Runs.ite (b:=c27) (by simp[hh,m2_1]) (fun dc27=>?_) (fun dc27=>?_)
 ·replace h:=h.1 dc27
  refine Runs.skip ?_
  refine Runs.seq ?_
  refine Runs.block ?_
  refine zE fun k' hk'=>?_
  obtain⟨hb29,h⟩:=h
  obtain⟨x30,ex30,h⟩:=atm h
  have f31:=fun H=>ix_list (H:=H) (fr:=false) (f:=(GNode.cells false)) (k:=.i64) kd_44 (fun _=>rfl) hb29 ex30
  simp[hh,m2_1,f31,dc27,-indexAddrF]
  apply hk'
  refine Runs.cut (fun ρ H n=>∃ (v33 v34:AVal),(ρ 1=int link∧ρ 2=pA n1 2∧ρ 6=v34∧ρ 7=v33∧ρ 8=int v20∧ρ 9=pA n24 9∧ρ 17 = .list false (b.nodes.map (GNode.cells false))∧ρ 18=int len9∧ρ 19=int v20)∧H (n1,2)=some ⟨6,[bC false b]⟩∧H (n24,9)=some ⟨3,[[int x30.control,int x30.parent,.list false (x30.links.map intC)]]⟩∧Sep H n [oS v33 ([]:List Str),oE [.c,.c] intC2 v34 l21] [(n24,9),(n1,2)]) (by refine⟨v22,v23,?_,?_,?_,sp.var⟩<;>simp[hh,m2_1,f31,dc27,-indexAddrF]) ?_
  clear hh m2_1
  rintro ρ H n35 ⟨v33,v34,hh,m2_1,m9_31,sp⟩
  refine zE fun k' hk'=>?_
  obtain⟨len36,elen36,h⟩:=atm h
  have f37:=fun H=>len_list (H:=H) (fr:=false) (f:=intC) kd_24 elen36
  simp[hh,m2_1,m9_31,f37,-lenF]
  apply hk'
  refine Runs.block ?_
  refine Runs.loopW h (fun (sJ:Int × (List (Int × Int))) ρ H n=>match sJ with | (v47,l48)=>∃ (v49 v50:AVal),(ρ 1=int link∧ρ 2=pA n1 2∧ρ 6=v50∧ρ 7=v49∧ρ 8=int v20∧ρ 17 = .list false (b.nodes.map (GNode.cells false))∧ρ 18=int len9∧ρ 19=int v20∧ρ 25 = .list false (x30.links.map intC)∧ρ 26=int len36∧ρ 27=int v47)∧H (n1,2)=some ⟨6,[bC false b]⟩∧Sep H n [oS v49 ([]:List Str),oE [.c,.c] intC2 v50 l48] [(n1,2)]) (by refine⟨v33,v34,?_,?_,(Sep.sub sp (by simp +contextual))⟩<;>simp[hh,m2_1,m9_31]) ?_
  clear hh m2_1 m9_31
  rintro⟨v47,l48⟩ ρ H n51 K h ⟨v49,v50,hh,m2_1,sp⟩ IH52
  refine zE fun k' hk'=>?_
  obtain⟨c54,ec54,h⟩:=atm h
  have f55:=ib_lss (k:=.i64) ec54
  simp[hh,m2_1,f55,-intBin]
  apply hk'
  refine Runs.seq ?_
  refine Runs.ite (b:=c54) (by simp[hh,m2_1]) (fun dc54=>?_) (fun dc54=>?_)
  ·replace h:=h.1 dc54
   refine Runs.skip ?_
   refine Runs.seq ?_
   refine Runs.block ?_
   refine zE fun k' hk'=>?_
   obtain⟨hb56,h⟩:=h
   obtain⟨x57,ex57,h⟩:=atm h
   have f58:=fun H=>ix_list (H:=H) (fr:=false) (f:=intC) (k:=.i64) kd_24 (fun _=>rfl) hb56 ex57
   simp[hh,m2_1,f58,dc54,-indexAddrF]
   apply hk'
   refine zE fun k' hk'=>?_
   obtain⟨c59,ec59,h⟩:=atm h
   have f60:=ib_eql (k:=.i64) ec59
   simp[hh,m2_1,f60,dc54,-intBin]
   apply hk'
   refine Runs.ite (b:=c59) (by simp[hh,m2_1,dc54]) (fun dc59=>?_) (fun dc59=>?_)
   ·replace h:=h.1 dc59
    refine zF fun k' hk'=>?_
    obtain⟨hb61,h⟩:=h
    obtain⟨l62,el62,h⟩:=atm h
    simp[hh,m2_1,dc54,dc59,-appendF]
    refine bind_append [] [oS v49 ([]:List Str)] [[int v20,int v47]] [intC2 (v20,v47)] sp.f1 kd_186 (by simp) (by simp) (by simp) (by simp[-one1,o1x]) (rows_one (Fill.v _ (Fill.v _ Fill.nil))) (by simp) (by simpa using hb61) ?_
    rintro v63 H64 n65 sp hfr66 hle67
    replace sp:Sep H64 n65 [oE [.c,.c] intC2 v63 l62,oS v49 ([]:List Str)] [(n1,2)]:=Sep.ap el62 sp
    have m2_1:H64 (n1,2)=some ⟨6,[bC false b]⟩:=(hfr66 _ (by simp)).trans (by simp[hh,m2_1,Heap.get_set])
    simp[hh,m2_1,dc54,dc59]
    apply hk'
    refine Runs.cut (fun ρ H n=>∃ (v69 v70:AVal),(ρ 1=int link∧ρ 2=pA n1 2∧ρ 6=v69∧ρ 7=v70∧ρ 8=int v20∧ρ 17 = .list false (b.nodes.map (GNode.cells false))∧ρ 18=int len9∧ρ 19=int v20∧ρ 25 = .list false (x30.links.map intC)∧ρ 26=int len36∧ρ 27=int v47)∧H (n1,2)=some ⟨6,[bC false b]⟩∧Sep H n [oE [.c,.c] intC2 v69 l62,oS v70 ([]:List Str)] [(n1,2)]) (by refine⟨v63,v49,?_,?_,sp⟩<;>simp[hh,m2_1,dc54,dc59]) ?_
    clear hh m2_1
    rintro ρ H n71 ⟨v69,v70,hh,m2_1,sp⟩
    refine Runs.inBlock ?_
    refine zF fun k' hk'=>?_
    obtain⟨hb72,h⟩:=h
    obtain⟨v73,ev73,h⟩:=atm h
    have f74:=ib_add hb72 ev73
    simp[hh,m2_1,f74,-intBin]
    apply hk'
    refine IH52 (v73,l62) _ _ _ h (by refine⟨v70,v69,?_,?_,sp.f1⟩<;>simp[hh,m2_1])
   replace h:=h.2 dc59
   refine Runs.skip ?_
   refine Runs.inBlock ?_
   refine zF fun k' hk'=>?_
   obtain⟨hb75,h⟩:=h
   obtain⟨v76,ev76,h⟩:=atm h
   have f77:=ib_add hb75 ev76
   simp[hh,m2_1,f77,dc54,dc59,-intBin]
   apply hk'
   refine IH52 (v76,l48) _ _ _ h (by refine⟨v49,v50,?_,?_,sp⟩<;>simp[hh,m2_1,dc54,dc59])
  replace h:=h.2 dc54
  refine Runs.exit rfl ?_
  refine Runs.inBlock ?_
  refine zF fun k' hk'=>?_
  obtain⟨hb78,h⟩:=h
  obtain⟨v79,ev79,h⟩:=atm h
  have f80:=ib_add hb78 ev79
  simp[hh,m2_1,f80,dc54,-intBin]
  apply hk'
  refine IH25 (v79,l48) _ _ _ h (by refine⟨v49,v50,?_,?_,sp⟩<;>simp[hh,m2_1,dc54])
 replace h:=h.2 dc27
 refine Runs.exit rfl ?_
 refine Runs.seq ?_
 refine zE fun k' hk'=>?_
 obtain⟨len81,elen81,h⟩:=atm h
 have f82:=fun H=>len_list (H:=H) (fr:=false) (f:=Wire.cells) kd_45 elen81
 simp[hh,m2_1,f82,dc27,-lenF]
 apply hk'
 refine Runs.block ?_
 refine Runs.loopW h (fun (sJ:Int × (List Str)) ρ H n=>match sJ with | (v92,l93)=>∃ (v94 v95:AVal),(ρ 1=int link∧ρ 6=v95∧ρ 7=v94∧ρ 44 = .list false (b.inner.map Wire.cells)∧ρ 45=int len81∧ρ 46=int v92)∧Sep H n [oS v94 l93,oE [.c,.c] intC2 v95 l21] []) (by refine⟨v22,v23,?_,(Sep.sub sp (by simp +contextual))⟩<;>simp[hh,m2_1,dc27]) ?_
 clear hh m2_1
 rintro⟨v92,l93⟩ ρ H n96 K h ⟨v94,v95,hh,sp⟩ IH97
 refine zE fun k' hk'=>?_
 obtain⟨c99,ec99,h⟩:=atm h
 have f100:=ib_lss (k:=.i64) ec99
 simp[hh,f100,-intBin]
 apply hk'
 refine Runs.seq ?_
 refine Runs.ite (b:=c99) (by simp[hh]) (fun dc99=>?_) (fun dc99=>?_)
 ·replace h:=h.1 dc99
  refine Runs.skip ?_
  refine Runs.seq ?_
  refine Runs.block ?_
  refine zE fun k' hk'=>?_
  obtain⟨hb101,h⟩:=h
  obtain⟨x102,ex102,h⟩:=atm h
  have f103:=fun H=>ix_list (H:=H) (fr:=false) (f:=Wire.cells) (k:=.i64) kd_45 (fun _=>rfl) hb101 ex102
  simp[hh,f103,dc99,-indexAddrF]
  apply hk'
  refine Runs.cut (fun ρ H n=>∃ (v105 v106:AVal),(ρ 1=int link∧ρ 6=v106∧ρ 7=v105∧ρ 13=pA n96 13∧ρ 44 = .list false (b.inner.map Wire.cells)∧ρ 45=int len81∧ρ 46=int v92)∧H (n96,13)=some ⟨2,[[str x102.name,int x102.link]]⟩∧Sep H n [oS v105 l93,oE [.c,.c] intC2 v106 l21] [(n96,13)]) (by refine⟨v94,v95,?_,?_,sp.var⟩<;>simp[hh,f103,dc99,-indexAddrF]) ?_
  clear hh
  rintro ρ H n107 ⟨v105,v106,hh,m13_103,sp⟩
  refine zE fun k' hk'=>?_
  obtain⟨c108,ec108,h⟩:=atm h
  have f109:=ib_eql (k:=.i64) ec108
  simp[hh,m13_103,f109,-intBin]
  apply hk'
  refine Runs.ite (b:=c108) (by simp[hh,m13_103]) (fun dc108=>?_) (fun dc108=>?_)
  ·replace h:=h.1 dc108
   refine zF fun k' hk'=>?_
   obtain⟨hb110,h⟩:=h
   obtain⟨l111,el111,h⟩:=atm h
   simp[hh,m13_103,dc108,-appendF]
   refine bind_append [] [oE [.c,.c] intC2 v106 l21] [[str x102.name]] [strC x102.name] sp kd_25 (by simp) (by simp) (by simp) (by simp[-one1,o1x]) (rows_one (Fill.v _ Fill.nil)) (by simp) (by simpa using hb110) ?_
   rintro v112 H113 n114 sp hfr115 hle116
   replace sp:Sep H113 n114 [oS v112 l111,oE [.c,.c] intC2 v106 l21] [(n96,13)]:=Sep.ap el111 sp
   have m13_103:H113 (n96,13)=some ⟨2,[[str x102.name,int x102.link]]⟩:=(hfr115 _ (by simp)).trans (by simp[hh,m13_103,Heap.get_set])
   simp[hh,m13_103,dc108]
   apply hk'
   refine Runs.cut (fun ρ H n=>∃ (v118 v119:AVal),(ρ 1=int link∧ρ 6=v119∧ρ 7=v118∧ρ 44 = .list false (b.inner.map Wire.cells)∧ρ 45=int len81∧ρ 46=int v92)∧Sep H n [oS v118 l111,oE [.c,.c] intC2 v119 l21] []) (by refine⟨v112,v106,?_,(Sep.sub sp (by simp +contextual))⟩<;>simp[hh,m13_103,dc108]) ?_
   clear hh m13_103
   rintro ρ H n120 ⟨v118,v119,hh,sp⟩
   refine Runs.inBlock ?_
   refine zF fun k' hk'=>?_
   obtain⟨hb121,h⟩:=h
   obtain⟨v122,ev122,h⟩:=atm h
   have f123:=ib_add hb121 ev122
   simp[hh,f123,-intBin]
   apply hk'
   refine IH97 (v122,l111) _ _ _ h (by refine⟨v118,v119,?_,sp⟩<;>simp[hh])
  replace h:=h.2 dc108
  refine Runs.skip ?_
  refine Runs.inBlock ?_
  refine zF fun k' hk'=>?_
  obtain⟨hb124,h⟩:=h
  obtain⟨v125,ev125,h⟩:=atm h
  have f126:=ib_add hb124 ev125
  simp[hh,m13_103,f126,dc108,-intBin]
  apply hk'
  refine IH97 (v125,l93) _ _ _ h (by refine⟨v105,v106,?_,(Sep.sub sp (by simp +contextual))⟩<;>simp[hh,m13_103,dc108])
 replace h:=h.2 dc99
 refine Runs.exit rfl ?_
 refine zE fun k' hk'=>?_
 simp[hh,dc99]
 apply hk'
 exact Runs.ret2 (v:=v95) (w:=v94) Tryz.func169 Tryz.results169 (by simp[hh,dc99]) (by simp[hh,dc99]) (hQ _ _ _ _ (Sep.sub (ids':=[]) (Sep.packT (Fill.own (Fill.own Fill.nil)) sp.f1) (by simp)) ⟨(l21,l93),h,rfl⟩)
theorem pointsOf_ok (b:Big) (link:Int) (hp:pointsOf_pre b link):OwnS Tryz.prog 169 [.agg (bC false b),int link] (.t [.s [.c,.c],.s [.c]]) (fun r=>r = .tup [.list true (((pointsOf b link).1).map intC2),.list true (((pointsOf b link).2).map strC)]):=(pointsOf_walk b link _ (pointsOf_vc b link hp)).mono (by rintro _ ⟨_,rfl,rfl⟩;rfl)
theorem e162:Ent Tryz.prog 162:=Ent.of Tryz.func162 (by kernel_rfl) rfl
theorem l2Idle_walk (b:Big) (link:Int) (Z:Bool→Prop) (h:l2Idle_wp b link Z):PureC Tryz.prog 162 [.agg (bC false b),int link] (fun r=>∃ y:Bool,Z y∧r=bool y):=by
 unfold l2Idle_wp at h
 refine PureC.of Tryz.func162 rfl Tryz.ntmps162 (by simp) fun Q hQ=>?_
 refine Runs.cut (fun ρ H n=>(ρ 0 = .agg (bC false b)∧ρ 1=int link)) (by simp) ?_
 rintro ρ H n1 hh
 refine zE fun k' hk'=>?_
 simp[hh]
 apply hk'
 refine Runs.cut (fun ρ H n=>(ρ 1=int link∧ρ 2=pA n1 2)∧H (n1,2)=some ⟨6,[bC false b]⟩) (by refine⟨?_,?_⟩<;>simp[hh]) ?_
 clear hh
 rintro ρ H n3 ⟨hh,m2_1⟩
 refine zE fun k' hk'=>?_
 obtain⟨J4,hJ5,hr6⟩:=h
 have fin8:∀ (sJ:Bool) (ρ:Env) (H:Heap) (n:Nat),J4 sJ→(match sJ with | b7=>ρ 4=bool b7)→Runs Tryz.prog 162 17 k' ρ H n Q:=by
  rintro b7 ρ H n9 h hh
  replace h:=hr6 _ h
  apply hk'
  exact Runs.ret1 (v:=bool b7) Tryz.func162 Tryz.results162 (by simp[hh]) (hQ _ _ _ _ (.of (.v _)) ⟨b7,h,rfl⟩)
 replace h:=hJ5
 obtain⟨hb10,h⟩:=h
 obtain⟨r11,er11,h⟩:=atm h
 simp[hh,m2_1]
 refine RunK.callA Ty_ok ((l2Ports_ok b link hb10).pure) e173 (.cons (argB false b) (.cons (.v _ _ _) .nil)) (by decide) (by decide) rfl (by simp[hh,m2_1]) ?_
 rintro _ rfl
 rw[← er11]
 obtain⟨len12,elen12,h⟩:=atm h
 have f13:=fun H=>len_list (H:=H) (fr:=true) (f:=intC2) kd_186 elen12
 obtain⟨c14,ec14,h⟩:=atm h
 have f15:=ib_eql (k:=.i64) ec14
 rcases Bool.eq_false_or_eq_true c14 with dc14 | dc14
 ·replace h:=h.1 dc14
  obtain⟨hb16,h⟩:=h
  obtain⟨r17,er17,h⟩:=atm h
  simp[hh,m2_1,f13,f15,dc14,-intBin,-lenF]
  refine RunK.callA Ty_ok ((l2Ends_ok b link hb16).pure) e183 (.cons (argB false b) (.cons (.v _ _ _) .nil)) (by decide) (by decide) rfl (by simp[hh,m2_1,f13,f15,dc14,-intBin,-lenF]) ?_
  rintro _ rfl
  rw[← er17]
  obtain⟨len18,elen18,h⟩:=atm h
  have f19:=fun H=>len_list (H:=H) (fr:=true) (f:=strC) kd_25 elen18
  obtain⟨c20,ec20,h⟩:=atm h
  have f21:=ib_eql (k:=.i64) ec20
  simp[hh,m2_1,f13,f15,f19,f21,dc14,-intBin,-lenF]
  exact fin8 (c20) _ _ _ h (by simp[hh,m2_1,f13,f15,f19,f21,dc14,-intBin,-lenF])
 replace h:=h.2 dc14
 simp[hh,m2_1,f13,f15,dc14,-intBin,-lenF]
 exact fin8 (false) _ _ _ h (by simp[hh,m2_1,f13,f15,dc14,-intBin,-lenF])
theorem l2Idle_ok (b:Big) (link:Int) (hp:l2Idle_pre b link):PureC Tryz.prog 162 [.agg (bC false b),int link] (fun r=>r=bool (l2Idle b link)):=(l2Idle_walk b link _ (l2Idle_vc b link hp)).mono (by rintro _ ⟨_,rfl,rfl⟩;rfl)
theorem e127:Ent Tryz.prog 127:=Ent.of Tryz.func127 (by kernel_rfl) rfl
theorem isIdle_walk (b:Big) (link:Int) (Z:Bool→Prop) (h:isIdle_wp b link Z):PureC Tryz.prog 127 [.agg (bC false b),int link] (fun r=>∃ y:Bool,Z y∧r=bool y):=by
 unfold isIdle_wp at h
 refine PureC.of Tryz.func127 rfl Tryz.ntmps127 (by simp) fun Q hQ=>?_
 refine Runs.cut (fun ρ H n=>(ρ 0 = .agg (bC false b)∧ρ 1=int link)) (by simp) ?_
 rintro ρ H n1 hh
 refine zE fun k' hk'=>?_
 simp[hh]
 apply hk'
 refine Runs.cut (fun ρ H n=>(ρ 1=int link∧ρ 2=pA n1 2)∧H (n1,2)=some ⟨6,[bC false b]⟩) (by refine⟨?_,?_⟩<;>simp[hh]) ?_
 clear hh
 rintro ρ H n3 ⟨hh,m2_1⟩
 refine zE fun k' hk'=>?_
 obtain⟨hb4,h⟩:=h
 obtain⟨r5,er5,h⟩:=atm h
 simp[hh,m2_1]
 refine RunK.callA Ty_ok ((pointsOf_ok b link hb4).pure) e169 (.cons (argB false b) (.cons (.v _ _ _) .nil)) (by decide) (by decide) rfl (by simp[hh,m2_1]) ?_
 rintro _ rfl
 rw[← er5]
 simp[hh,m2_1]
 apply hk'
 refine zE fun k' hk'=>?_
 obtain⟨len6,elen6,h⟩:=atm h
 have f7:=fun H=>len_list (H:=H) (fr:=true) (f:=intC2) kd_186 elen6
 obtain⟨len8,elen8,h⟩:=atm h
 have f9:=fun H=>len_list (H:=H) (fr:=true) (f:=strC) kd_25 elen8
 obtain⟨hb10,h⟩:=h
 obtain⟨v11,ev11,h⟩:=atm h
 have f12:=ib_add hb10 ev11
 obtain⟨c13,ec13,h⟩:=atm h
 have f14:=ib_eql (k:=.i64) ec13
 simp[hh,m2_1,f7,f9,f12,f14,-intBin,-lenF]
 apply hk'
 refine Runs.cut (fun ρ H n=>ρ 4=bool c13) (by simp[hh,m2_1,f7,f9,f12,f14,-intBin,-lenF]) ?_
 clear hh m2_1
 rintro ρ H n15 hh
 exact Runs.ret1 (v:=bool c13) Tryz.func127 Tryz.results127 (by simp[hh]) (hQ _ _ _ _ (.of (.v _)) ⟨c13,h,rfl⟩)
theorem isIdle_ok (b:Big) (link:Int) (hp:isIdle_pre b link):PureC Tryz.prog 127 [.agg (bC false b),int link] (fun r=>r=bool (isIdle b link)):=(isIdle_walk b link _ (isIdle_vc b link hp)).mono (by rintro _ ⟨_,rfl,rfl⟩;rfl)
theorem e129:Ent Tryz.prog 129:=Ent.of Tryz.func129 (by kernel_rfl) rfl
theorem isClosedB_walk (b:Big) (Z:Bool→Prop) (h:isClosedB_wp b Z):PureC Tryz.prog 129 [.agg (bC false b)] (fun r=>∃ y:Bool,Z y∧r=bool y):=by
 unfold isClosedB_wp at h
 refine PureC.of Tryz.func129 rfl Tryz.ntmps129 (by simp) fun Q hQ=>?_
 refine Runs.cut (fun ρ H n=>ρ 0 = .agg (bC false b)) (by simp) ?_
 rintro ρ H n1 hh
 refine zE fun k' hk'=>?_
 simp[hh]
 apply hk'
 refine Runs.cut (fun ρ H n=>ρ 1=pA n1 1∧H (n1,1)=some ⟨6,[bC false b]⟩) (by refine⟨?_,?_⟩<;>simp[hh]) ?_
 clear hh
 rintro ρ H n3 ⟨hh,m1_1⟩
 refine zE fun k' hk'=>?_
 obtain⟨J4,hJ5,hr6⟩:=h
 have fin8:∀ (sJ:Bool) (ρ:Env) (H:Heap) (n:Nat),J4 sJ→(match sJ with | b7=>ρ 2=bool b7)→Runs Tryz.prog 129 13 k' ρ H n Q:=by
  rintro b7 ρ H n9 h hh
  replace h:=hr6 _ h
  apply hk'
  exact Runs.ret1 (v:=bool b7) Tryz.func129 Tryz.results129 (by simp[hh]) (hQ _ _ _ _ (.of (.v _)) ⟨b7,h,rfl⟩)
 replace h:=hJ5
 obtain⟨len10,elen10,h⟩:=atm h
 have f11:=fun H=>len_list (H:=H) (fr:=false) (f:=intC) kd_24 elen10
 obtain⟨c12,ec12,h⟩:=atm h
 have f13:=ib_eql (k:=.i64) ec12
 rcases Bool.eq_false_or_eq_true c12 with dc12 | dc12
 ·replace h:=h.1 dc12
  obtain⟨len14,elen14,h⟩:=atm h
  have f15:=fun H=>len_list (H:=H) (fr:=false) (f:=Wire.cells) kd_45 elen14
  obtain⟨c16,ec16,h⟩:=atm h
  have f17:=ib_eql (k:=.i64) ec16
  simp[hh,m1_1,f11,f13,f15,f17,dc12,-intBin,-lenF]
  exact fin8 (c16) _ _ _ h (by simp[hh,m1_1,f11,f13,f15,f17,dc12,-intBin,-lenF])
 replace h:=h.2 dc12
 simp[hh,m1_1,f11,f13,dc12,-intBin,-lenF]
 exact fin8 (false) _ _ _ h (by simp[hh,m1_1,f11,f13,dc12,-intBin,-lenF])
theorem isClosedB_ok (b:Big) (hp:isClosedB_pre b):PureC Tryz.prog 129 [.agg (bC false b)] (fun r=>r=bool (isClosedB b)):=(isClosedB_walk b _ (isClosedB_vc b hp)).mono (by rintro _ ⟨_,rfl,rfl⟩;rfl)
theorem e74:Ent Tryz.prog 74:=Ent.of Tryz.func74 (by kernel_rfl) rfl
theorem agentB_walk (sig:List Control) (b:Big) (Z:Bool→Prop) (h:agentB_wp sig b Z):PureC Tryz.prog 74 [.list false (sig.map Control.cells),.agg (bC false b)] (fun r=>∃ y:Bool,Z y∧r=bool y):=by
 unfold agentB_wp at h
 refine PureC.of Tryz.func74 rfl Tryz.ntmps74 (by simp) fun Q hQ=>?_
 refine Runs.cut (fun ρ H n=>(ρ 0 = .list false (sig.map Control.cells)∧ρ 1 = .agg (bC false b))) (by simp) ?_
 rintro ρ H n1 hh
 refine zE fun k' hk'=>?_
 simp[hh]
 apply hk'
 refine Runs.cut (fun ρ H n=>(ρ 0 = .list false (sig.map Control.cells)∧ρ 3=pA n1 3)∧H (n1,3)=some ⟨6,[bC false b]⟩) (by refine⟨?_,?_⟩<;>simp[hh]) ?_
 clear hh
 rintro ρ H n3 ⟨hh,m3_1⟩
 refine zE fun k' hk'=>?_
 obtain⟨J4,hJ5,hr6⟩:=h
 have fin8:∀ (sJ:Bool) (ρ:Env) (H:Heap) (n:Nat),J4 sJ→(match sJ with | b7=>ρ 4=bool b7)→Runs Tryz.prog 74 12 k' ρ H n Q:=by
  rintro b7 ρ H n9 h hh
  replace h:=hr6 _ h
  apply hk'
  exact Runs.ret1 (v:=bool b7) Tryz.func74 Tryz.results74 (by simp[hh]) (hQ _ _ _ _ (.of (.v _)) ⟨b7,h,rfl⟩)
 replace h:=hJ5
 obtain⟨hb10,h⟩:=h
 obtain⟨r11,er11,h⟩:=atm h
 simp[hh,m3_1]
 refine RunK.callA Ty_ok (IsBigraph_ok sig b hb10) e70 (.cons (argC false sig) (.cons (argB false b) .nil)) (by decide) (by decide) rfl (by simp[hh,m3_1]) ?_
 rintro _ rfl
 rw[← er11]
 rcases Bool.eq_false_or_eq_true r11 with dr11 | dr11
 ·replace h:=h.1 dr11
  obtain⟨hb12,h⟩:=h
  obtain⟨r13,er13,h⟩:=atm h
  simp[hh,m3_1,dr11]
  refine RunK.callA Ty_ok (isClosedB_ok b hb12) e129 (.cons (argB false b) .nil) (by decide) (by decide) rfl (by simp[hh,m3_1,dr11]) ?_
  rintro _ rfl
  rw[← er13]
  simp[hh,m3_1,dr11]
  exact fin8 (r13) _ _ _ h (by simp[hh,m3_1,dr11])
 replace h:=h.2 dr11
 simp[hh,m3_1,dr11]
 exact fin8 (false) _ _ _ h (by simp[hh,m3_1,dr11])
theorem agentB_ok (sig:List Control) (b:Big) (hp:agentB_pre sig b):PureC Tryz.prog 74 [.list false (sig.map Control.cells),.agg (bC false b)] (fun r=>r=bool (agentB sig b)):=(agentB_walk sig b _ (agentB_vc sig b hp)).mono (by rintro _ ⟨_,rfl,rfl⟩;rfl)
theorem e65:Ent Tryz.prog 65:=Ent.of Tryz.func65 (by kernel_rfl) rfl
theorem l2Agent_walk (sig:List Control) (b:Big) (Z:Bool→Prop) (h:l2Agent_wp sig b Z):PureC Tryz.prog 65 [.list false (sig.map Control.cells),.agg (bC false b)] (fun r=>∃ y:Bool,Z y∧r=bool y):=by
 unfold l2Agent_wp at h
 refine PureC.of Tryz.func65 rfl Tryz.ntmps65 (by simp) fun Q hQ=>?_
 refine Runs.cut (fun ρ H n=>(ρ 0 = .list false (sig.map Control.cells)∧ρ 1 = .agg (bC false b))) (by simp) ?_
 rintro ρ H n1 hh
 refine zE fun k' hk'=>?_
 simp[hh]
 apply hk'
 refine Runs.cut (fun ρ H n=>(ρ 0 = .list false (sig.map Control.cells)∧ρ 3=pA n1 3)∧H (n1,3)=some ⟨6,[bC false b]⟩) (by refine⟨?_,?_⟩<;>simp[hh]) ?_
 clear hh
 rintro ρ H n3 ⟨hh,m3_1⟩
 refine zE fun k' hk'=>?_
 obtain⟨J4,hJ5,hr6⟩:=h
 have fin8:∀ (sJ:Bool) (ρ:Env) (H:Heap) (n:Nat),J4 sJ→(match sJ with | b7=>ρ 4=bool b7)→Runs Tryz.prog 65 20 k' ρ H n Q:=by
  rintro b7 ρ H n9 h hh
  replace h:=hr6 _ h
  apply hk'
  exact Runs.ret1 (v:=bool b7) Tryz.func65 Tryz.results65 (by simp[hh]) (hQ _ _ _ _ (.of (.v _)) ⟨b7,h,rfl⟩)
 replace h:=hJ5
 obtain⟨hb10,h⟩:=h
 obtain⟨r11,er11,h⟩:=atm h
 simp[hh,m3_1]
 refine RunK.callA Ty_ok (l2Good_ok sig b hb10) e89 (.cons (argC false sig) (.cons (argB false b) .nil)) (by decide) (by decide) rfl (by simp[hh,m3_1]) ?_
 rintro _ rfl
 rw[← er11]
 rcases Bool.eq_false_or_eq_true r11 with dr11 | dr11
 ·replace h:=h.1 dr11
  obtain⟨len12,elen12,h⟩:=atm h
  have f13:=fun H=>len_list (H:=H) (fr:=false) (f:=intC) kd_24 elen12
  obtain⟨c14,ec14,h⟩:=atm h
  have f15:=ib_eql (k:=.i64) ec14
  rcases Bool.eq_false_or_eq_true c14 with dc14 | dc14
  ·replace h:=h.1 dc14
   obtain⟨len16,elen16,h⟩:=atm h
   have f17:=fun H=>len_list (H:=H) (fr:=false) (f:=Wire.cells) kd_45 elen16
   obtain⟨c18,ec18,h⟩:=atm h
   have f19:=ib_eql (k:=.i64) ec18
   simp[hh,m3_1,f13,f15,f17,f19,dr11,dc14,-intBin,-lenF]
   exact fin8 (c18) _ _ _ h (by simp[hh,m3_1,f13,f15,f17,f19,dr11,dc14,-intBin,-lenF])
  replace h:=h.2 dc14
  simp[hh,m3_1,f13,f15,dr11,dc14,-intBin,-lenF]
  exact fin8 (false) _ _ _ h (by simp[hh,m3_1,f13,f15,dr11,dc14,-intBin,-lenF])
 replace h:=h.2 dr11
 simp[hh,m3_1,dr11]
 exact fin8 (false) _ _ _ h (by simp[hh,m3_1,dr11])
theorem l2Agent_ok (sig:List Control) (b:Big) (hp:l2Agent_pre sig b):PureC Tryz.prog 65 [.list false (sig.map Control.cells),.agg (bC false b)] (fun r=>r=bool (l2Agent sig b)):=(l2Agent_walk sig b _ (l2Agent_vc sig b hp)).mono (by rintro _ ⟨_,rfl,rfl⟩;rfl)
theorem e71:Ent Tryz.prog 71:=Ent.of Tryz.func71 (by kernel_rfl) rfl
theorem isRedex_walk (b:Big) (Z:Bool→Prop) (h:isRedex_wp b Z):PureC Tryz.prog 71 [.agg (bC false b)] (fun r=>∃ y:Bool,Z y∧r=bool y):=by
 unfold isRedex_wp at h
 refine PureC.of Tryz.func71 rfl Tryz.ntmps71 (by simp) fun Q hQ=>?_
 refine Runs.cut (fun ρ H n=>ρ 0 = .agg (bC false b)) (by simp) ?_
 rintro ρ H n1 hh
 refine zE fun k' hk'=>?_
 simp[hh]
 apply hk'
 refine Runs.cut (fun ρ H n=>ρ 1=pA n1 1∧H (n1,1)=some ⟨6,[bC false b]⟩) (by refine⟨?_,?_⟩<;>simp[hh]) ?_
 clear hh
 rintro ρ H n3 ⟨hh,m1_1⟩
 refine Runs.seq ?_
 refine zE fun k' hk'=>?_
 obtain⟨J4,hJ5,hr6⟩:=h
 have fin8:∀ (sJ:Bool) (ρ:Env) (H:Heap) (n:Nat),J4 sJ→(match sJ with | b7=>(ρ 1=pA n1 1∧ρ 15=bool b7)∧H (n1,1)=some ⟨6,[bC false b]⟩)→Runs Tryz.prog 71 62 k' ρ H n Q:=by
  rintro b7 ρ H n9 h ⟨hh,m1_1⟩
  replace h:=hr6 _ h
  apply hk'
  refine Runs.ite (b:=b7) (by simp[hh,m1_1]) (fun db7=>?_) (fun db7=>?_)
  ·replace h:=h.1 db7
   refine zE fun k' hk'=>?_
   simp[hh,m1_1,db7]
   apply hk'
   exact Runs.ret1 (v:=bool false) Tryz.func71 Tryz.results71 (by simp[hh,m1_1,db7]) (hQ _ _ _ _ (.of (.v _)) ⟨false,h,rfl⟩)
  replace h:=h.2 db7
  refine Runs.skip ?_
  refine Runs.seq ?_
  refine zE fun k' hk'=>?_
  obtain⟨hb10,h⟩:=h
  obtain⟨v11,ev11,h⟩:=atm h
  have f12:=ub_neg hb10 ev11
  simp[hh,m1_1,f12,db7,-unF,ub_not']
  apply hk'
  refine Runs.block ?_
  refine Runs.loopW h (fun (sJ:Int) ρ H n=>match sJ with | placeV15=>(ρ 1=pA n1 1∧ρ 3=int placeV15)∧H (n1,1)=some ⟨6,[bC false b]⟩) (by refine⟨?_,?_⟩<;>simp[hh,m1_1,db7]) ?_
  clear hh m1_1
  rintro placeV15 ρ H n16 K h ⟨hh,m1_1⟩ IH17
  refine Runs.seq ?_
  refine zE fun k' hk'=>?_
  obtain⟨len19,elen19,h⟩:=atm h
  have f20:=fun H=>len_list (H:=H) (fr:=false) (f:=(GNode.cells false)) kd_44 elen19
  obtain⟨c21,ec21,h⟩:=atm h
  have f22:=ib_lss (k:=.i64) ec21
  simp[hh,m1_1,f20,f22,-intBin,-lenF]
  apply hk'
  refine Runs.ite (b:=c21) (by simp[hh,m1_1]) (fun dc21=>?_) (fun dc21=>?_)
  ·replace h:=h.1 dc21
   refine Runs.skip ?_
   refine Runs.seq ?_
   refine Runs.block ?_
   refine zE fun k' hk'=>?_
   obtain⟨hb23,h⟩:=h
   obtain⟨r24,er24,h⟩:=atm h
   simp[hh,m1_1,dc21]
   refine RunK.callA Ty_ok ((childrenOf_ok b placeV15 hb23).pure) e126 (.cons (argB false b) (.cons (.v _ _ _) .nil)) (by decide) (by decide) rfl (by simp[hh,m1_1,dc21]) ?_
   rintro _ rfl
   rw[← er24]
   simp[hh,m1_1,dc21]
   apply hk'
   refine zE fun k' hk'=>?_
   obtain⟨J25,hJ26,hr27⟩:=h
   have fin29:∀ (sJ:Bool) (ρ:Env) (H:Heap) (n:Nat),J25 sJ→(match sJ with | b28=>(ρ 1=pA n1 1∧ρ 3=int placeV15∧ρ 48=bool b28)∧H (n1,1)=some ⟨6,[bC false b]⟩)→Runs Tryz.prog 71 62 k' ρ H n Q:=by
    rintro b28 ρ H n30 h ⟨hh,m1_1⟩
    replace h:=hr27 _ h
    apply hk'
    refine Runs.ite (b:=b28) (by simp[hh,m1_1]) (fun db28=>?_) (fun db28=>?_)
    ·replace h:=h.1 db28
     refine zE fun k' hk'=>?_
     simp[hh,m1_1,db28]
     apply hk'
     exact Runs.ret1 (v:=bool false) Tryz.func71 Tryz.results71 (by simp[hh,m1_1,db28]) (hQ _ _ _ _ (.of (.v _)) ⟨false,h,rfl⟩)
    replace h:=h.2 db28
    refine Runs.skip ?_
    refine Runs.inBlock ?_
    refine zF fun k' hk'=>?_
    obtain⟨hb31,h⟩:=h
    obtain⟨v32,ev32,h⟩:=atm h
    have f33:=ib_add hb31 ev32
    simp[hh,m1_1,f33,db28,-intBin]
    apply hk'
    refine IH17 (v32) _ _ _ h (by refine⟨?_,?_⟩<;>simp[hh,m1_1,db28])
   replace h:=hJ26
   obtain⟨c34,ec34,h⟩:=atm h
   have f35:=ib_lss (k:=.i64) ec34
   rcases Bool.eq_false_or_eq_true c34 with dc34 | dc34
   ·replace h:=h.1 dc34
    obtain⟨len36,elen36,h⟩:=atm h
    have f37:=fun H=>len_list (H:=H) (fr:=true) (f:=intC) kd_24 elen36
    obtain⟨c38,ec38,h⟩:=atm h
    have f39:=ib_eql (k:=.i64) ec38
    rcases Bool.eq_false_or_eq_true c38 with dc38 | dc38
    ·replace h:=h.1 dc38
     simp[hh,m1_1,f35,f37,f39,dc21,dc34,dc38,-intBin,-lenF]
     exact fin29 (true) _ _ _ h (by refine⟨?_,?_⟩<;>simp[hh,m1_1,f35,f37,f39,dc21,dc34,dc38,-intBin,-lenF])
    replace h:=h.2 dc38
    obtain⟨len40,elen40,h⟩:=atm h
    have f41:=fun H=>len_list (H:=H) (fr:=true) (f:=intC) kd_24 elen40
    obtain⟨c42,ec42,h⟩:=atm h
    have f43:=ib_gtr (k:=.i64) ec42
    rcases Bool.eq_false_or_eq_true c42 with dc42 | dc42
    ·replace h:=h.1 dc42
     simp[hh,m1_1,f35,f37,f39,f41,f43,dc21,dc34,dc38,dc42,-intBin,-lenF]
     exact fin29 (true) _ _ _ h (by refine⟨?_,?_⟩<;>simp[hh,m1_1,f35,f37,f39,f41,f43,dc21,dc34,dc38,dc42,-intBin,-lenF])
    replace h:=h.2 dc42
    obtain⟨len44,elen44,h⟩:=atm h
    have hq45:=elen40.trans elen44.symm
    subst hq45
    have f46:=fun H=>len_list (H:=H) (fr:=true) (f:=intC) kd_24 elen40
    obtain⟨c47,ec47,h⟩:=atm h
    have f48:=ib_gtr (k:=.i64) ec47
    simp[hh,m1_1,f35,f37,f39,f41,f43,f46,f48,dc21,dc34,dc38,dc42,-intBin,-lenF]
    exact fin29 (c47) _ _ _ h (by refine⟨?_,?_⟩<;>simp[hh,m1_1,f35,f37,f39,f41,f43,f46,f48,dc21,dc34,dc38,dc42,-intBin,-lenF])
   replace h:=h.2 dc34
   obtain⟨len49,elen49,h⟩:=atm h
   have f50:=fun H=>len_list (H:=H) (fr:=true) (f:=intC) kd_24 elen49
   obtain⟨c51,ec51,h⟩:=atm h
   have f52:=ib_gtr (k:=.i64) ec51
   simp[hh,m1_1,f35,f50,f52,dc21,dc34,-intBin,-lenF]
   exact fin29 (c51) _ _ _ h (by refine⟨?_,?_⟩<;>simp[hh,m1_1,f35,f50,f52,dc21,dc34,-intBin,-lenF])
  replace h:=h.2 dc21
  refine Runs.exit rfl ?_
  refine Runs.seq ?_
  refine zE fun k' hk'=>?_
  obtain⟨len53,elen53,h⟩:=atm h
  have f54:=fun H=>len_list (H:=H) (fr:=false) (f:=strC) kd_25 elen53
  obtain⟨hb55,h⟩:=h
  obtain⟨v56,ev56,h⟩:=atm h
  have f57:=ib_add hb55 ev56
  simp[hh,m1_1,f54,f57,dc21,-intBin,-lenF]
  apply hk'
  refine Runs.block ?_
  refine Runs.loopW h (fun (sJ:Int) ρ H n=>match sJ with | v60=>(ρ 1=pA n1 1∧ρ 54=int v56∧ρ 55=int v60)∧H (n1,1)=some ⟨6,[bC false b]⟩) (by refine⟨?_,?_⟩<;>simp[hh,m1_1,dc21]) ?_
  clear hh m1_1
  rintro v60 ρ H n61 K h ⟨hh,m1_1⟩ IH62
  refine zE fun k' hk'=>?_
  obtain⟨c64,ec64,h⟩:=atm h
  have f65:=ib_lss (k:=.i64) ec64
  simp[hh,m1_1,f65,-intBin]
  apply hk'
  refine Runs.seq ?_
  refine Runs.ite (b:=c64) (by simp[hh,m1_1]) (fun dc64=>?_) (fun dc64=>?_)
  ·replace h:=h.1 dc64
   refine Runs.skip ?_
   refine Runs.seq ?_
   refine Runs.block ?_
   refine zE fun k' hk'=>?_
   simp[hh,m1_1,dc64]
   apply hk'
   refine zE fun k' hk'=>?_
   obtain⟨hb66,h⟩:=h
   obtain⟨r67,er67,h⟩:=atm h
   simp[hh,m1_1,dc64]
   refine RunK.callA Ty_ok (isIdle_ok b v60 hb66) e127 (.cons (argB false b) (.cons (.v _ _ _) .nil)) (by decide) (by decide) rfl (by simp[hh,m1_1,dc64]) ?_
   rintro _ rfl
   rw[← er67]
   simp[hh,m1_1,dc64]
   apply hk'
   refine Runs.ite (b:=r67) (by simp[hh,m1_1,dc64]) (fun dr67=>?_) (fun dr67=>?_)
   ·replace h:=h.1 dr67
    refine zE fun k' hk'=>?_
    simp[hh,m1_1,dc64,dr67]
    apply hk'
    exact Runs.ret1 (v:=bool false) Tryz.func71 Tryz.results71 (by simp[hh,m1_1,dc64,dr67]) (hQ _ _ _ _ (.of (.v _)) ⟨false,h,rfl⟩)
   replace h:=h.2 dr67
   refine Runs.skip ?_
   refine Runs.inBlock ?_
   refine zF fun k' hk'=>?_
   obtain⟨hb68,h⟩:=h
   obtain⟨v69,ev69,h⟩:=atm h
   have f70:=ib_add hb68 ev69
   simp[hh,m1_1,f70,dc64,dr67,-intBin]
   apply hk'
   refine IH62 (v69) _ _ _ h (by refine⟨?_,?_⟩<;>simp[hh,m1_1,dc64,dr67])
  replace h:=h.2 dc64
  refine Runs.exit rfl ?_
  refine zE fun k' hk'=>?_
  simp[hh,m1_1,dc64]
  apply hk'
  exact Runs.ret1 (v:=bool true) Tryz.func71 Tryz.results71 (by simp[hh,m1_1,dc64]) (hQ _ _ _ _ (.of (.v _)) ⟨true,h,rfl⟩)
 replace h:=hJ5
 obtain⟨len71,elen71,h⟩:=atm h
 have f72:=fun H=>len_list (H:=H) (fr:=false) (f:=Wire.cells) kd_45 elen71
 obtain⟨c73,ec73,h⟩:=atm h
 have f74:=ib_gtr (k:=.i64) ec73
 rcases Bool.eq_false_or_eq_true c73 with dc73 | dc73
 ·replace h:=h.1 dc73
  simp[hh,m1_1,f72,f74,dc73,-intBin,-lenF]
  exact fin8 (true) _ _ _ h (by refine⟨?_,?_⟩<;>simp[hh,m1_1,f72,f74,dc73,-intBin,-lenF])
 replace h:=h.2 dc73
 obtain⟨c75,ec75,h⟩:=atm h
 have f76:=ib_eql (k:=.i64) ec75
 simp[hh,m1_1,f72,f74,f76,dc73,-intBin,-lenF]
 exact fin8 (c75) _ _ _ h (by refine⟨?_,?_⟩<;>simp[hh,m1_1,f72,f74,f76,dc73,-intBin,-lenF])
theorem isRedex_ok (b:Big) (hp:isRedex_pre b):PureC Tryz.prog 71 [.agg (bC false b)] (fun r=>r=bool (isRedex b)):=(isRedex_walk b _ (isRedex_vc b hp)).mono (by rintro _ ⟨_,rfl,rfl⟩;rfl)
theorem e111:Ent Tryz.prog 111:=Ent.of Tryz.func111 (by kernel_rfl) rfl
theorem l8Solid_walk (b:Big) (Z:Bool→Prop) (h:l8Solid_wp b Z):PureC Tryz.prog 111 [.agg (bC false b)] (fun r=>∃ y:Bool,Z y∧r=bool y):=by
 unfold l8Solid_wp at h
 refine PureC.of Tryz.func111 rfl Tryz.ntmps111 (by simp) fun Q hQ=>?_
 refine Runs.cut (fun ρ H n=>ρ 0 = .agg (bC false b)) (by simp) ?_
 rintro ρ H n1 hh
 refine zE fun k' hk'=>?_
 simp[hh]
 apply hk'
 refine Runs.cut (fun ρ H n=>ρ 1=pA n1 1∧H (n1,1)=some ⟨6,[bC false b]⟩) (by refine⟨?_,?_⟩<;>simp[hh]) ?_
 clear hh
 rintro ρ H n3 ⟨hh,m1_1⟩
 refine Runs.seq ?_
 refine zE fun k' hk'=>?_
 obtain⟨J4,hJ5,hr6⟩:=h
 have fin8:∀ (sJ:Bool) (ρ:Env) (H:Heap) (n:Nat),J4 sJ→(match sJ with | b7=>(ρ 1=pA n1 1∧ρ 14=bool b7)∧H (n1,1)=some ⟨6,[bC false b]⟩)→Runs Tryz.prog 111 60 k' ρ H n Q:=by
  rintro b7 ρ H n9 h ⟨hh,m1_1⟩
  replace h:=hr6 _ h
  apply hk'
  refine Runs.ite (b:=b7) (by simp[hh,m1_1]) (fun db7=>?_) (fun db7=>?_)
  ·replace h:=h.1 db7
   refine zE fun k' hk'=>?_
   simp[hh,m1_1,db7]
   apply hk'
   exact Runs.ret1 (v:=bool false) Tryz.func111 Tryz.results111 (by simp[hh,m1_1,db7]) (hQ _ _ _ _ (.of (.v _)) ⟨false,h,rfl⟩)
  replace h:=h.2 db7
  refine Runs.skip ?_
  refine Runs.seq ?_
  refine zE fun k' hk'=>?_
  simp[hh,m1_1,db7]
  apply hk'
  refine Runs.block ?_
  refine Runs.loopW h (fun (sJ:Int) ρ H n=>match sJ with | r12=>(ρ 1=pA n1 1∧ρ 3=int r12)∧H (n1,1)=some ⟨6,[bC false b]⟩) (by refine⟨?_,?_⟩<;>simp[hh,m1_1,db7]) ?_
  clear hh m1_1
  rintro r12 ρ H n13 K h ⟨hh,m1_1⟩ IH14
  refine Runs.seq ?_
  refine zE fun k' hk'=>?_
  obtain⟨c16,ec16,h⟩:=atm h
  have f17:=ib_lss (k:=.i64) ec16
  simp[hh,m1_1,f17,-intBin]
  apply hk'
  refine Runs.ite (b:=c16) (by simp[hh,m1_1]) (fun dc16=>?_) (fun dc16=>?_)
  ·replace h:=h.1 dc16
   refine Runs.skip ?_
   refine Runs.seq ?_
   refine Runs.block ?_
   refine zE fun k' hk'=>?_
   obtain⟨J18,hJ19,hr20⟩:=h
   have fin22:∀ (sJ:Bool) (ρ:Env) (H:Heap) (n:Nat),J18 sJ→(match sJ with | b21=>(ρ 1=pA n1 1∧ρ 3=int r12∧ρ 34=bool b21)∧H (n1,1)=some ⟨6,[bC false b]⟩)→Runs Tryz.prog 111 60 k' ρ H n Q:=by
    rintro b21 ρ H n23 h ⟨hh,m1_1⟩
    replace h:=hr20 _ h
    apply hk'
    refine Runs.ite (b:=b21) (by simp[hh,m1_1]) (fun db21=>?_) (fun db21=>?_)
    ·replace h:=h.1 db21
     refine zE fun k' hk'=>?_
     simp[hh,m1_1,db21]
     apply hk'
     exact Runs.ret1 (v:=bool false) Tryz.func111 Tryz.results111 (by simp[hh,m1_1,db21]) (hQ _ _ _ _ (.of (.v _)) ⟨false,h,rfl⟩)
    replace h:=h.2 db21
    refine Runs.skip ?_
    refine Runs.inBlock ?_
    refine zF fun k' hk'=>?_
    obtain⟨hb24,h⟩:=h
    obtain⟨v25,ev25,h⟩:=atm h
    have f26:=ib_add hb24 ev25
    simp[hh,m1_1,f26,db21,-intBin]
    apply hk'
    refine IH14 (v25) _ _ _ h (by refine⟨?_,?_⟩<;>simp[hh,m1_1,db21])
   replace h:=hJ19
   obtain⟨hb27,h⟩:=h
   obtain⟨v28,ev28,h⟩:=atm h
   have f29:=ib_sub hb27 ev28
   obtain⟨hb30,h⟩:=h
   obtain⟨r31,er31,h⟩:=atm h
   simp[hh,m1_1,f29,dc16,-intBin]
   refine RunK.callA Ty_ok ((l2Kids_ok b v28 hb30).pure) e160 (.cons (argB false b) (.cons (.v _ _ _) .nil)) (by decide) (by decide) rfl (by simp[hh,m1_1,f29,dc16,-intBin]) ?_
   rintro _ rfl
   rw[← er31]
   obtain⟨len32,elen32,h⟩:=atm h
   have f33:=fun H=>len_list (H:=H) (fr:=true) (f:=intC) kd_24 elen32
   obtain⟨c34,ec34,h⟩:=atm h
   have f35:=ib_eql (k:=.i64) ec34
   rcases Bool.eq_false_or_eq_true c34 with dc34 | dc34
   ·replace h:=h.1 dc34
    simp[hh,m1_1,f29,f33,f35,dc16,dc34,-intBin,-lenF]
    exact fin22 (true) _ _ _ h (by refine⟨?_,?_⟩<;>simp[hh,m1_1,f29,f33,f35,dc16,dc34,-intBin,-lenF])
   replace h:=h.2 dc34
   obtain⟨hb36,h⟩:=h
   obtain⟨v37,ev37,h⟩:=atm h
   have hq38:=ev28.trans ev37.symm
   subst hq38
   have f39:=ib_sub hb36 ev28
   obtain⟨hb40,h⟩:=h
   obtain⟨r41,er41,h⟩:=atm h
   simp[hh,m1_1,f29,f33,f35,f39,dc16,dc34,-intBin,-lenF]
   refine RunK.callA Ty_ok ((l2Holes_ok b v28 hb40).pure) e161 (.cons (argB false b) (.cons (.v _ _ _) .nil)) (by decide) (by decide) rfl (by simp[hh,m1_1,f29,f33,f35,f39,dc16,dc34,-intBin,-lenF]) ?_
   rintro _ rfl
   rw[← er41]
   obtain⟨len42,elen42,h⟩:=atm h
   have f43:=fun H=>len_list (H:=H) (fr:=true) (f:=intC) kd_24 elen42
   obtain⟨c44,ec44,h⟩:=atm h
   have f45:=ib_gtr (k:=.i64) ec44
   simp[hh,m1_1,f29,f33,f35,f39,f43,f45,dc16,dc34,-intBin,-lenF]
   exact fin22 (c44) _ _ _ h (by refine⟨?_,?_⟩<;>simp[hh,m1_1,f29,f33,f35,f39,f43,f45,dc16,dc34,-intBin,-lenF])
  replace h:=h.2 dc16
  refine Runs.exit rfl ?_
  refine Runs.seq ?_
  refine zE fun k' hk'=>?_
  simp[hh,m1_1,dc16]
  apply hk'
  refine Runs.block ?_
  refine Runs.loopW h (fun (sJ:Int) ρ H n=>match sJ with | i48=>(ρ 1=pA n1 1∧ρ 4=int i48)∧H (n1,1)=some ⟨6,[bC false b]⟩) (by refine⟨?_,?_⟩<;>simp[hh,m1_1,dc16]) ?_
  clear hh m1_1
  rintro i48 ρ H n49 K h ⟨hh,m1_1⟩ IH50
  refine Runs.seq ?_
  refine zE fun k' hk'=>?_
  obtain⟨len52,elen52,h⟩:=atm h
  have f53:=fun H=>len_list (H:=H) (fr:=false) (f:=(GNode.cells false)) kd_44 elen52
  obtain⟨c54,ec54,h⟩:=atm h
  have f55:=ib_lss (k:=.i64) ec54
  simp[hh,m1_1,f53,f55,-intBin,-lenF]
  apply hk'
  refine Runs.ite (b:=c54) (by simp[hh,m1_1]) (fun dc54=>?_) (fun dc54=>?_)
  ·replace h:=h.1 dc54
   refine Runs.skip ?_
   refine Runs.seq ?_
   refine Runs.block ?_
   refine zE fun k' hk'=>?_
   obtain⟨hb56,h⟩:=h
   obtain⟨r57,er57,h⟩:=atm h
   simp[hh,m1_1,dc54]
   refine RunK.callA Ty_ok ((l2Holes_ok b i48 hb56).pure) e161 (.cons (argB false b) (.cons (.v _ _ _) .nil)) (by decide) (by decide) rfl (by simp[hh,m1_1,dc54]) ?_
   rintro _ rfl
   rw[← er57]
   obtain⟨len58,elen58,h⟩:=atm h
   have f59:=fun H=>len_list (H:=H) (fr:=true) (f:=intC) kd_24 elen58
   obtain⟨c60,ec60,h⟩:=atm h
   have f61:=ib_gtr (k:=.i64) ec60
   simp[hh,m1_1,f59,f61,dc54,-intBin,-lenF]
   apply hk'
   refine Runs.ite (b:=c60) (by simp[hh,m1_1,dc54]) (fun dc60=>?_) (fun dc60=>?_)
   ·replace h:=h.1 dc60
    refine zE fun k' hk'=>?_
    simp[hh,m1_1,dc54,dc60]
    apply hk'
    exact Runs.ret1 (v:=bool false) Tryz.func111 Tryz.results111 (by simp[hh,m1_1,dc54,dc60]) (hQ _ _ _ _ (.of (.v _)) ⟨false,h,rfl⟩)
   replace h:=h.2 dc60
   refine Runs.skip ?_
   refine Runs.inBlock ?_
   refine zF fun k' hk'=>?_
   obtain⟨hb62,h⟩:=h
   obtain⟨v63,ev63,h⟩:=atm h
   have f64:=ib_add hb62 ev63
   simp[hh,m1_1,f64,dc54,dc60,-intBin]
   apply hk'
   refine IH50 (v63) _ _ _ h (by refine⟨?_,?_⟩<;>simp[hh,m1_1,dc54,dc60])
  replace h:=h.2 dc54
  refine Runs.exit rfl ?_
  refine Runs.seq ?_
  refine zE fun k' hk'=>?_
  simp[hh,m1_1,dc54]
  apply hk'
  refine Runs.block ?_
  refine Runs.loopW h (fun (sJ:Int) ρ H n=>match sJ with | link67=>(ρ 1=pA n1 1∧ρ 5=int link67)∧H (n1,1)=some ⟨6,[bC false b]⟩) (by refine⟨?_,?_⟩<;>simp[hh,m1_1,dc54]) ?_
  clear hh m1_1
  rintro link67 ρ H n68 K h ⟨hh,m1_1⟩ IH69
  refine Runs.seq ?_
  refine zE fun k' hk'=>?_
  obtain⟨len71,elen71,h⟩:=atm h
  have f72:=fun H=>len_list (H:=H) (fr:=false) (f:=strC) kd_25 elen71
  obtain⟨hb73,h⟩:=h
  obtain⟨v74,ev74,h⟩:=atm h
  have f75:=ib_add hb73 ev74
  obtain⟨c76,ec76,h⟩:=atm h
  have f77:=ib_lss (k:=.i64) ec76
  simp[hh,m1_1,f72,f75,f77,-intBin,-lenF]
  apply hk'
  refine Runs.ite (b:=c76) (by simp[hh,m1_1]) (fun dc76=>?_) (fun dc76=>?_)
  ·replace h:=h.1 dc76
   refine Runs.skip ?_
   refine Runs.seq ?_
   refine Runs.block ?_
   refine zE fun k' hk'=>?_
   obtain⟨hb78,h⟩:=h
   obtain⟨r79,er79,h⟩:=atm h
   simp[hh,m1_1,dc76]
   refine RunK.callA Ty_ok (l2Idle_ok b link67 hb78) e162 (.cons (argB false b) (.cons (.v _ _ _) .nil)) (by decide) (by decide) rfl (by simp[hh,m1_1,dc76]) ?_
   rintro _ rfl
   rw[← er79]
   simp[hh,m1_1,dc76]
   apply hk'
   refine Runs.ite (b:=r79) (by simp[hh,m1_1,dc76]) (fun dr79=>?_) (fun dr79=>?_)
   ·replace h:=h.1 dr79
    refine zE fun k' hk'=>?_
    simp[hh,m1_1,dc76,dr79]
    apply hk'
    exact Runs.ret1 (v:=bool false) Tryz.func111 Tryz.results111 (by simp[hh,m1_1,dc76,dr79]) (hQ _ _ _ _ (.of (.v _)) ⟨false,h,rfl⟩)
   replace h:=h.2 dr79
   refine Runs.skip ?_
   refine Runs.inBlock ?_
   refine zF fun k' hk'=>?_
   obtain⟨hb80,h⟩:=h
   obtain⟨v81,ev81,h⟩:=atm h
   have f82:=ib_add hb80 ev81
   simp[hh,m1_1,f82,dc76,dr79,-intBin]
   apply hk'
   refine IH69 (v81) _ _ _ h (by refine⟨?_,?_⟩<;>simp[hh,m1_1,dc76,dr79])
  replace h:=h.2 dc76
  refine Runs.exit rfl ?_
  refine zE fun k' hk'=>?_
  simp[hh,m1_1,dc76]
  apply hk'
  exact Runs.ret1 (v:=bool true) Tryz.func111 Tryz.results111 (by simp[hh,m1_1,dc76]) (hQ _ _ _ _ (.of (.v _)) ⟨true,h,rfl⟩)
 replace h:=hJ5
 obtain⟨len83,elen83,h⟩:=atm h
 have f84:=fun H=>len_list (H:=H) (fr:=false) (f:=Wire.cells) kd_45 elen83
 obtain⟨c85,ec85,h⟩:=atm h
 have f86:=ib_gtr (k:=.i64) ec85
 rcases Bool.eq_false_or_eq_true c85 with dc85 | dc85
 ·replace h:=h.1 dc85
  simp[hh,m1_1,f84,f86,dc85,-intBin,-lenF]
  exact fin8 (true) _ _ _ h (by refine⟨?_,?_⟩<;>simp[hh,m1_1,f84,f86,dc85,-intBin,-lenF])
 replace h:=h.2 dc85
 obtain⟨c87,ec87,h⟩:=atm h
 have f88:=ib_eql (k:=.i64) ec87
 simp[hh,m1_1,f84,f86,f88,dc85,-intBin,-lenF]
 exact fin8 (c87) _ _ _ h (by refine⟨?_,?_⟩<;>simp[hh,m1_1,f84,f86,f88,dc85,-intBin,-lenF])
theorem l8Solid_ok (b:Big) (hp:l8Solid_pre b):PureC Tryz.prog 111 [.agg (bC false b)] (fun r=>r=bool (l8Solid b)):=(l8Solid_walk b _ (l8Solid_vc b hp)).mono (by rintro _ ⟨_,rfl,rfl⟩;rfl)
end Go.Ab.Vg
/- The abstract machine, part O: regions that draw their order and make variables. -/
namespace Go.Ab
def kindN:Op→Nat
 | .move _ | .assign _ | .pick .. | .binOp .. | .unOp .. | .convert .. | .makeFunc .. | .extract .. | .field .. | .index .. | .build ..=>0
 | .load .. | .fieldAddr .. | .indexAddr .. | .nilCheck _ | .call ⟨.builtin .len,_,_⟩=>1
 | .alloc _=>3
 | .store ..=>4
 | _=>2
def compatN (a b:Nat):Bool:=a == 0 || b == 0 || (a == 1 && (b == 1 || b == 3 || b == 4)) || (a == 3 && (b == 1 || b == 3 || b == 4)) || (a == 4 && (b == 1 || b == 3))
def idOk (n0:Nat):AVal→Prop
 | .ptr id _ _ _ | .arr id _ _ _=>id.1<n0
 | _=>True
def condN (n0:Nat) (op:Op) (ρ:Env):Prop:=
 match op with
 | .load _ a | .fieldAddr _ a _ | .nilCheck a=>idOk n0 (ρ.ev a)
 | .indexAddr _ x _=>idOk n0 (ρ.ev x)
 | .call ⟨.builtin .len,args,_⟩=>∀ x ∈ args.toList,idOk n0 (ρ.ev x)
 | .store _ a _=>∃ id g idx off,ρ.ev a = .ptr id g idx off∧n0≤id.1
 | _=>kindN op=0
theorem view_agree {n0:Nat} {H H2:Heap} (hag:∀ id:Id,id.1<n0→H2 id=H id) {p:AVal} (hp:idOk n0 p):viewOf H2 p=viewOf H p:=by
 cases p with
 | ptr id g idx off=>simp only[viewOf];rw[hag id hp]
 | _=>rfl
theorem live_agree {n0:Nat} {H H2:Heap} (hag:∀ id:Id,id.1<n0→H2 id=H id) {id:Id} {g:Nat} (hp:id.1<n0):live H2 id g=live H id g:=by
 unfold live
 rw[hag id hp]
section
variable {Ty:Types} {ρ:Env} {H H2 H':Heap} {n n2 n' n0:Nat} {d:Option Tmp} {v:AVal} {op:Op}
theorem stepF_n0 (hk:kindN op=0) (h:stepF Ty d op ρ H n=some (v,H',n')):H'=H∧n'=n∧∀ H2 n2,stepF Ty d op ρ H2 n2=some (v,H2,n2):=by
 refine stepF_k0 ?_ h
 cases op with
 | call c=>
  obtain⟨cal,args,ats⟩:=c
  cases cal with
  | builtin b=>cases b<;>simp[kindN] at hk
  | _=>simp[kindN] at hk
 | _=>first | rfl | (simp[kindN] at hk)
theorem stepF_n1 (hk:kindN op=1) (hc:condN n0 op ρ) (hag:∀ id:Id,id.1<n0→H2 id=H id) (h:stepF Ty d op ρ H n=some (v,H',n')):H'=H∧n'=n∧stepF Ty d op ρ H2 n2=some (v,H2,n2):=by
 cases op with
 | load t a=>
  simp only[stepF] at h ⊢
  rw[view_agree hag hc]
  split at h
  ·split at h
   ·cases h;exact⟨rfl,rfl,rfl⟩
   ·cases h
  ·cases h
 | fieldAddr t a f=>
  simp only[stepF] at h ⊢
  rw[view_agree hag hc]
  split at h
  ·split at h
   ·split at h
    ·cases h
    ·rename_i hz
     cases h
     exact⟨rfl,rfl,by rw[if_neg hz]⟩
   ·cases h
  ·cases h
 | nilCheck a=>
  simp only[stepF] at h ⊢
  rw[view_agree hag hc]
  split at h
  ·cases h;exact⟨rfl,rfl,rfl⟩
  ·cases h
 | indexAddr t x ix=>
  obtain⟨h1,h2,h3⟩:=map_some_eq h
  refine⟨h2,h3,?_⟩
  have:indexAddrF Ty H2 t (ρ.ev x) (ρ.ev ix)=indexAddrF Ty H t (ρ.ev x) (ρ.ev ix):=by
   simp only[condN] at hc
   unfold indexAddrF
   split
   ·generalize ρ.ev x=p at hc
    cases hkd:kd Ty t with
    | slice j=>cases p with
     | arr id g off len=>simp only[live_agree hag (show id.1<n0 from hc)]
     | _=>rfl
    | arr len j=>simp only[view_agree hag hc]
    | _=>rfl
   ·rfl
  simp only[stepF,this,h1,Option.map_some]
 | call c=>
  obtain⟨cal,args,ats⟩:=c
  cases cal with
  | builtin b=>
   cases b<;>simp[kindN] at hk
   simp only[stepF] at h ⊢
   split at h
   ·rename_i x t hx ht
    obtain⟨h1,h2,h3⟩:=map_some_eq h
    refine⟨h2,h3,?_⟩
    have hcx:idOk n0 (ρ.ev x):=hc x (by rw[hx];simp)
    have:lenF Ty H2 t (ρ.ev x)=lenF Ty H t (ρ.ev x):=by
     unfold lenF
     generalize ρ.ev x=p at hcx
     cases hkd:kd Ty t with
     | slice j=>cases p with
      | arr id g off len=>simp only[live_agree hag (show id.1<n0 from hcx)]
      | v x=>cases x<;>rfl
      | _=>rfl
     | string=>cases p with
      | v x=>cases x<;>rfl
      | _=>rfl
     | _=>rfl
    simp only[this,h1,Option.map_some]
   ·cases h
  | _=>simp[kindN] at hk
 | _=>simp[kindN] at hk
def tgt:Op→Env→Option Id
 | .store _ a _,ρ=>match ρ.ev a with
  | .ptr id _ _ _=>some id
  | _=>none
 | _,_=>none
theorem stepF_n4 (hk:kindN op=4) (hc:condN n0 op ρ) (h:stepF Ty d op ρ H n=some (v,H',n')) :
  ∃ id ob ob',tgt op ρ=some id∧n0≤id.1∧H id=some ob∧H'=H.set id ob'∧n'=n∧∀ H2 n2,H2 id=some ob→stepF Ty d op ρ H2 n2=some (v,H2.set id ob',n2):=by
 cases op with
 | store t a x=>
  obtain⟨id,g,idx,off,ha,hid⟩:=hc
  simp only[stepF] at h ⊢
  rw[ha] at h ⊢
  split at h
  ·rename_i H1 hs
   cases h
   unfold storeF at hs
   split at hs
   ·rename_i i id1 g1 idx1 off1 new e1 e2 e3
    cases e2
    split at hs
    ·rename_i o hl
     split at hs
     ·rename_i hcond
      cases hs
      obtain⟨l1,l2⟩:=live_some hl
      refine⟨id,o,o.write idx off new,by simp only[tgt,ha],hid,l1,rfl,rfl,fun H2 n2 h2=>?_⟩
      have hl2:live H2 id g=some o:=by
       unfold live
       rw[h2]
       simp[l2]
      simp only[storeF,e1,e3,hl2,if_pos hcond]
     ·cases hs
    ·cases hs
   ·cases hs
  ·cases h
 | call c=>
  obtain⟨cal,args,ats⟩:=c
  cases cal with
  | builtin b=>cases b<;>simp[kindN] at hk
  | _=>simp[kindN] at hk
 | _=>simp[kindN] at hk
end
theorem condN_loc {n0:Nat} {op:Op} {ρ:Env}:condN n0 op (loc op ρ)↔condN n0 op ρ:=by
 have h:∀ x,x ∈ op.operands→(loc op ρ).ev x=ρ.ev x:=fun x hx=>loc_ev hx
 generalize loc op ρ=ρ' at h
 cases op with
 | call c=>
  obtain⟨cal,args,ats⟩:=c
  cases cal with
  | builtin b=>
   cases b<;>try rfl
   have ha:∀ x,x ∈ args.toList→ρ'.ev x=ρ.ev x:=fun x hx=>h x (by simp[Op.operands,Call.operands];simpa using hx)
   simp only[condN]
   exact⟨fun hc x hx=>by rw[← ha x hx];exact hc x hx,fun hc x hx=>by rw[ha x hx];exact hc x hx⟩
  | _=>rfl
 | load t a=>simp only[condN];rw[h a (by simp[Op.operands])]
 | fieldAddr t a f=>simp only[condN];rw[h a (by simp[Op.operands])]
 | nilCheck a=>simp only[condN];rw[h a (by simp[Op.operands])]
 | indexAddr t x i=>simp only[condN];rw[h x (by simp[Op.operands])]
 | store t a x=>simp only[condN];rw[h a (by simp[Op.operands])]
 | _=>rfl
section
variable (Ty:Types) (ops:Array Oper) (n0:Nat)
def DoN (o:Oper) (s:AS) (R:AS→Prop):Prop:=
 (gok ops o s.1=some false∧R (s.1.put o.dst skv,s.2)) ∨
 (gok ops o s.1=some true∧kindN o.op ≠ 3∧condN n0 o.op s.1∧∃ v H',stepF Ty o.dst o.op s.1 s.2.1 s.2.2=some (v,H',s.2.2)∧R (s.1.put o.dst v,H',s.2.2)) ∨
 (gok ops o s.1=some true∧∃ t k i,o.op = .alloc t∧o.dst=some k∧Ty t=some i∧∀ a,n0≤a→(∀ j,s.2.1 (a,j)=none)→R (s.1.put (some k) (.ptr (a,k) 1 0 0),s.2.1.set (a,k) ⟨i.zero.length,[i.zero.map .v]⟩,max s.2.2 (a+1)))
def Bd (s:AS):Prop:=n0≤s.2.2∧∀ id o,s.2.1 id=some o→id.1<s.2.2
end
theorem set_comm {H:Heap} {i j:Id} (o p:Ob) (h:i ≠ j):(H.set i o).set j p=(H.set j p).set i o:=by
 funext x
 simp only[Heap.set]
 by_cases h1:x=i<;>by_cases h2:x=j<;>simp_all
section
variable {Ty:Types} {ops:Array Oper} {n0:Nat}
theorem DoN.mono {o:Oper} {s:AS} {R R':AS→Prop} (h:DoN Ty ops n0 o s R) (hR:∀ s,R s→R' s):DoN Ty ops n0 o s R':=by
 rcases h with ⟨h1,h2⟩ | ⟨h1,h2,h3,v,H',h4,h5⟩ | ⟨h1,t,k,i,h2,h3,h4,h5⟩
 ·exact .inl ⟨h1,hR _ h2⟩
 ·exact .inr (.inl ⟨h1,h2,h3,v,H',h4,hR _ h5⟩)
 ·exact .inr (.inr ⟨h1,t,k,i,h2,h3,h4,fun a ha hf=>hR _ (h5 a ha hf)⟩)
theorem kind_cond {op:Op} {ρ:Env} (h3:kindN op ≠ 3) (h:condN n0 op ρ):kindN op=0∨kindN op=1∨kindN op=4:=by
 cases op with
 | call c=>
  obtain⟨cal,args,ats⟩:=c
  cases cal with
  | builtin b=>cases b<;>first | (simp[kindN];done) | (simp[condN,kindN] at h)
  | _=>simp[condN,kindN] at h
 | buildSlice t len ps=>simp only[condN] at h;exact .inl h
 | _=>first | (simp[kindN];done) | (simp[condN,kindN] at h;done) | (simp[kindN] at h3)
theorem fresh_ex {s:AS} (hb:Bd n0 s) (j:Nat):s.2.1 (s.2.2,j)=none:=by
 cases h:s.2.1 (s.2.2,j) with
 | none=>rfl
 | some o=>have:=hb.2 _ o h;simp at this
theorem DoN.bd {o:Oper} {s:AS} {R:AS→Prop} (hb:Bd n0 s) (h:DoN Ty ops n0 o s R):DoN Ty ops n0 o s fun s'=>Bd n0 s'∧R s':=by
 rcases h with ⟨h1,h2⟩ | ⟨h1,h2,h3,v,H',h4,h5⟩ | ⟨h1,t,k,i,h2,h3,h4,h5⟩
 ·exact .inl ⟨h1,hb,h2⟩
 ·refine .inr (.inl ⟨h1,h2,h3,v,H',h4,⟨hb.1,?_⟩,h5⟩)
  rcases kind_cond h2 h3 with hk | hk | hk
  ·obtain⟨rfl,_⟩:=stepF_n0 hk h4;exact hb.2
  ·obtain⟨rfl,_⟩:=stepF_n1 (H2:=s.2.1) (n2:=s.2.2) hk h3 (fun _ _=>rfl) h4;exact hb.2
  ·obtain⟨id,ob,ob',_,_,e2,rfl,_⟩:=stepF_n4 hk h3 h4
   intro id' o' ho'
   simp only at ho' ⊢
   by_cases he:id'=id
   ·rw[he];exact hb.2 _ _ e2
   ·rw[Heap.get_set_ne _ _ he] at ho';exact hb.2 _ _ ho'
 ·refine .inr (.inr ⟨h1,t,k,i,h2,h3,h4,fun a ha hf=>⟨⟨?_,?_⟩,h5 a ha hf⟩⟩)
  ·have:=hb.1;simp only;omega
  ·intro id' o' ho'
   simp only at ho' ⊢
   by_cases he:id'=(a,k)
   ·rw[he];simp only;omega
   ·rw[Heap.get_set_ne _ _ he] at ho'
    have:=hb.2 _ _ ho'
    omega
theorem DoN.swap {oi oj:Oper} (hap:oi.apart ops oj=true) (hc:compatN (kindN oi.op) (kindN oj.op)=true) {s:AS} (hb:Bd n0 s) {R:AS→Prop} (h:DoN Ty ops n0 oi s fun si=>DoN Ty ops n0 oj si R) :
  DoN Ty ops n0 oj s fun sj=>DoN Ty ops n0 oi sj R:=by
 obtain⟨h1,h2,h3⟩:=Oper.apart_spec hap
 have sj:∀ v H n,stepF Ty oj.dst oj.op (s.1.put oi.dst v) H n=stepF Ty oj.dst oj.op s.1 H n:=fun v H n=>by rw[← stepF_loc,loc_put (looks_tmps h1),stepF_loc]
 have si:∀ v H n,stepF Ty oi.dst oi.op (s.1.put oj.dst v) H n=stepF Ty oi.dst oi.op s.1 H n:=fun v H n=>by rw[← stepF_loc,loc_put (looks_tmps h3),stepF_loc]
 have cj:∀ v,condN n0 oj.op (s.1.put oi.dst v)↔condN n0 oj.op s.1:=fun v=>by rw[← condN_loc,loc_put (looks_tmps h1),condN_loc]
 have ci:∀ v,condN n0 oi.op (s.1.put oj.dst v)↔condN n0 oi.op s.1:=fun v=>by rw[← condN_loc,loc_put (looks_tmps h3),condN_loc]
 have gj:∀ v,gok ops oj (s.1.put oi.dst v)=gok ops oj s.1:=fun v=>gok_put h1
 have gi:∀ v,gok ops oi (s.1.put oj.dst v)=gok ops oi s.1:=fun v=>gok_put h3
 have pc:∀ v u,(s.1.put oi.dst v).put oj.dst u=(s.1.put oj.dst u).put oi.dst v:=fun v u=>put_comm v u h2
 obtain⟨ρ,H,n⟩:=s
 simp only at sj si cj ci gj gi pc
 rcases h with ⟨hgi,h⟩ | ⟨hgi,hki,hci,v,Hi,hsi,h⟩ | ⟨hgi,t,k,i,hop,hd,hT,h⟩
 ·-- oi is skipped
  rcases h with ⟨hgj,h⟩ | ⟨hgj,hkj,hcj,u,Hj,hsj,h⟩ | ⟨hgj,t',k',i',hop',hd',hT',h⟩
  ·simp only[gj] at hgj
   exact .inl ⟨hgj,.inl ⟨by simpa only [gi] using hgi,by simpa only [pc] using h⟩⟩
  ·simp only[gj,cj,sj] at hgj hcj hsj
   exact .inr (.inl ⟨hgj,hkj,hcj,u,Hj,hsj,.inl ⟨by simpa only [gi] using hgi,by simpa only [pc] using h⟩⟩)
  ·simp only[gj] at hgj
   rw[hd'] at pc gi
   exact .inr (.inr ⟨hgj,t',k',i',hop',hd',hT',fun a ha hf=>.inl ⟨by simpa only [gi] using hgi,by simpa only [pc] using h a ha hf⟩⟩)
 ·-- oi runs
  rcases h with ⟨hgj,h⟩ | ⟨hgj,hkj,hcj,u,Hj,hsj,h⟩ | ⟨hgj,t',k',i',hop',hd',hT',h⟩
  ·simp only[gj] at hgj
   exact .inl ⟨hgj,.inr (.inl ⟨by simpa only [gi] using hgi,hki,by simpa only [ci] using hci,v,Hi,by simpa only [si] using hsi,by simpa only [pc] using h⟩)⟩
  ·simp only[gj,cj,sj] at hgj hcj hsj
   simp only at hsi hci hgi h
   -- both run
   have key:∃ Hj',stepF Ty oj.dst oj.op ρ H n=some (u,Hj',n)∧stepF Ty oi.dst oi.op ρ Hj' n=some (v,Hj,n):=by
    rcases kind_cond hki hci with ki | ki | ki
    ·obtain⟨rfl,_,hall⟩:=stepF_n0 ki hsi
     exact⟨Hj,hsj,hall Hj n⟩
    ·obtain⟨rfl,_,_⟩:=stepF_n1 (H2:=H) (n2:=n) ki hci (fun _ _=>rfl) hsi
     rcases kind_cond hkj hcj with kj | kj | kj
     ·obtain⟨rfl,_,hall⟩:=stepF_n0 kj hsj
      exact⟨_,hsj,hsi⟩
     ·obtain⟨rfl,_,_⟩:=stepF_n1 (H2:=Hi) (n2:=n) kj hcj (fun _ _=>rfl) hsj
      exact⟨_,hsj,hsi⟩
     ·obtain⟨id,ob,ob',_,e1,e2,rfl,_,_⟩:=stepF_n4 kj hcj hsj
      refine⟨_,hsj,?_⟩
      exact (stepF_n1 ki hci (fun id' hid=>Heap.get_set_ne _ _ (by rintro rfl;omega)) hsi).2.2
    ·obtain⟨id,ob,ob',_,e1,e2,rfl,_,hall⟩:=stepF_n4 ki hci hsi
     rcases kind_cond hkj hcj with kj | kj | kj
     ·obtain⟨rfl,_,hall'⟩:=stepF_n0 kj hsj
      exact⟨H,hall' H n,hsi⟩
     ·obtain⟨rfl,_,hst⟩:=stepF_n1 (H2:=H) (n2:=n) kj hcj (fun id' hid=>(Heap.get_set_ne _ _ (by rintro rfl;omega)).symm) hsj
      exact⟨H,hst,hsi⟩
     ·rw[ki,kj] at hc;simp[compatN] at hc
   obtain⟨Hj',k1,k2⟩:=key
   exact .inr (.inl ⟨hgj,hkj,hcj,u,Hj',k1,.inr (.inl ⟨by simpa only [gi] using hgi,hki,by simpa only [ci] using hci,v,Hj,by simpa only [si] using k2,by simpa only [pc] using h⟩)⟩)
  ·-- oj makes a variable
   simp only[gj] at hgj
   rw[hd'] at pc gi si ci
   refine .inr (.inr ⟨hgj,t',k',i',hop',hd',hT',fun a ha hf=>?_⟩)
   simp only at hsi hci hgi h hf
   rcases kind_cond hki hci with ki | ki | ki
   ·obtain⟨rfl,_,hall⟩:=stepF_n0 ki hsi
    exact .inr (.inl ⟨by simpa only [gi] using hgi,hki,by simpa only [ci] using hci,v,_,by simpa only [si] using hall _ _,by simpa only [pc] using h a ha hf⟩)
   ·obtain⟨rfl,_,_⟩:=stepF_n1 (H2:=H) (n2:=n) ki hci (fun _ _=>rfl) hsi
    have hst:=(stepF_n1 (n2:=max n (a+1)) ki hci (fun id' hid=>Heap.get_set_ne Hi ⟨i'.zero.length,[i'.zero.map .v]⟩ (i:=(a,k')) (by rintro rfl;simp only at hid;omega)) hsi).2.2
    exact .inr (.inl ⟨by simpa only [gi] using hgi,hki,by simpa only [ci] using hci,v,_,by simpa only [si] using hst,by simpa only [pc] using h a ha hf⟩)
   ·obtain⟨id,ob,ob',_,e1,e2,rfl,_,hall⟩:=stepF_n4 ki hci hsi
    have hne:id ≠ (a,k'):=by rintro rfl;rw[hf k'] at e2;cases e2
    have hf':∀ j,(H.set id ob') (a,j)=none:=fun j=>by
     rw[Heap.get_set_ne _ _ (by rintro rfl;rw[hf j] at e2;cases e2)]
     exact hf j
    have hst:=hall (H.set (a,k') ⟨i'.zero.length,[i'.zero.map .v]⟩) (max n (a+1)) (by rw[Heap.get_set_ne _ _ hne];exact e2)
    have hfin:=h a ha hf'
    rw[set_comm _ _ hne] at hfin
    exact .inr (.inl ⟨by simpa only [gi] using hgi,hki,by simpa only [ci] using hci,v,_,by simpa only [si] using hst,by simpa only [pc] using hfin⟩)
 ·-- oi makes a variable
  simp only at hgi h
  rw[hd] at pc gj sj cj
  have hf0:∀ j,H (n,j)=none:=fun j=>fresh_ex hb j
  have hn0:n0≤n:=hb.1
  have hi3:kindN oi.op=3:=by rw[hop];rfl
  rcases h n hn0 hf0 with ⟨hgj,_⟩ | ⟨hgj,hkj,hcj,u,Hj,hsj,_⟩ | ⟨hgj,t',k',i',hop',hd',hT',_⟩
  ·simp only[gj] at hgj
   refine .inl ⟨hgj,.inr (.inr ⟨by simpa only [gi] using hgi,t,k,i,hop,hd,hT,fun a ha hf=>?_⟩)⟩
   rcases h a ha hf with ⟨_,h⟩ | ⟨hg,_⟩ | ⟨hg,_⟩
   ·simpa only [pc] using h
   ·simp only[gj,hgj] at hg;cases hg
   ·simp only[gj,hgj] at hg;cases hg
  ·simp only[gj,cj,sj] at hgj hcj hsj
   have back:∀ a,n0≤a→(∀ j,H (a,j)=none)→∃ ua Ha,stepF Ty oj.dst oj.op ρ (H.set (a,k) ⟨i.zero.length,[i.zero.map .v]⟩) (max n (a+1))=some (ua,Ha,max n (a+1))∧R ((ρ.put (some k) (.ptr (a,k) 1 0 0)).put oj.dst ua,Ha,max n (a+1)):=by
    intro a ha hf
    rcases h a ha hf with ⟨hg,_⟩ | ⟨_,_,_,ua,Ha,hs,hR⟩ | ⟨_,t',_,_,hop',_⟩
    ·simp only[gj,hgj] at hg;cases hg
    ·simp only[sj] at hs
     exact⟨ua,Ha,hs,hR⟩
    ·exact absurd (by rw[hop'];rfl) hkj
   have hout:∀ (a:Nat) (id':Id),n0≤a→id'.1<n0→(H.set (a,k) ⟨i.zero.length,[i.zero.map .v]⟩) id'=H id':=fun a id' ha hid=>Heap.get_set_ne _ _ (by rintro rfl;simp only at hid;omega)
   rcases kind_cond hkj hcj with kj | kj | kj
   ·obtain⟨rfl,_,hall⟩:=stepF_n0 kj hsj
    refine .inr (.inl ⟨hgj,hkj,hcj,u,H,hall H n,.inr (.inr ⟨by simpa only [gi] using hgi,t,k,i,hop,hd,hT,fun a ha hf=>?_⟩)⟩)
    obtain⟨ua,Ha,hs,hR⟩:=back a ha hf
    rw[hall] at hs
    cases hs
    simpa only [pc] using hR
   ·have hst:=(stepF_n1 (H2:=H) (n2:=n) kj hcj (fun id' hid=>(hout n id' hn0 hid).symm) hsj).2.2
    refine .inr (.inl ⟨hgj,hkj,hcj,u,H,hst,.inr (.inr ⟨by simpa only [gi] using hgi,t,k,i,hop,hd,hT,fun a ha hf=>?_⟩)⟩)
    obtain⟨ua,Ha,hs,hR⟩:=back a ha hf
    have hst2:=(stepF_n1 (H2:=H.set (a,k) ⟨i.zero.length,[i.zero.map .v]⟩) (n2:=max n (a+1)) kj hcj (fun id' hid=>hout a id' ha hid) hst).2.2
    rw[hst2] at hs
    cases hs
    simpa only [pc] using hR
   ·obtain⟨id,o1,o1',t1,_,e2,rfl,_,hall⟩:=stepF_n4 kj hcj hsj
    obtain⟨u2,H2,hs2,_⟩:=back (n+1) (by omega) (fun j=>by
     cases hx:H (n+1,j) with
     | none=>rfl
     | some o=>have:=hb.2 (n+1,j) o hx;simp only at this;omega)
    obtain⟨id2,o2,o2',t2,_,e2',_⟩:=stepF_n4 kj hcj hs2
    rw[t1] at t2
    cases t2
    have hne:id ≠ (n,k):=by
     rintro rfl
     rw[Heap.get_set_ne _ _ (by intro he;have:=congrArg Prod.fst he;simp only at this;omega),hf0 k] at e2'
     cases e2'
    rw[Heap.get_set_ne _ _ hne] at e2
    refine .inr (.inl ⟨hgj,hkj,hcj,u,H.set id o1',hall H n e2,.inr (.inr ⟨by simpa only [gi] using hgi,t,k,i,hop,hd,hT,fun a ha hf=>?_⟩)⟩)
    simp only at hf ⊢
    have hf':∀ j,H (a,j)=none:=fun j=>by
     have:=hf j
     by_cases he:(a,j)=id
     ·rw[he,Heap.get_set_self] at this;cases this
     ·rwa [Heap.get_set_ne _ _ he] at this
    have hne':id ≠ (a,k):=by
     rintro rfl
     rw[hf' k] at e2
     cases e2
    obtain⟨ua,Ha,hs,hR⟩:=back a ha hf'
    rw[hall _ _ (by rw[Heap.get_set_ne _ _ hne'];exact e2)] at hs
    cases hs
    rw[set_comm _ _ hne',← pc]
    exact hR
  ·simp only[gj] at hgj
   rw[hd'] at pc gi
   refine .inr (.inr ⟨hgj,t',k',i',hop',hd',hT',fun b hb' hfb=>.inr (.inr ⟨by simpa only [gi] using hgi,t,k,i,hop,hd,hT,fun a ha hfa=>?_⟩)⟩)
   simp only at hfa ⊢
   have hab:a ≠ b:=by
    rintro rfl
    have:=hfa k'
    rw[Heap.get_set_self] at this
    cases this
   have hfa':∀ j,H (a,j)=none:=fun j=>by
    have:=hfa j
    rwa [Heap.get_set_ne _ _ (by intro he;exact hab (congrArg Prod.fst he))] at this
   rcases h a ha hfa' with ⟨hg,_⟩ | ⟨_,hk3,_⟩ | ⟨_,t2,k2,i2,hop2,hd2,hT2,h2'⟩
   ·simp only[gj,hgj] at hg;cases hg
   ·exact absurd (by rw[hop'];rfl) hk3
   ·rw[hop'] at hop2
    cases hop2
    rw[hd'] at hd2
    cases hd2
    rw[hT'] at hT2
    cases hT2
    have hfin:=h2' b hb' (fun j=>by simp only;rw[Heap.get_set_ne _ _ (by intro he;exact hab (congrArg Prod.fst he).symm)];exact hfb j)
    simp only at hfin
    rw[set_comm _ _ (by intro he;exact hab (congrArg Prod.fst he)),pc] at hfin
    have hm:max (max n (b+1)) (a+1)=max (max n (a+1)) (b+1):=by omega
    rw[hm]
    exact hfin
theorem DoN.some_ {o:Oper} {s:AS} {q:Prop} (hb:Bd n0 s) (h:DoN Ty ops n0 o s fun _=>q):q:=by
 rcases h with ⟨_,h⟩ | ⟨_,_,_,_,_,_,h⟩ | ⟨_,_,_,_,_,_,_,h⟩
 ·exact h
 ·exact h
 ·exact h s.2.2 hb.1 (fun j=>fresh_ex hb j)
variable (Ty ops n0) in
def AnyN (R:AS→Prop):Nat→Array Bool→AS→Prop
 | 0,listed,s=>Region.ready .any ops listed=[]∧R s
 | fuel+1,listed,s=>(Region.ready .any ops listed=[]→R s)∧∀ i ∈ Region.ready .any ops listed,∃ o,ops[i]?=some o∧DoN Ty ops n0 o s (AnyN R fuel (listed.setIfInBounds i true))
variable (Ty ops n0) in
def RunN (R:AS→Prop):List Oper→AS→Prop
 | [],s=>R s
 | o::l,s=>DoN Ty ops n0 o s (RunN R l)
theorem AnyN.first {R:AS→Prop} {i:Nat} {oi:Oper} (hi:ops[i]?=some oi) (D:List Nat) (hD:∀ j oj,ops[j]?=some oj→j ∈ D→j ≠ i→∃ e ∈ oj.after,Region.binds .any e=true∧e.on ∈ D):∀ (fuel:Nat) (listed:Array Bool) (s:AS),Bd n0 s →
  (∀ j ∈ D,listed.getD j true=false)→(∀ j oj,ops[j]?=some oj→j ≠ i→listed.getD j true=false→j ∉ D→oi.apart ops oj=true∧compatN (kindN oi.op) (kindN oj.op)=true) →
  i ∈ Region.ready .any ops listed→DoN Ty ops n0 oi s (AnyN Ty ops n0 R fuel (listed.setIfInBounds i true))→AnyN Ty ops n0 R (fuel+1) listed s:=by
 intro fuel
 induction fuel with
 | zero=>
  intro listed s hb _ _ hr H
  refine⟨fun h=>(by rw[h] at hr;cases hr),fun j hj=>?_⟩
  by_cases hji:j=i
  ·subst hji;exact⟨oi,hi,H⟩
  ·have:=ready_mono hj hji
   have h0:Region.ready .any ops (listed.setIfInBounds i true)=[]:=DoN.some_ hb (H.mono fun s' h=>h.1)
   rw[h0] at this
   cases this
 | succ fuel ih=>
  intro listed s hb hinv hfree hr H
  refine⟨fun h=>(by rw[h] at hr;cases hr),fun j hj=>?_⟩
  by_cases hji:j=i
  ·subst hji;exact⟨oi,hi,H⟩
  ·obtain⟨hjun,oj,hoj,hall⟩:=mem_ready.1 hj
   have hnot:j ∉ D:=fun hd=>by
    obtain⟨e,he,hb',hed⟩:=hD j oj hoj hd hji
    have h1:=hall e he hb'
    have h0:=hinv e.on hed
    rcases Nat.lt_or_ge e.on listed.size with h' | h'
    ·simp[h'] at h0 h1;rw[h0] at h1;cases h1
    ·simp[Array.getElem?_eq_none h'] at h1
   obtain⟨hap,hco⟩:=hfree j oj hoj hji hjun hnot
   have H2:DoN Ty ops n0 oi s fun s'=>DoN Ty ops n0 oj s' (AnyN Ty ops n0 R fuel ((listed.setIfInBounds i true).setIfInBounds j true)):=H.mono fun s' h=>by
    obtain⟨oj',hoj',h'⟩:=h.2 j (ready_mono hj hji)
    rw[hoj] at hoj'
    cases hoj'
    exact h'
   refine⟨oj,hoj,(DoN.bd hb (DoN.swap hap hco hb H2)).mono fun sj ⟨hbj,hsj⟩=>ih (listed.setIfInBounds j true) sj hbj (fun k hk=>?_) (fun k ok hk hki hun hno=>?_) (ready_mono hr (Ne.symm hji)) ?_⟩
   ·have hjk:j ≠ k:=fun he=>hnot (he ▸ hk)
    rw[getD_set_ne true hjk]
    exact hinv k hk
   ·refine hfree k ok hk hki ?_ hno
    by_cases hjk:j=k
    ·subst hjk;exact hjun
    ·rw[getD_set_ne true hjk] at hun;exact hun
   ·rw[Array.setIfInBounds_comm _ _ hji]
    exact hsj
variable (ops) in
def freeN (listed:Array Bool) (i:Nat):Bool:=
 match ops[i]? with
 | none=>false
 | some oi=>((behind ops i).all fun j => !(listed.getD j true) && match ops[j]? with
   | none=>true
   | some oj=>j == i || oj.after.any (fun e=>Region.binds .any e && (behind ops i).contains e.on)) &&
  (List.range ops.size).all fun j=>match ops[j]? with
  | none=>true
  | some oj=>j == i || listed.getD j true || (behind ops i).contains j || (oi.apart ops oj && compatN (kindN oi.op) (kindN oj.op))
variable (ops) in
def lexN:Nat→Nat→Array Bool→Bool
 | 0,_,listed=>(Region.ready .any ops listed).isEmpty
 | fuel+1,k,listed=>(Region.ready .any ops listed).contains k && freeN ops listed k && lexN fuel (k+1) (listed.setIfInBounds k true)
variable (ops) in
def drawN:Bool:=lexN ops ops.size 0 (Array.replicate ops.size false)
theorem freeN_spec {listed:Array Bool} {i:Nat} {oi:Oper} (hi:ops[i]?=some oi) (h:freeN ops listed i=true) :
  (∀ j oj,ops[j]?=some oj→j ∈ behind ops i→j ≠ i→∃ e ∈ oj.after,Region.binds .any e=true∧e.on ∈ behind ops i)∧(∀ j ∈ behind ops i,listed.getD j true=false) ∧
  ∀ j oj,ops[j]?=some oj→j ≠ i→listed.getD j true=false→j ∉ behind ops i→oi.apart ops oj=true∧compatN (kindN oi.op) (kindN oj.op)=true:=by
 unfold freeN at h
 simp only[hi,Bool.and_eq_true] at h
 obtain⟨h1,h2⟩:=h
 refine⟨fun j oj hj hd hji=>?_,fun j hd=>?_,fun j oj hj hji hun hno=>?_⟩
 ·have:=List.all_eq_true.1 h1 j hd
  simp only[hj,Bool.and_eq_true,Bool.or_eq_true,beq_iff_eq] at this
  rcases this.2 with h3 | h3
  ·exact absurd h3 hji
  ·obtain⟨e,he,hb⟩:=Array.any_eq_true'.1 h3
   simp only[Bool.and_eq_true,List.contains_iff_mem] at hb
   exact⟨e,he,hb.1,hb.2⟩
 ·have:=List.all_eq_true.1 h1 j hd
  simp only[Bool.and_eq_true,Bool.not_eq_true'] at this
  exact this.1
 ·have hlt:j<ops.size:=(Array.getElem?_eq_some_iff.1 hj).1
  have:=List.all_eq_true.1 h2 j (List.mem_range.2 hlt)
  simp only[hj,hun,Bool.or_false,Bool.or_eq_true,beq_iff_eq,Bool.and_eq_true,List.contains_iff_mem] at this
  rcases this with (h1 | h1) | h1
  ·exact absurd h1 hji
  ·exact absurd h1 hno
  ·exact h1
theorem AnyN.lex {R:AS→Prop}:∀ (l:List Oper) (k:Nat) (listed:Array Bool) (s:AS),Bd n0 s→(∀ j:Nat,l[j]?=ops[k+j]?)→lexN ops l.length k listed=true→RunN Ty ops n0 R l s→AnyN Ty ops n0 R l.length listed s
 | [],_,_,_,_,_,hB,h=>⟨by simpa[lexN] using hB,h⟩
 | o::l,k,listed,s,hb,hl,hB,h=>by
  have h0:ops[k]?=some o:=by simpa using (hl 0).symm
  simp only[List.length_cons,lexN,Bool.and_eq_true] at hB
  obtain⟨⟨hr,hf⟩,hB'⟩:=hB
  obtain⟨f1,f2,f3⟩:=freeN_spec h0 hf
  exact AnyN.first h0 (behind ops k) f1 l.length listed s hb f2 f3 (by simpa using hr)
   ((DoN.bd hb h).mono fun s' ⟨hb',h'⟩=>AnyN.lex l (k+1) _ s' hb' (fun j=>by have:=hl (j+1);simpa[Nat.add_assoc,Nat.add_comm 1 j] using this) hB' h')
end
section
variable {P:Program} {N:Nat} {Ty:Types} {ops:Array Oper} {n0:Nat}
theorem AnyN.sound (hT:TypesOk P Ty) {R:AS→Prop} (hN:ops.toList.all (fun o=>dok N o.dst)=true) {Q:Exit→Act→World→Prop} {c0:Ctx} (hQ:∀ a c ρ,Keeps c0 c→Good c→RelE N c ρ a→R (ρ,c.H,c.n)→Q .normal a c.w) :
  ∀ (fuel:Nat) (listed:Array Bool) (ρ:Env) (c:Ctx) (a:Act),n0≤c.n→Keeps c0 c→Good c→RelE N c ρ a→AnyN Ty ops n0 R fuel listed (ρ,c.H,c.n)→wpAny P .any ops Q fuel listed a c.w
 | 0,_,_,_,_,_,hk,g,r,h=>⟨h.1,hQ _ _ _ hk g r h.2⟩
 | fuel+1,listed,ρ,c,a,hn0,hk,g,r,h=>by
  refine⟨fun h0=>hQ _ _ _ hk g r (h.1 h0),fun i hi=>?_⟩
  obtain⟨o,ho,hst⟩:=h.2 i hi
  have hd:dok N o.dst=true:=List.all_eq_true.1 hN o (by rw[← Array.getElem?_toList] at ho;exact List.mem_of_getElem? ho)
  unfold wpOp
  simp only[ho]
  rcases hst with ⟨hg,hrest⟩ | ⟨hg,hk3,hc,v,H',hs,hrest⟩ | ⟨hg,t,k,i',hop,hdst,hTy,hrest⟩
  ·rw[if_neg (by rw[wanted_of_gok r hN hg];simp)]
   exact AnyN.sound hT hN hQ fuel _ _ c _ hn0 hk g (r.put hd (.v _)) hrest
  ·rw[if_pos (wanted_of_gok r hN hg)]
   simp only at hs hrest
   refine .inl (stepF_ok hT hs c a rfl rfl g r _ _ ?_)
   rintro v1 x c' ⟨rfl,hH,hn⟩ hrep hgood hkeep
   exact AnyN.sound hT hN hQ fuel _ _ c' _ (by rw[hn];exact hn0) (hk.trans hkeep) hgood ((r.keeps hkeep).put hd hrep) (by rw[hH,hn];exact hrest)
  ·rw[if_pos (wanted_of_gok r hN hg)]
   have hs:stepF Ty o.dst o.op ρ c.H c.n=some (.ptr (c.n,k) 1 0 0,c.H.set (c.n,k) ⟨i'.zero.length,[i'.zero.map .v]⟩,c.n+1):=by rw[hop,hdst];simp only[stepF,hTy]
   refine .inl (stepF_ok hT hs c a rfl rfl g r _ _ ?_)
   rintro v1 x c' ⟨rfl,hH,hn⟩ hrep hgood hkeep
   have hr:=hrest c.n hn0 (fun j=>by
    show c.H (c.n,j)=none
    cases hx:c.H (c.n,j) with
    | none=>rfl
    | some ob=>have:=g.stamp _ _ hx;simp only at this;omega)
   have hm:max c.n (c.n+1)=c.n+1:=by omega
   simp only[hm] at hr
   rw[← hdst] at hr
   exact AnyN.sound hT hN hQ fuel _ _ c' _ (by rw[hn];omega) (hk.trans hkeep) hgood ((r.keeps hkeep).put hd hrep) (by rw[hH,hn];exact hr)
end
section
variable {P:Program} {f:FuncId} {N:Nat} {k:List Item} {ρ:Env} {H:Heap} {n:Nat} {Q:AVal→Heap→Nat→Prop} {Ty:Types}
theorem Runs.drawN (hT:TypesOk P Ty) {id:Nat} {ops:List Oper} (hm:P.follows .mixedOrders=true) (hN:ops.all (fun o=>dok N o.dst)=true) (hB:drawN ops.toArray=true)
  (h:RunN Ty ops.toArray n (fun s=>Runs P f N k s.1 s.2.1 s.2.2 Q) ops (ρ,H,n)):Runs P f N (.code (.region id ops.toArray true)::k) ρ H n Q:=by
 intro c a hH hn g r b cs hf hk
 subst hH
 subst hn
 obtain⟨d1,d2⟩:=draw_keeps g
 have hany:=AnyN.lex (Ty:=Ty) (ops:=ops.toArray) (n0:=c.n) ops 0 (Array.replicate ops.toArray.size false) (ρ,c.H,c.n) ⟨Nat.le_refl _,fun id o ho=>g.stamp id o ho⟩ (by simp) (by simpa[Ab.drawN] using hB) h
 have hw:(Code.region id ops.toArray true).wp P (fun e a' w'=>e = .normal∧∃ c' ρ',c'.w=w'∧Keeps c c'∧Good c'∧RelE N c' ρ' a'∧Runs P f N k ρ' c'.H c'.n Q) a c.w:=by
  refine wp_region_any hm ?_
  have:=AnyN.sound (P:=P) (N:=N) (Ty:=Ty) (ops:=ops.toArray) (n0:=c.n) (c0:=c) hT (by simpa using hN) (Q:=fun e a' w'=>e = .normal∧∃ c' ρ',c'.w=w'∧Keeps c c'∧Good c'∧RelE N c' ρ' a'∧Runs P f N k ρ' c'.H c'.n Q)
   (R:=fun s=>Runs P f N k s.1 s.2.1 s.2.2 Q) (fun a' c' ρ' hk' hg' hr' hR=>⟨rfl,c',ρ',rfl,hk',hg',hr',hR⟩) ops.length (Array.replicate ops.toArray.size false) ρ { c with w:={ c.w with drawn:=c.w.drawn+1 } } a (Nat.le_refl _) d1 d2 (r.keeps d1) hany
  simpa using this
 obtain⟨e,a',w',⟨rfl,c',ρ',rfl,hk',hg',hr',hR⟩,harr⟩:=hw b k cs
 obtain⟨x,v,c'',fr,q,hr,hg,hke,hst,rest⟩:=hR c' a' rfl rfl hg' hr' b cs hf hk
 exact⟨x,v,c'',fr,q,hr,hg,hk'.trans hke,Steps.trans harr hst,rest⟩
end
def newF (Ty:Types) (d:Option Nat):Op→Option (Nat × Ob)
 | .alloc t=>match d,Ty t with
  | some k,some i=>some (k,⟨i.zero.length,[i.zero.map .v]⟩)
  | _,_=>none
 | _=>none
section
variable (P:Program) (f:FuncId) (N:Nat) (k:List Item) (Q:AVal→Heap→Nat→Prop) (Ty:Types) (ops:Array Oper) (n0:Nat)
def evalN:List Oper→Env→Heap→Nat→Prop
 | [],ρ,H,n=>Runs P f N k ρ H n Q
 | o::l,ρ,H,n=>
  match gok ops o ρ with
  | some false=>evalN l (ρ.put o.dst skv) H n
  | some true=>match newF Ty o.dst o.op with
   | some (j,ob)=>∀ a,n0≤a→(∀ q,H (a,q)=none)→evalN l (ρ.put (some j) (.ptr (a,j) 1 0 0)) (H.set (a,j) ob) (max n (a+1))
   | none=>match stepF Ty o.dst o.op ρ H n with
    | some (v,H',_)=>condN n0 o.op ρ∧evalN l (ρ.put o.dst v) H' n
    | none=>False
  | none=>False
end
section
variable {P:Program} {f:FuncId} {N:Nat} {k:List Item} {ρ:Env} {H:Heap} {n:Nat} {Q:AVal→Heap→Nat→Prop} {Ty:Types} {ops:Array Oper} {n0:Nat}
theorem newF_none {d:Option Nat} {op:Op} {v:AVal} {H':Heap} {n':Nat} (h:newF Ty d op=none) (hs:stepF Ty d op ρ H n=some (v,H',n')):kindN op ≠ 3:=by
 cases op with
 | alloc t=>
  simp only[stepF] at hs
  split at hs
  ·rename_i k' i hi
   simp only[newF,hi] at h
   cases h
  ·cases hs
 | call c=>
  obtain⟨cal,args,ats⟩:=c
  cases cal with
  | builtin b=>cases b<;>simp[kindN]
  | _=>simp[kindN]
 | buildSlice t len ps=>
  unfold kindN
  simp only
  by_cases h0:len=0<;>simp[h0]
 | _=>simp[kindN]
theorem evalN_sound:∀ (l:List Oper) (ρ:Env) (H:Heap) (n:Nat),evalN P f N k Q Ty ops n0 l ρ H n→RunN Ty ops n0 (fun s=>Runs P f N k s.1 s.2.1 s.2.2 Q) l (ρ,H,n)
 | [],_,_,_,h=>h
 | o::l,ρ,H,n,h=>by
  rw[evalN] at h
  split at h
  ·rename_i hg
   exact .inl ⟨hg,evalN_sound l _ _ _ h⟩
  ·rename_i hg
   split at h
   ·rename_i j ob hnew
    unfold newF at hnew
    split at hnew
    ·rename_i t hop
     split at hnew
     ·rename_i k' i hdst hTy
      cases hnew
      exact .inr (.inr ⟨hg,t,_,_,hop,hdst,hTy,fun a ha hf=>evalN_sound l _ _ _ (h a ha hf)⟩)
     ·cases hnew
    ·cases hnew
   ·rename_i hnew
    split at h
    ·rename_i v H' n' hs
     have hk3:=newF_none hnew hs
     obtain⟨hc,h⟩:=h
     have hn:n'=n:=by
      rcases kind_cond hk3 hc with hk | hk | hk
      ·exact (stepF_n0 hk hs).2.1
      ·exact (stepF_n1 (H2:=H) (n2:=n) hk hc (fun _ _=>rfl) hs).2.1
      ·obtain⟨_,_,_,_,_,_,_,e,_⟩:=stepF_n4 hk hc hs;exact e
     subst hn
     exact .inr (.inl ⟨hg,hk3,hc,v,H',hs,evalN_sound l _ _ _ h⟩)
    ·exact h.elim
  ·exact h.elim
@[simp] theorem evalN_nil : evalN P f N k Q Ty ops n0 [] ρ H n = Runs P f N k ρ H n Q := by rw [evalN]
@[simp] theorem evalN_cons {o : Oper} {l : List Oper} : evalN P f N k Q Ty ops n0 (o :: l) ρ H n = (match gok ops o ρ with
  | some false=>evalN P f N k Q Ty ops n0 l (ρ.put o.dst skv) H n
  | some true=>match newF Ty o.dst o.op with
   | some (j,ob)=>∀ a,n0≤a→(∀ q,H (a,q)=none)→evalN P f N k Q Ty ops n0 l (ρ.put (some j) (.ptr (a,j) 1 0 0)) (H.set (a,j) ob) (max n (a+1))
   | none=>match stepF Ty o.dst o.op ρ H n with
    | some (v,H',_)=>condN n0 o.op ρ∧evalN P f N k Q Ty ops n0 l (ρ.put o.dst v) H' n
    | none=>False
  | none=>False):=by rw[evalN]
theorem Runs.seqN (hT:TypesOk P Ty) {id:Nat} {ops:List Oper} {y:Code} (hm:P.follows .mixedOrders=true) (hN:ops.all (fun o=>dok N o.dst)=true) (hB:Ab.drawN ops.toArray=true)
  (h:∀ k':List Item,(∀ ρ H n,Runs P f N (.code y::k) ρ H n Q→Runs P f N k' ρ H n Q)→evalN P f N k' Q Ty ops.toArray n ops ρ H n):Runs P f N (.code (.seq (.region id ops.toArray true) y)::k) ρ H n Q:=
 Runs.seq (Runs.drawN hT hm hN hB (evalN_sound ops _ _ _ (h (.code y::k) fun _ _ _ h=>h)))
end
attribute [simp] gok condN idOk newF kindN
end Go.Ab
