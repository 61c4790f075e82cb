/- Merged texts (9 of 11) of the proof that ends in Fpy: L2kw Ddw Gm Gn Go Wb Wc Y Gp Gq Gr. -/
import Derived.Test.YtiokiodmcghlhaaDoorAbQfp8
/- Walks by program for YtiokiodmcghlhaaDoorAbL2k. -/
namespace Go.Ab.Vg
open Go.Proofs
set_option maxRecDepth 100000
set_option linter.unusedSimpArgs false
set_option linter.unusedVariables false
attribute [local simp] GNode.cells Wire.cells intC sliceC strC bC pA
theorem e39:Ent Tryd.prog 39:=Ent.of Tryd.func39 (by kernel_rfl) rfl
theorem l2Kids_walk (b:Big) (parent:Int) (Z:(List Int)→Prop) (h:l2Kids_wp b parent Z):OwnS Tryd.prog 39 [.agg (bC false b),int parent] (.s [.c]) (fun r=>∃ y:List Int,Z y∧r = .list true (y.map intC)):=by
 unfold l2Kids_wp at h
 have sp:Sep noHeap 0 [] []:=Sep.nil (by simp)
 refine OwnS.of Tryd.func39 rfl Tryd.ntmps39 (by simp) fun Q hQ=>?_
 refine Runs.cut (fun ρ H n=>(ρ 0 = .agg (bC false b)∧ρ 1=int parent)∧Sep H n [] []) (by refine⟨by simp ,sp⟩) ?_
 rintro ρ H n1 ⟨hh,sp⟩
 refine zE fun k' hk'=>?_
 simp[hh]
 apply hk'
 refine Runs.cut (fun ρ H n=>((ρ 1=int parent∧ρ 2=pA n1 2)∧H (n1,2)=some ⟨6,[bC false b]⟩)∧Sep H n [] [(n1,2)]) (by refine⟨by simp[hh],sp.var⟩) ?_
 clear hh
 rintro ρ H n3 ⟨⟨hh,m2_1⟩,sp⟩
 refine zE fun k' hk'=>?_
 simp[hh,m2_1]
 apply hk'
 refine Runs.cut (fun ρ H n=>∃ (v5:AVal),((ρ 1=int parent∧ρ 2=pA n1 2∧ρ 5=v5)∧H (n1,2)=some ⟨6,[bC false b]⟩)∧Sep H n [oI v5 ([]:List Int)] [(n1,2)]) (by refine⟨.arr (n3,7) 0 0 0,by simp[hh,m2_1],(Sep.addEmpty (l:=[.c]) sp)⟩) ?_
 clear hh m2_1
 rintro ρ H n6 ⟨v5,⟨hh,m2_1⟩,sp⟩
 refine Runs.seq ?_
 refine zE fun k' hk'=>?_
 simp[hh,m2_1]
 apply hk'
 refine Runs.block ?_
 refine Runs.loopW h (fun (sJ:Int × (List Int)) ρ H n=>match sJ with | (i14,l15)=>∃ (v16:AVal),((ρ 1=int parent∧ρ 2=pA n1 2∧ρ 5=v16∧ρ 6=int i14)∧H (n1,2)=some ⟨6,[bC false b]⟩)∧Sep H n [oI v16 l15] [(n1,2)]) (by refine⟨v5,by simp[hh,m2_1],sp⟩) ?_
 clear hh m2_1
 rintro⟨i14,l15⟩ ρ H n17 K h ⟨v16,⟨hh,m2_1⟩,sp⟩ IH18
 refine Runs.seq ?_
 refine zE fun k' hk'=>?_
 obtain⟨len20,elen20,h⟩:=atm h
 have f21:=fun H=>len_list (H:=H) (fr:=false) (f:=(GNode.cells false)) kd_25 elen20
 obtain⟨c22,ec22,h⟩:=atm h
 have f23:=ib_lss (k:=.i64) ec22
 simp[hh,m2_1,f21,f23,-intBin,-lenF]
 apply hk'
 refine Runs.ite (b:=c22) (by simp[hh,m2_1]) (fun dc22=>?_) (fun dc22=>?_)
 ·replace h:=h.1 dc22
  refine Runs.skip ?_
  refine Runs.seq ?_
  refine Runs.block ?_
  refine zE fun k' hk'=>?_
  obtain⟨hb24,h⟩:=h
  obtain⟨x25,ex25,h⟩:=atm h
  have f26:=fun H=>ix_list (H:=H) (fr:=false) (f:=(GNode.cells false)) (k:=.i64) kd_25 (fun _=>rfl) hb24 ex25
  obtain⟨c27,ec27,h⟩:=atm h
  have f28:=ib_eql (k:=.i64) ec27
  simp[hh,m2_1,f26,f28,dc22,-indexAddrF,-intBin]
  apply hk'
  refine Runs.ite (b:=c27) (by simp[hh,m2_1,dc22]) (fun dc27=>?_) (fun dc27=>?_)
  ·replace h:=h.1 dc27
   refine zF fun k' hk'=>?_
   obtain⟨hb29,h⟩:=h
   obtain⟨l30,el30,h⟩:=atm h
   simp[hh,m2_1,dc22,dc27,-appendF]
   refine bind_append [] [] [[int i14]] [intC i14] sp kd_26 (by simp) (by simp) (by simp) (by simp[-one1,o1x]) (rows_one (Fill.v _ Fill.nil)) (by simp) (by simpa using hb29) ?_
   rintro v31 H32 n33 sp hfr34 hle35
   replace sp:Sep H32 n33 [oI v31 l30] [(n1,2)]:=Sep.ap el30 sp
   have m2_1:=(hfr34 _ (by simp)).trans m2_1
   simp[hh,m2_1,dc22,dc27]
   apply hk'
   refine Runs.cut (fun ρ H n=>∃ (v37:AVal),((ρ 1=int parent∧ρ 2=pA n1 2∧ρ 5=v37∧ρ 6=int i14)∧H (n1,2)=some ⟨6,[bC false b]⟩)∧Sep H n [oI v37 l30] [(n1,2)]) (by refine⟨v31,by simp[hh,m2_1,dc22,dc27],sp⟩) ?_
   clear hh m2_1
   rintro ρ H n38 ⟨v37,⟨hh,m2_1⟩,sp⟩
   refine Runs.inBlock ?_
   refine zF fun k' hk'=>?_
   obtain⟨hb39,h⟩:=h
   obtain⟨v40,ev40,h⟩:=atm h
   have f41:=ib_add hb39 ev40
   simp[hh,m2_1,f41,-intBin]
   apply hk'
   refine IH18 (v40,l30) _ _ _ h (by refine⟨v37,by simp[hh,m2_1],sp⟩)
  replace h:=h.2 dc27
  refine Runs.skip ?_
  refine Runs.inBlock ?_
  refine zF fun k' hk'=>?_
  obtain⟨hb42,h⟩:=h
  obtain⟨v43,ev43,h⟩:=atm h
  have f44:=ib_add hb42 ev43
  simp[hh,m2_1,f44,dc22,dc27,-intBin]
  apply hk'
  refine Runs.cut (fun ρ H n=>∃ (v45:AVal),((ρ 1=int parent∧ρ 2=pA n1 2∧ρ 5=v45∧ρ 6=int v43)∧H (n1,2)=some ⟨6,[bC false b]⟩)∧Sep H n [oI v45 l15] [(n1,2)]) (by refine⟨v16,by simp[hh,m2_1,f44,dc22,dc27,-intBin],sp⟩) ?_
  clear hh m2_1
  rintro ρ H n46 ⟨v45,⟨hh,m2_1⟩,sp⟩
  refine IH18 (v43,l15) _ _ _ h (by refine⟨v45,by simp[hh,m2_1],sp⟩)
 replace h:=h.2 dc22
 refine Runs.exit rfl ?_
 refine zE fun k' hk'=>?_
 simp[hh,m2_1,dc22]
 apply hk'
 exact Runs.ret1 (v:=v16) Tryd.func39 Tryd.results39 (by simp[hh,m2_1,dc22]) (hQ _ _ _ _ (Sep.sub (ids':=[]) sp (by simp)) ⟨l15,h,rfl⟩)
theorem l2Kids_ok (b:Big) (parent:Int) (hp:l2Kids_pre b parent):OwnS Tryd.prog 39 [.agg (bC false b),int parent] (.s [.c]) (fun r=>r = .list true ((l2Kids b parent).map intC)):=(l2Kids_walk b parent _ (l2Kids_vc b parent hp)).mono (by rintro _ ⟨_,rfl,rfl⟩;rfl)
theorem e40:Ent Tryd.prog 40:=Ent.of Tryd.func40 (by kernel_rfl) rfl
theorem l2Holes_walk (b:Big) (parent:Int) (Z:(List Int)→Prop) (h:l2Holes_wp b parent Z):OwnS Tryd.prog 40 [.agg (bC false b),int parent] (.s [.c]) (fun r=>∃ y:List Int,Z y∧r = .list true (y.map intC)):=by
 unfold l2Holes_wp at h
 have sp:Sep noHeap 0 [] []:=Sep.nil (by simp)
 refine OwnS.of Tryd.func40 rfl Tryd.ntmps40 (by simp) fun Q hQ=>?_
 refine Runs.cut (fun ρ H n=>(ρ 0 = .agg (bC false b)∧ρ 1=int parent)∧Sep H n [] []) (by refine⟨by simp ,sp⟩) ?_
 rintro ρ H n1 ⟨hh,sp⟩
 refine zE fun k' hk'=>?_
 simp[hh]
 apply hk'
 refine Runs.cut (fun ρ H n=>((ρ 1=int parent∧ρ 2=pA n1 2)∧H (n1,2)=some ⟨6,[bC false b]⟩)∧Sep H n [] [(n1,2)]) (by refine⟨by simp[hh],sp.var⟩) ?_
 clear hh
 rintro ρ H n3 ⟨⟨hh,m2_1⟩,sp⟩
 refine zE fun k' hk'=>?_
 simp[hh,m2_1]
 apply hk'
 refine Runs.cut (fun ρ H n=>∃ (v5:AVal),((ρ 1=int parent∧ρ 2=pA n1 2∧ρ 5=v5)∧H (n1,2)=some ⟨6,[bC false b]⟩)∧Sep H n [oI v5 ([]:List Int)] [(n1,2)]) (by refine⟨.arr (n3,7) 0 0 0,by simp[hh,m2_1],(Sep.addEmpty (l:=[.c]) sp)⟩) ?_
 clear hh m2_1
 rintro ρ H n6 ⟨v5,⟨hh,m2_1⟩,sp⟩
 refine Runs.seq ?_
 refine zE fun k' hk'=>?_
 simp[hh,m2_1]
 apply hk'
 refine Runs.block ?_
 refine Runs.loopW h (fun (sJ:Int × (List Int)) ρ H n=>match sJ with | (i14,l15)=>∃ (v16:AVal),((ρ 1=int parent∧ρ 2=pA n1 2∧ρ 5=v16∧ρ 6=int i14)∧H (n1,2)=some ⟨6,[bC false b]⟩)∧Sep H n [oI v16 l15] [(n1,2)]) (by refine⟨v5,by simp[hh,m2_1],sp⟩) ?_
 clear hh m2_1
 rintro⟨i14,l15⟩ ρ H n17 K h ⟨v16,⟨hh,m2_1⟩,sp⟩ IH18
 refine Runs.seq ?_
 refine zE fun k' hk'=>?_
 obtain⟨len20,elen20,h⟩:=atm h
 have f21:=fun H=>len_list (H:=H) (fr:=false) (f:=intC) kd_26 elen20
 obtain⟨c22,ec22,h⟩:=atm h
 have f23:=ib_lss (k:=.i64) ec22
 simp[hh,m2_1,f21,f23,-intBin,-lenF]
 apply hk'
 refine Runs.ite (b:=c22) (by simp[hh,m2_1]) (fun dc22=>?_) (fun dc22=>?_)
 ·replace h:=h.1 dc22
  refine Runs.skip ?_
  refine Runs.seq ?_
  refine Runs.block ?_
  refine zE fun k' hk'=>?_
  obtain⟨hb24,h⟩:=h
  obtain⟨x25,ex25,h⟩:=atm h
  have f26:=fun H=>ix_list (H:=H) (fr:=false) (f:=intC) (k:=.i64) kd_26 (fun _=>rfl) hb24 ex25
  obtain⟨c27,ec27,h⟩:=atm h
  have f28:=ib_eql (k:=.i64) ec27
  simp[hh,m2_1,f26,f28,dc22,-indexAddrF,-intBin]
  apply hk'
  refine Runs.ite (b:=c27) (by simp[hh,m2_1,dc22]) (fun dc27=>?_) (fun dc27=>?_)
  ·replace h:=h.1 dc27
   refine zF fun k' hk'=>?_
   obtain⟨hb29,h⟩:=h
   obtain⟨l30,el30,h⟩:=atm h
   simp[hh,m2_1,dc22,dc27,-appendF]
   refine bind_append [] [] [[int i14]] [intC i14] sp kd_26 (by simp) (by simp) (by simp) (by simp[-one1,o1x]) (rows_one (Fill.v _ Fill.nil)) (by simp) (by simpa using hb29) ?_
   rintro v31 H32 n33 sp hfr34 hle35
   replace sp:Sep H32 n33 [oI v31 l30] [(n1,2)]:=Sep.ap el30 sp
   have m2_1:=(hfr34 _ (by simp)).trans m2_1
   simp[hh,m2_1,dc22,dc27]
   apply hk'
   refine Runs.cut (fun ρ H n=>∃ (v37:AVal),((ρ 1=int parent∧ρ 2=pA n1 2∧ρ 5=v37∧ρ 6=int i14)∧H (n1,2)=some ⟨6,[bC false b]⟩)∧Sep H n [oI v37 l30] [(n1,2)]) (by refine⟨v31,by simp[hh,m2_1,dc22,dc27],sp⟩) ?_
   clear hh m2_1
   rintro ρ H n38 ⟨v37,⟨hh,m2_1⟩,sp⟩
   refine Runs.inBlock ?_
   refine zF fun k' hk'=>?_
   obtain⟨hb39,h⟩:=h
   obtain⟨v40,ev40,h⟩:=atm h
   have f41:=ib_add hb39 ev40
   simp[hh,m2_1,f41,-intBin]
   apply hk'
   refine IH18 (v40,l30) _ _ _ h (by refine⟨v37,by simp[hh,m2_1],sp⟩)
  replace h:=h.2 dc27
  refine Runs.skip ?_
  refine Runs.inBlock ?_
  refine zF fun k' hk'=>?_
  obtain⟨hb42,h⟩:=h
  obtain⟨v43,ev43,h⟩:=atm h
  have f44:=ib_add hb42 ev43
  simp[hh,m2_1,f44,dc22,dc27,-intBin]
  apply hk'
  refine Runs.cut (fun ρ H n=>∃ (v45:AVal),((ρ 1=int parent∧ρ 2=pA n1 2∧ρ 5=v45∧ρ 6=int v43)∧H (n1,2)=some ⟨6,[bC false b]⟩)∧Sep H n [oI v45 l15] [(n1,2)]) (by refine⟨v16,by simp[hh,m2_1,f44,dc22,dc27,-intBin],sp⟩) ?_
  clear hh m2_1
  rintro ρ H n46 ⟨v45,⟨hh,m2_1⟩,sp⟩
  refine IH18 (v43,l15) _ _ _ h (by refine⟨v45,by simp[hh,m2_1],sp⟩)
 replace h:=h.2 dc22
 refine Runs.exit rfl ?_
 refine zE fun k' hk'=>?_
 simp[hh,m2_1,dc22]
 apply hk'
 exact Runs.ret1 (v:=v16) Tryd.func40 Tryd.results40 (by simp[hh,m2_1,dc22]) (hQ _ _ _ _ (Sep.sub (ids':=[]) sp (by simp)) ⟨l15,h,rfl⟩)
theorem l2Holes_ok (b:Big) (parent:Int) (hp:l2Holes_pre b parent):OwnS Tryd.prog 40 [.agg (bC false b),int parent] (.s [.c]) (fun r=>r = .list true ((l2Holes b parent).map intC)):=(l2Holes_walk b parent _ (l2Holes_vc b parent hp)).mono (by rintro _ ⟨_,rfl,rfl⟩;rfl)
theorem e37:Ent Tryd.prog 37:=Ent.of Tryd.func37 (by kernel_rfl) rfl
theorem childrenOf_walk (b:Big) (parent:Int) (Z:((List Int) × (List Int))→Prop) (h:childrenOf_wp b parent Z):OwnS Tryd.prog 37 [.agg (bC false b),int parent] (.t [.s [.c],.s [.c]]) (fun r=>∃ y:(List Int) × (List Int),Z y∧r = .tup [.list true (y.1.map intC),.list true (y.2.map intC)]):=by
 unfold childrenOf_wp at h
 have sp:Sep noHeap 0 [] []:=Sep.nil (by simp)
 refine OwnS.of Tryd.func37 rfl Tryd.ntmps37 (by simp) fun Q hQ=>?_
 refine Runs.cut (fun ρ H n=>(ρ 0 = .agg (bC false b)∧ρ 1=int parent)∧Sep H n [] []) (by refine⟨by simp ,sp⟩) ?_
 rintro ρ H n1 ⟨hh,sp⟩
 refine zE fun k' hk'=>?_
 simp[hh]
 apply hk'
 refine Runs.cut (fun ρ H n=>((ρ 1=int parent∧ρ 2=pA n1 2)∧H (n1,2)=some ⟨6,[bC false b]⟩)∧Sep H n [] [(n1,2)]) (by refine⟨by simp[hh],sp.var⟩) ?_
 clear hh
 rintro ρ H n3 ⟨⟨hh,m2_1⟩,sp⟩
 refine zE fun k' hk'=>?_
 simp[hh,m2_1]
 apply hk'
 refine Runs.cut (fun ρ H n=>∃ (v6 v7:AVal),((ρ 1=int parent∧ρ 2=pA n1 2∧ρ 6=v7∧ρ 7=v6)∧H (n1,2)=some ⟨6,[bC false b]⟩)∧Sep H n [oI v6 ([]:List Int),oI v7 ([]:List Int)] [(n1,2)]) (by refine⟨.arr (n3+1,13) 0 0 0,.arr (n3,12) 0 0 0,by simp[hh,m2_1],(Sep.addEmpty (l:=[.c]) (Sep.addEmpty (l:=[.c]) sp))⟩) ?_
 clear hh m2_1
 rintro ρ H n8 ⟨v6,v7,⟨hh,m2_1⟩,sp⟩
 refine Runs.seq ?_
 refine zE fun k' hk'=>?_
 obtain⟨len9,elen9,h⟩:=atm h
 have f10:=fun H=>len_list (H:=H) (fr:=false) (f:=(GNode.cells false)) kd_25 elen9
 simp[hh,m2_1,f10,-lenF]
 apply hk'
 refine Runs.block ?_
 refine Runs.loopW h (fun (sJ:Int × (List Int)) ρ H n=>match sJ with | (v20,l21)=>∃ (v22 v23:AVal),((ρ 1=int parent∧ρ 2=pA n1 2∧ρ 6=v23∧ρ 7=v22∧ρ 15 = .list false (b.nodes.map (GNode.cells false))∧ρ 16=int len9∧ρ 17=int v20)∧H (n1,2)=some ⟨6,[bC false b]⟩)∧Sep H n [oI v22 ([]:List Int),oI v23 l21] [(n1,2)]) (by refine⟨v6,v7,by simp[hh,m2_1],sp⟩) ?_
 clear hh m2_1
 rintro⟨v20,l21⟩ ρ H n24 K h ⟨v22,v23,⟨hh,m2_1⟩,sp⟩ IH25
 refine zE fun k' hk'=>?_
 obtain⟨c27,ec27,h⟩:=atm h
 have f28:=ib_lss (k:=.i64) ec27
 simp[hh,m2_1,f28,-intBin]
 apply hk'
 refine Runs.seq ?_
 refine Runs.ite (b:=c27) (by simp[hh,m2_1]) (fun dc27=>?_) (fun dc27=>?_)
 ·replace h:=h.1 dc27
  refine Runs.skip ?_
  refine Runs.seq ?_
  refine Runs.block ?_
  refine zE fun k' hk'=>?_
  obtain⟨hb29,h⟩:=h
  obtain⟨x30,ex30,h⟩:=atm h
  have f31:=fun H=>ix_list (H:=H) (fr:=false) (f:=(GNode.cells false)) (k:=.i64) kd_25 (fun _=>rfl) hb29 ex30
  simp[hh,m2_1,f31,dc27,-indexAddrF]
  apply hk'
  refine Runs.cut (fun ρ H n=>∃ (v33 v34:AVal),((ρ 1=int parent∧ρ 2=pA n1 2∧ρ 6=v34∧ρ 7=v33∧ρ 8=int v20∧ρ 9=pA n24 9∧ρ 15 = .list false (b.nodes.map (GNode.cells false))∧ρ 16=int len9∧ρ 17=int v20)∧H (n1,2)=some ⟨6,[bC false b]⟩∧H (n24,9)=some ⟨3,[[int x30.control,int x30.parent,.list false (x30.links.map intC)]]⟩)∧Sep H n [oI v33 ([]:List Int),oI v34 l21] [(n24,9),(n1,2)]) (by refine⟨v22,v23,by simp[hh,m2_1,f31,dc27,-indexAddrF],sp.var⟩) ?_
  clear hh m2_1
  rintro ρ H n35 ⟨v33,v34,⟨hh,m2_1,m9_31⟩,sp⟩
  refine zE fun k' hk'=>?_
  obtain⟨c36,ec36,h⟩:=atm h
  have f37:=ib_eql (k:=.i64) ec36
  simp[hh,m2_1,m9_31,f37,-intBin]
  apply hk'
  refine Runs.ite (b:=c36) (by simp[hh,m2_1,m9_31]) (fun dc36=>?_) (fun dc36=>?_)
  ·replace h:=h.1 dc36
   refine zF fun k' hk'=>?_
   obtain⟨hb38,h⟩:=h
   obtain⟨l39,el39,h⟩:=atm h
   simp[hh,m2_1,m9_31,dc36,-appendF]
   refine bind_append [] [oI v33 ([]:List Int)] [[int v20]] [intC v20] sp.f1 kd_26 (by simp) (by simp) (by simp) (by simp[-one1,o1x]) (rows_one (Fill.v _ Fill.nil)) (by simp) (by simpa using hb38) ?_
   rintro v40 H41 n42 sp hfr43 hle44
   replace sp:Sep H41 n42 [oI v40 l39,oI v33 ([]:List Int)] [(n24,9),(n1,2)]:=Sep.ap el39 sp
   have m2_1:=(hfr43 _ (by simp)).trans m2_1
   have m9_31:=(hfr43 _ (by simp)).trans m9_31
   simp[hh,m2_1,m9_31,dc36]
   apply hk'
   refine Runs.cut (fun ρ H n=>∃ (v46 v47:AVal),((ρ 1=int parent∧ρ 2=pA n1 2∧ρ 6=v46∧ρ 7=v47∧ρ 15 = .list false (b.nodes.map (GNode.cells false))∧ρ 16=int len9∧ρ 17=int v20)∧H (n1,2)=some ⟨6,[bC false b]⟩)∧Sep H n [oI v46 l39,oI v47 ([]:List Int)] [(n1,2)]) (by refine⟨v40,v33,by simp[hh,m2_1,m9_31,dc36],(Sep.sub sp (by simp +contextual))⟩) ?_
   clear hh m2_1 m9_31
   rintro ρ H n48 ⟨v46,v47,⟨hh,m2_1⟩,sp⟩
   refine Runs.inBlock ?_
   refine zF fun k' hk'=>?_
   obtain⟨hb49,h⟩:=h
   obtain⟨v50,ev50,h⟩:=atm h
   have f51:=ib_add hb49 ev50
   simp[hh,m2_1,f51,-intBin]
   apply hk'
   refine IH25 (v50,l39) _ _ _ h (by refine⟨v47,v46,by simp[hh,m2_1],sp.f1⟩)
  replace h:=h.2 dc36
  refine Runs.skip ?_
  refine Runs.inBlock ?_
  refine zF fun k' hk'=>?_
  obtain⟨hb52,h⟩:=h
  obtain⟨v53,ev53,h⟩:=atm h
  have f54:=ib_add hb52 ev53
  simp[hh,m2_1,m9_31,f54,dc36,-intBin]
  apply hk'
  refine IH25 (v53,l21) _ _ _ h (by refine⟨v33,v34,by simp[hh,m2_1,m9_31,dc36],(Sep.sub sp (by simp +contextual))⟩)
 replace h:=h.2 dc27
 refine Runs.exit rfl ?_
 refine Runs.seq ?_
 refine zE fun k' hk'=>?_
 obtain⟨len55,elen55,h⟩:=atm h
 have f56:=fun H=>len_list (H:=H) (fr:=false) (f:=intC) kd_26 elen55
 simp[hh,m2_1,f56,dc27,-lenF]
 apply hk'
 refine Runs.block ?_
 refine Runs.loopW h (fun (sJ:Int × (List Int)) ρ H n=>match sJ with | (v66,l67)=>∃ (v68 v69:AVal),(ρ 1=int parent∧ρ 6=v69∧ρ 7=v68∧ρ 32 = .list false (b.sites.map intC)∧ρ 33=int len55∧ρ 34=int v66)∧Sep H n [oI v68 l67,oI v69 l21] []) (by refine⟨v22,v23,by simp[hh,m2_1,dc27],(Sep.sub sp (by simp +contextual))⟩) ?_
 clear hh m2_1
 rintro⟨v66,l67⟩ ρ H n70 K h ⟨v68,v69,hh,sp⟩ IH71
 refine zE fun k' hk'=>?_
 obtain⟨c73,ec73,h⟩:=atm h
 have f74:=ib_lss (k:=.i64) ec73
 simp[hh,f74,-intBin]
 apply hk'
 refine Runs.seq ?_
 refine Runs.ite (b:=c73) (by simp[hh]) (fun dc73=>?_) (fun dc73=>?_)
 ·replace h:=h.1 dc73
  refine Runs.skip ?_
  refine Runs.seq ?_
  refine Runs.block ?_
  refine zE fun k' hk'=>?_
  obtain⟨hb75,h⟩:=h
  obtain⟨x76,ex76,h⟩:=atm h
  have f77:=fun H=>ix_list (H:=H) (fr:=false) (f:=intC) (k:=.i64) kd_26 (fun _=>rfl) hb75 ex76
  simp[hh,f77,dc73,-indexAddrF]
  apply hk'
  refine zE fun k' hk'=>?_
  obtain⟨c78,ec78,h⟩:=atm h
  have f79:=ib_eql (k:=.i64) ec78
  simp[hh,f79,dc73,-intBin]
  apply hk'
  refine Runs.ite (b:=c78) (by simp[hh,dc73]) (fun dc78=>?_) (fun dc78=>?_)
  ·replace h:=h.1 dc78
   refine zF fun k' hk'=>?_
   obtain⟨hb80,h⟩:=h
   obtain⟨l81,el81,h⟩:=atm h
   simp[hh,dc73,dc78,-appendF]
   refine bind_append [] [oI v69 l21] [[int v66]] [intC v66] sp kd_26 (by simp) (by simp) (by simp) (by simp[-one1,o1x]) (rows_one (Fill.v _ Fill.nil)) (by simp) (by simpa using hb80) ?_
   rintro v82 H83 n84 sp hfr85 hle86
   replace sp:Sep H83 n84 [oI v82 l81,oI v69 l21] []:=Sep.ap el81 sp
   simp[hh,dc73,dc78]
   apply hk'
   refine Runs.cut (fun ρ H n=>∃ (v88 v89:AVal),(ρ 1=int parent∧ρ 6=v89∧ρ 7=v88∧ρ 32 = .list false (b.sites.map intC)∧ρ 33=int len55∧ρ 34=int v66)∧Sep H n [oI v88 l81,oI v89 l21] []) (by refine⟨v82,v69,by simp[hh,dc73,dc78],sp⟩) ?_
   clear hh
   rintro ρ H n90 ⟨v88,v89,hh,sp⟩
   refine Runs.inBlock ?_
   refine zF fun k' hk'=>?_
   obtain⟨hb91,h⟩:=h
   obtain⟨v92,ev92,h⟩:=atm h
   have f93:=ib_add hb91 ev92
   simp[hh,f93,-intBin]
   apply hk'
   refine IH71 (v92,l81) _ _ _ h (by refine⟨v88,v89,by simp[hh],sp⟩)
  replace h:=h.2 dc78
  refine Runs.skip ?_
  refine Runs.inBlock ?_
  refine zF fun k' hk'=>?_
  obtain⟨hb94,h⟩:=h
  obtain⟨v95,ev95,h⟩:=atm h
  have f96:=ib_add hb94 ev95
  simp[hh,f96,dc73,dc78,-intBin]
  apply hk'
  refine IH71 (v95,l67) _ _ _ h (by refine⟨v68,v69,by simp[hh,dc73,dc78],sp⟩)
 replace h:=h.2 dc73
 refine Runs.exit rfl ?_
 refine zE fun k' hk'=>?_
 simp[hh,dc73]
 apply hk'
 exact Runs.ret2 (v:=v69) (w:=v68) Tryd.func37 Tryd.results37 (by simp[hh,dc73]) (by simp[hh,dc73]) (hQ _ _ _ _ (Sep.sub (ids':=[]) (Sep.packT (Fill.own (Fill.own Fill.nil)) sp.f1) (by simp)) ⟨(l21,l67),h,rfl⟩)
theorem childrenOf_ok (b:Big) (parent:Int) (hp:childrenOf_pre b parent):OwnS Tryd.prog 37 [.agg (bC false b),int parent] (.t [.s [.c],.s [.c]]) (fun r=>r = .tup [.list true (((childrenOf b parent).1).map intC),.list true (((childrenOf b parent).2).map intC)]):=(childrenOf_walk b parent _ (childrenOf_vc b parent hp)).mono (by rintro _ ⟨_,rfl,rfl⟩;rfl)
end Go.Ab.Vg
/- Walks by program for YtiokiodmcghlhaaDoorAbDd. -/
namespace Go.Ab.Vg
open Go.Proofs
set_option maxRecDepth 100000
set_option linter.unusedSimpArgs false
set_option linter.unusedVariables false
attribute [local simp] Control.cells GNode.cells Wire.cells intC sliceC strC bC pA zB
theorem e5:Ent Tryd.prog 5:=Ent.of Tryd.func5 (by kernel_rfl) rfl
theorem drawCP_walk (code:List Int) (Z:((List Control) × Big × Int × Int)→Prop) (h:drawCP_wp code Z):PureC Tryd.prog 5 [.list false (code.map byteC)] (fun r=>∃ y:(List Control) × Big × Int × Int,Z y∧r = .tup [.list true (y.1.map Control.cells),.agg (bC true y.2.1),int y.2.2.1,int y.2.2.2]):=by
 unfold drawCP_wp at h
 have sp:Sep noHeap 0 [] []:=Sep.nil (by simp)
 refine PureC.of Tryd.func5 rfl Tryd.ntmps5 (by simp) fun Q hQ=>?_
 refine Runs.cut (fun ρ H n=>ρ 0 = .list false (code.map byteC)∧Sep H n [] []) (by refine⟨by simp[byteC],sp⟩) ?_
 rintro ρ H n1 ⟨hh,sp⟩
 refine zE fun k' hk'=>?_
 simp[hh,byteC]
 apply hk'
 refine Runs.cut (fun ρ H n=>((ρ 0 = .list false (code.map byteC)∧ρ 3=pA n1 3)∧H (n1,3)=some ⟨6,[zB]⟩)∧Sep H n [] [(n1,3)]) (by refine⟨by simp[hh,byteC],sp.var⟩) ?_
 clear hh
 rintro ρ H n3 ⟨⟨hh,m3_1⟩,sp⟩
 refine zE fun k' hk'=>?_
 simp[hh,m3_1,byteC]
 apply hk'
 refine Runs.cut (fun ρ H n=>((ρ 3=pA n1 3∧ρ 6=pA n3 13)∧H (n1,3)=some ⟨6,[zB]⟩∧H (n3,13)=some ⟨3,[[.list false (code.map byteC),int 0,.v (.int .u64 0)]]⟩)∧Sep H n [] [(n3,13),(n1,3)]) (by refine⟨by simp[hh,m3_1,byteC],sp.var⟩) ?_
 clear hh m3_1
 rintro ρ H n5 ⟨⟨hh,m3_1,m13_3⟩,sp⟩
 refine zE fun k' hk'=>?_
 obtain⟨hb6,h⟩:=h
 simp[hh,m3_1,m13_3,byteC]
 refine RunK.callDr (xsA:=[pA n3 13]) (X:=(n3,13)) (A:=[]) (B:=[(n1,3)]) (M:=[]) (K0:=[]) Ty_ok (sigR_fz (Cur.mk code 0 0) hb6) (.cons (Sub.refl _) .nil) e15 (by simp[hh,m3_1,m13_3,byteC]) (by simp[hh,m3_1,m13_3,byteC]) sp (by decide) (by decide) rfl (by simp[hh,m3_1,m13_3,byteC]) ?_
 rintro v7 H8 n9 _ _ ⟨r12,er12,rfl,rfl⟩ hmx sp hle11 hfr10
 replace h:=h r12 er12
 have m13_3:H8 (n3,13)=some ⟨3,[[.list false (r12.1.code.map byteC),int r12.1.pos,.v (.int .u64 r12.1.seed)]]⟩:=hmx
 have m3_1:=(hfr10 _ (by simp)).trans m3_1
 replace sp:=Sep.freshE sp
 obtain⟨hv,sp⟩:=sp
 subst hv
 replace sp:Sep H8 n9 [] [(n3,13),(n1,3)]:=sp
 simp[hh,m3_1,m13_3,byteC]
 apply hk'
 refine Runs.cut (fun ρ H n=>((ρ 3=pA n1 3∧ρ 6=pA n3 13∧ρ 7 = .list true (r12.2.map Control.cells))∧H (n1,3)=some ⟨6,[zB]⟩∧H (n3,13)=some ⟨3,[[.list false (r12.1.code.map byteC),int r12.1.pos,.v (.int .u64 r12.1.seed)]]⟩)∧Sep H n [] [(n3,13),(n1,3)]) (by refine⟨by simp[hh,m3_1,m13_3,byteC],sp⟩) ?_
 clear hh m3_1 m13_3
 rintro ρ H n14 ⟨⟨hh,m3_1,m13_3⟩,sp⟩
 refine zE fun k' hk'=>?_
 obtain⟨hb15,h⟩:=h
 simp[hh,m3_1,m13_3,byteC]
 refine RunK.callDr (xsA:=[pA n3 13,.list true (r12.2.map Control.cells),int 8]) (X:=(n3,13)) (A:=[]) (B:=[(n1,3)]) (M:=[]) (K0:=[]) Ty_ok (bigraphR_fz r12.1 r12.2 8 hb15) (.cons (Sub.refl _) (.cons (Sub.old _) (.cons (Sub.refl _) .nil))) e16 (by simp[hh,m3_1,m13_3,byteC]) (by simp[hh,m3_1,m13_3,byteC]) sp (by decide) (by decide) rfl (by simp[hh,m3_1,m13_3,byteC]) ?_
 rintro v16 H17 n18 _ _ ⟨r21,er21,rfl,rfl⟩ hmx sp hle20 hfr19
 replace h:=h r21 er21
 have m13_3:H17 (n3,13)=some ⟨3,[[.list false (r21.1.code.map byteC),int r21.1.pos,.v (.int .u64 r21.1.seed)]]⟩:=hmx
 have m3_1:=(hfr19 _ (by simp)).trans m3_1
 replace sp:=Sep.freshE sp
 obtain⟨hv,sp⟩:=sp
 subst hv
 replace sp:Sep H17 n18 [] [(n3,13),(n1,3)]:=sp
 simp[hh,m3_1,m13_3,byteC]
 apply hk'
 refine Runs.cut (fun ρ H n=>((ρ 3=pA n1 3∧ρ 6=pA n3 13∧ρ 7 = .list true (r12.2.map Control.cells)∧ρ 8=pA n18 8)∧H (n1,3)=some ⟨6,[zB]⟩∧H (n3,13)=some ⟨3,[[.list false (r21.1.code.map byteC),int r21.1.pos,.v (.int .u64 r21.1.seed)]]⟩∧H (n18,8)=some ⟨6,[bC true r21.2]⟩)∧Sep H n [] [(n18,8),(n3,13),(n1,3)]) (by refine⟨by simp[hh,m3_1,m13_3,byteC],sp.var⟩) ?_
 clear hh m3_1 m13_3
 rintro ρ H n24 ⟨⟨hh,m3_1,m13_3,m8_22⟩,sp⟩
 refine Runs.cut (fun ρ H n=>((ρ 3=pA n1 3∧ρ 6=pA n3 13∧ρ 7 = .list true (r12.2.map Control.cells)∧ρ 8=pA n18 8)∧H (n1,3)=some ⟨6,[zB]⟩∧H (n3,13)=some ⟨3,[[.list false (r21.1.code.map byteC),int r21.1.pos,.v (.int .u64 r21.1.seed)]]⟩∧H (n18,8)=some ⟨6,[bC true r21.2]⟩)∧Sep H n [] [(n18,8),(n3,13),(n1,3)]) (by refine⟨by simp[hh,m3_1,m13_3,m8_22,byteC],sp⟩) ?_
 clear hh m3_1 m13_3 m8_22
 rintro ρ H n25 ⟨⟨hh,m3_1,m13_3,m8_22⟩,sp⟩
 obtain⟨len26,elen26,h⟩:=atm h
 have f27:=fun H=>len_list (H:=H) (fr:=true) (f:=(GNode.cells true)) kd_25 elen26
 obtain⟨hb28,h⟩:=h
 obtain⟨v29,ev29,h⟩:=atm h
 have f30:=ib_add hb28 ev29
 obtain⟨hb31,h⟩:=h
 obtain⟨r32,er32,h⟩:=atm h
 obtain⟨len33,elen33,h⟩:=atm h
 have hq34:=elen26.trans elen33.symm
 subst hq34
 have f35:=fun H=>len_list (H:=H) (fr:=true) (f:=(GNode.cells true)) kd_25 elen26
 obtain⟨hb36,h⟩:=h
 obtain⟨v37,ev37,h⟩:=atm h
 have hq38:=ev29.trans ev37.symm
 subst hq38
 have f39:=ib_add hb36 ev29
 obtain⟨hb40,h⟩:=h
 obtain⟨r41,er41,h⟩:=atm h
 refine Runs.seqC (fun H n=>H (n1,3)=some ⟨6,[zB]⟩∧H (n18,8)=some ⟨6,[bC true r21.2]⟩∧Sep H n [] [(n18,8),(n3,13),(n1,3)]) [5,11,12,13] (.free 0 (.free 1 (.free 2 (.free 3 (.free 4 (.free 6 (.free 7 (.free 8 (.free 9 (.free 10 (.hard 5 (.hard 11 (.hard 12 (.hard 13 (.fin) (.stop)) (.stop)) (.stop)) (.stop)))))))))))) (fun ρ H n=>((ρ 3=pA n1 3∧ρ 6=pA n3 13∧ρ 7 = .list true (r12.2.map Control.cells)∧ρ 8=pA n18 8∧ρ 9=int r32.2∧ρ 10=int r41.2)∧H (n1,3)=some ⟨6,[zB]⟩∧H (n3,13)=some ⟨3,[[.list false (r41.1.code.map byteC),int r41.1.pos,.v (.int .u64 r41.1.seed)]]⟩∧H (n18,8)=some ⟨6,[bC true r21.2]⟩)∧Sep H n [] [(n18,8),(n3,13),(n1,3)]) draws (by decide) (by kernel_rfl) ?_ ?_
 ·refine RunT.free (pA n3 13) rfl rfl ⟨m3_1,m8_22,sp⟩ (fun H n hS=>by obtain⟨m3_1,m8_22,sp⟩:=hS;exact (by exact stepF_ok Ty_ok (by rw[stepF_loc];simp[hh,m3_1,m13_3,m8_22,f27,f30,f35,f39,byteC,-intBin,-lenF]))) ?_
  refine RunT.free (.ptr (n18,8) 1 0 1) rfl rfl ⟨m3_1,m8_22,sp⟩ (fun H n hS=>by obtain⟨m3_1,m8_22,sp⟩:=hS;exact (by exact stepF_ok Ty_ok (by rw[stepF_loc];simp[hh,m3_1,m13_3,m8_22,f27,f30,f35,f39,byteC,-intBin,-lenF]))) ?_
  refine RunT.free (.list true (r21.2.nodes.map (GNode.cells true))) rfl rfl ⟨m3_1,m8_22,sp⟩ (fun H n hS=>by obtain⟨m3_1,m8_22,sp⟩:=hS;exact (by exact stepF_ok Ty_ok (by rw[stepF_loc];simp[hh,m3_1,m13_3,m8_22,f27,f30,f35,f39,byteC,-intBin,-lenF]))) ?_
  refine RunT.free (int len26) rfl rfl ⟨m3_1,m8_22,sp⟩ (fun H n hS=>by obtain⟨m3_1,m8_22,sp⟩:=hS;exact (by have f27:=fun H=>len_list (H:=H) (fr:=true) (f:=(GNode.cells true)) kd_25 elen26;exact stepF_ok Ty_ok (by rw[stepF_loc];simp[hh,m3_1,m13_3,m8_22,f27,f30,f35,f39,byteC,-intBin,-lenF]))) ?_
  refine RunT.free (int v29) rfl rfl ⟨m3_1,m8_22,sp⟩ (fun H n hS=>by obtain⟨m3_1,m8_22,sp⟩:=hS;exact (by have f30:=ib_add hb28 ev29;exact stepF_ok Ty_ok (by rw[stepF_loc];simp[hh,m3_1,m13_3,m8_22,f27,f30,f35,f39,byteC,-intBin,-lenF]))) ?_
  refine RunT.free (pA n3 13) rfl rfl ⟨m3_1,m8_22,sp⟩ (fun H n hS=>by obtain⟨m3_1,m8_22,sp⟩:=hS;exact (by exact stepF_ok Ty_ok (by rw[stepF_loc];simp[hh,m3_1,m13_3,m8_22,f27,f30,f35,f39,byteC,-intBin,-lenF]))) ?_
  refine RunT.free (.ptr (n18,8) 1 0 1) rfl rfl ⟨m3_1,m8_22,sp⟩ (fun H n hS=>by obtain⟨m3_1,m8_22,sp⟩:=hS;exact (by exact stepF_ok Ty_ok (by rw[stepF_loc];simp[hh,m3_1,m13_3,m8_22,f27,f30,f35,f39,byteC,-intBin,-lenF]))) ?_
  refine RunT.free (.list true (r21.2.nodes.map (GNode.cells true))) rfl rfl ⟨m3_1,m8_22,sp⟩ (fun H n hS=>by obtain⟨m3_1,m8_22,sp⟩:=hS;exact (by exact stepF_ok Ty_ok (by rw[stepF_loc];simp[hh,m3_1,m13_3,m8_22,f27,f30,f35,f39,byteC,-intBin,-lenF]))) ?_
  refine RunT.free (int len26) rfl rfl ⟨m3_1,m8_22,sp⟩ (fun H n hS=>by obtain⟨m3_1,m8_22,sp⟩:=hS;exact (by have f35:=fun H=>len_list (H:=H) (fr:=true) (f:=(GNode.cells true)) kd_25 elen26;exact stepF_ok Ty_ok (by rw[stepF_loc];simp[hh,m3_1,m13_3,m8_22,f27,f30,f35,f39,byteC,-intBin,-lenF]))) ?_
  refine RunT.free (int v29) rfl rfl ⟨m3_1,m8_22,sp⟩ (fun H n hS=>by obtain⟨m3_1,m8_22,sp⟩:=hS;exact (by have f39:=ib_add hb36 ev29;exact stepF_ok Ty_ok (by rw[stepF_loc];simp[hh,m3_1,m13_3,m8_22,f27,f30,f35,f39,byteC,-intBin,-lenF]))) ?_
  refine⟨?_,trivial⟩
  refine RunT.callDr (xsA:=[pA n3 13,int v29]) (X:=(n3,13)) (A:=[(n18,8)]) (B:=[(n1,3)]) (M:=[]) (K0:=[]) rfl rfl (pickZ_ok r21.1 v29 hb31) (.cons (Sub.refl _) (.cons (Sub.refl _) .nil)) e17 (by simp[hh,m3_1,m13_3,m8_22,f27,f30,f35,f39,byteC,-intBin,-lenF]) (by simp[hh,m3_1,m13_3,m8_22,f27,f30,f35,f39,byteC,-intBin,-lenF]) sp (by simp[hh,m3_1,m13_3,m8_22,f27,f30,f35,f39,byteC,-intBin,-lenF]) (by simp[hh,m3_1,m13_3,m8_22,f27,f30,f35,f39,byteC,-intBin,-lenF]) ?_
  rintro v47 H43 n44 _ _ ⟨rfl,rfl⟩ hmx sp hle46 hfr45
  rw[← er32] at hmx sp
  have m13_3:H43 (n3,13)=some ⟨3,[[.list false (r32.1.code.map byteC),int r32.1.pos,.v (.int .u64 r32.1.seed)]]⟩:=hmx
  have m3_1:=(hfr45 _ (by simp)).trans m3_1
  have m8_22:=(hfr45 _ (by simp)).trans m8_22
  replace sp:=Sep.scalar sp
  obtain⟨hv,sp⟩:=sp
  subst hv
  replace sp:Sep H43 n44 [] [(n18,8),(n3,13),(n1,3)]:=sp
  refine⟨(fun _=>⟨m3_1,m8_22,sp⟩),?_⟩
  refine⟨?_,trivial⟩
  refine RunT.callDr (xsA:=[pA n3 13,int v29]) (X:=(n3,13)) (A:=[(n18,8)]) (B:=[(n1,3)]) (M:=[]) (K0:=[]) rfl rfl (pickZ_ok r32.1 v29 hb40) (.cons (Sub.refl _) (.cons (Sub.refl _) .nil)) e17 (by simp[hh,m3_1,m13_3,m8_22,f27,f30,f35,f39,byteC,-intBin,-lenF]) (by simp[hh,m3_1,m13_3,m8_22,f27,f30,f35,f39,byteC,-intBin,-lenF]) sp (by simp[hh,m3_1,m13_3,m8_22,f27,f30,f35,f39,byteC,-intBin,-lenF]) (by simp[hh,m3_1,m13_3,m8_22,f27,f30,f35,f39,byteC,-intBin,-lenF]) ?_
  rintro v54 H50 n51 _ _ ⟨rfl,rfl⟩ hmx sp hle53 hfr52
  rw[← er41] at hmx sp
  have m13_3:H50 (n3,13)=some ⟨3,[[.list false (r41.1.code.map byteC),int r41.1.pos,.v (.int .u64 r41.1.seed)]]⟩:=hmx
  have m3_1:=(hfr52 _ (by simp)).trans m3_1
  have m8_22:=(hfr52 _ (by simp)).trans m8_22
  replace sp:=Sep.scalar sp
  obtain⟨hv,sp⟩:=sp
  subst hv
  replace sp:Sep H50 n51 [] [(n18,8),(n3,13),(n1,3)]:=sp
  refine⟨(fun hl=>absurd (hl.symm.trans (show lateC _ _ _=true by kernel_rfl)) (by decide)),?_⟩
  refine⟨?_,trivial⟩
  refine RunT.same (v:=(int r32.2)) Ty_ok rfl rfl (by simp[hh,m3_1,m13_3,m8_22,f27,f30,f35,f39,byteC,-intBin,-lenF]) (fun hl=>absurd (hl.symm.trans (show lateC _ _ _=true by kernel_rfl)) (by decide)) ?_
  refine⟨?_,trivial⟩
  refine RunT.same (v:=(int r41.2)) Ty_ok rfl rfl (by simp[hh,m3_1,m13_3,m8_22,f27,f30,f35,f39,byteC,-intBin,-lenF]) (fun hl=>absurd (hl.symm.trans (show lateC _ _ _=true by kernel_rfl)) (by decide)) ?_
  refine RunT.fin (by refine⟨by simp[hh,m3_1,m13_3,m8_22,f27,f30,f35,f39,byteC,-intBin,-lenF],sp⟩)
 clear hh m3_1 m13_3 m8_22
 rintro ρ H n42 ⟨⟨hh,m3_1,m13_3,m8_22⟩,sp⟩
 refine Runs.seq ?_
 refine zE fun k' hk'=>?_
 obtain⟨hb69,h⟩:=h
 obtain⟨r70,er70,h⟩:=atm h
 simp[hh,m3_1,m13_3,m8_22,byteC]
 refine RunK.callDr (xsA:=[pA n3 13,int 20]) (X:=(n3,13)) (A:=[(n18,8)]) (B:=[(n1,3)]) (M:=[]) (K0:=[]) Ty_ok (oneZ_ok r41.1 20 hb69) (.cons (Sub.refl _) (.cons (Sub.refl _) .nil)) e18 (by simp[hh,m3_1,m13_3,m8_22,byteC]) (by simp[hh,m3_1,m13_3,m8_22,byteC]) sp (by decide) (by decide) rfl (by simp[hh,m3_1,m13_3,m8_22,byteC]) ?_
 rintro v71 H72 n73 _ _ ⟨rfl,rfl⟩ hmx sp hle75 hfr74
 rw[← er70] at hmx sp
 have m13_3:H72 (n3,13)=some ⟨3,[[.list false (r70.1.code.map byteC),int r70.1.pos,.v (.int .u64 r70.1.seed)]]⟩:=hmx
 have m3_1:=(hfr74 _ (by simp)).trans m3_1
 have m8_22:=(hfr74 _ (by simp)).trans m8_22
 replace sp:=Sep.scalar sp
 obtain⟨hv,sp⟩:=sp
 subst hv
 replace sp:Sep H72 n73 [] [(n18,8),(n3,13),(n1,3)]:=sp
 simp[hh,m3_1,m13_3,m8_22,byteC]
 apply hk'
 refine Runs.cut (fun ρ H n=>((ρ 3=pA n1 3∧ρ 7 = .list true (r12.2.map Control.cells)∧ρ 8=pA n18 8∧ρ 9=int r32.2∧ρ 10=int r41.2∧ρ 32=bool r70.2)∧H (n1,3)=some ⟨6,[zB]⟩∧H (n18,8)=some ⟨6,[bC true r21.2]⟩)∧Sep H n [] [(n18,8),(n1,3)]) (by refine⟨by simp[hh,m3_1,m13_3,m8_22,byteC],(Sep.sub sp (by simp +contextual))⟩) ?_
 clear hh m3_1 m13_3 m8_22
 rintro ρ H n77 ⟨⟨hh,m3_1,m8_22⟩,sp⟩
 refine Runs.ite (b:=r70.2) (by simp[hh,m3_1,m8_22,byteC]) (fun dr70_2=>?_) (fun dr70_2=>?_)
 ·replace h:=h.1 dr70_2
  refine zF fun k' hk'=>?_
  simp[hh,m3_1,m8_22,dr70_2,byteC]
  apply hk'
  refine Runs.seqD Ty_ok kindOp_ok draws (by decide) (by kernel_rfl) fun k' hk'=>?_
  simp[hh,m3_1,m8_22,dr70_2,byteC]
  apply hk'
  refine Runs.cut (fun ρ H n=>((ρ 2 = .list true (r12.2.map Control.cells)∧ρ 3=pA n1 3∧ρ 4=int r32.2∧ρ 5=int (-1))∧H (n1,3)=some ⟨6,[bC true r21.2]⟩)∧Sep H n [] [(n1,3)]) (by refine⟨by simp[hh,m3_1,m8_22,dr70_2,byteC],(Sep.sub (Sep.setVar (w:=(n1,3)) sp (by simp)) (by simp +contextual))⟩) ?_
  clear hh m3_1 m8_22
  rintro ρ H n78 ⟨⟨hh,m3_1⟩,sp⟩
  exact Runs.res4 Ty_ok (v:=.list true (r12.2.map Control.cells)) (w:=.agg (bC true r21.2)) (z:=int r32.2) (y:=int (-1)) Tryd.func5 Tryd.results5 (by simp[hh,m3_1,resA,byteC]) (by simp[hh,m3_1,resA,byteC]) (by simp[hh,m3_1,resA,byteC]) (by simp[hh,m3_1,resA,byteC]) (hQ _ _ _ _ (.of (.tupL (.cons (.fresh (by simp)) (.cons (.aggL (.cons (.v _) (.cons (.fresh (by simp)) (.cons (.fresh (by simp)) (.cons (.v _) (.cons (.fresh (by simp)) (.cons (.fresh (by simp)) .nil))))))) (.cons (.v _) (.cons (.v _) .nil)))))) ⟨(r12.2,r21.2,r32.2,(-1)),h,rfl⟩)
 replace h:=h.2 dr70_2
 refine Runs.skip ?_
 refine Runs.seqD Ty_ok kindOp_ok draws (by decide) (by kernel_rfl) fun k' hk'=>?_
 simp[hh,m3_1,m8_22,dr70_2,byteC]
 apply hk'
 refine Runs.cut (fun ρ H n=>((ρ 2 = .list true (r12.2.map Control.cells)∧ρ 3=pA n1 3∧ρ 4=int r32.2∧ρ 5=int r41.2)∧H (n1,3)=some ⟨6,[bC true r21.2]⟩)∧Sep H n [] [(n1,3)]) (by refine⟨by simp[hh,m3_1,m8_22,dr70_2,byteC],(Sep.sub (Sep.setVar (w:=(n1,3)) sp (by simp)) (by simp +contextual))⟩) ?_
 clear hh m3_1 m8_22
 rintro ρ H n79 ⟨⟨hh,m3_1⟩,sp⟩
 exact Runs.res4 Ty_ok (v:=.list true (r12.2.map Control.cells)) (w:=.agg (bC true r21.2)) (z:=int r32.2) (y:=int r41.2) Tryd.func5 Tryd.results5 (by simp[hh,m3_1,resA,byteC]) (by simp[hh,m3_1,resA,byteC]) (by simp[hh,m3_1,resA,byteC]) (by simp[hh,m3_1,resA,byteC]) (hQ _ _ _ _ (.of (.tupL (.cons (.fresh (by simp)) (.cons (.aggL (.cons (.v _) (.cons (.fresh (by simp)) (.cons (.fresh (by simp)) (.cons (.v _) (.cons (.fresh (by simp)) (.cons (.fresh (by simp)) .nil))))))) (.cons (.v _) (.cons (.v _) .nil)))))) ⟨(r12.2,r21.2,r32.2,r41.2),h,rfl⟩)
theorem drawCP_ok (code:List Int) (hp:drawCP_pre code):PureC Tryd.prog 5 [.list false (code.map byteC)] (fun r=>∃ y:(List Control) × Big × Int × Int,drawCP code y∧r = .tup [.list true (y.1.map Control.cells),.agg (bC true y.2.1),int y.2.2.1,int y.2.2.2]):=drawCP_walk code _ (drawCP_vc code hp)
theorem e4:Ent Tryd.prog 4:=Ent.of Tryd.func4 (by kernel_rfl) rfl
theorem rBigZ_walk (code:List Int) (Z:Bool→Prop) (h:rBigZ_wp code Z):PureC Tryd.prog 4 [.list false (code.map byteC)] (fun r=>∃ y:Bool,Z y∧r=bool y):=by
 unfold rBigZ_wp at h
 refine PureC.of Tryd.func4 rfl Tryd.ntmps4 (by simp) fun Q hQ=>?_
 refine Runs.cut (fun ρ H n=>ρ 0 = .list false (code.map byteC)) (by simp[byteC]) ?_
 rintro ρ H n1 hh
 refine zE fun k' hk'=>?_
 simp[hh,byteC]
 apply hk'
 refine zE fun k' hk'=>?_
 obtain⟨len2,elen2,h⟩:=atm h
 have f3:=fun H=>len_list (H:=H) (fr:=false) (f:=byteC) kd_22 elen2
 obtain⟨c4,ec4,h⟩:=atm h
 have f5:=ib_gtr (k:=.i64) ec4
 simp[hh,f3,f5,byteC,-intBin,-lenF]
 apply hk'
 exact Runs.ret1 (v:=bool c4) Tryd.func4 Tryd.results4 (by simp[hh,byteC]) (hQ _ _ _ _ (.of (.v _)) ⟨c4,h,rfl⟩)
theorem rBigZ_ok (code:List Int) (hp:rBigZ_pre code):PureC Tryd.prog 4 [.list false (code.map byteC)] (fun r=>r=bool (rBigZ code)):=(rBigZ_walk code _ (rBigZ_vc code hp)).mono (by rintro _ ⟨_,rfl,rfl⟩;rfl)
theorem e11:Ent Tryd.prog 11:=Ent.of Tryd.func11 (by kernel_rfl) rfl
theorem rIntsZ_walk (a:List Int) (b:List Int) (Z:Bool→Prop) (h:rIntsZ_wp a b Z):PureC Tryd.prog 11 [.list false (a.map intC),.list false (b.map intC)] (fun r=>∃ y:Bool,Z y∧r=bool y):=by
 unfold rIntsZ_wp at h
 refine PureC.of Tryd.func11 rfl Tryd.ntmps11 (by simp) fun Q hQ=>?_
 refine Runs.cut (fun ρ H n=>(ρ 0 = .list false (a.map intC)∧ρ 1 = .list false (b.map intC))) (by simp) ?_
 rintro ρ H n1 hh
 refine zE fun k' hk'=>?_
 simp[hh]
 apply hk'
 refine Runs.seq ?_
 refine zE fun k' hk'=>?_
 obtain⟨len2,elen2,h⟩:=atm h
 have f3:=fun H=>len_list (H:=H) (fr:=false) (f:=intC) kd_26 elen2
 obtain⟨len4,elen4,h⟩:=atm h
 have f5:=fun H=>len_list (H:=H) (fr:=false) (f:=intC) kd_26 elen4
 obtain⟨c6,ec6,h⟩:=atm h
 have f7:=ib_neq (k:=.i64) ec6
 simp[hh,f3,f5,f7,-intBin,-lenF]
 apply hk'
 refine Runs.ite (b:=c6) (by simp[hh]) (fun dc6=>?_) (fun dc6=>?_)
 ·replace h:=h.1 dc6
  refine zE fun k' hk'=>?_
  simp[hh,dc6]
  apply hk'
  exact Runs.ret1 (v:=bool false) Tryd.func11 Tryd.results11 (by simp[hh,dc6]) (hQ _ _ _ _ (.of (.v _)) ⟨false,h,rfl⟩)
 replace h:=h.2 dc6
 refine Runs.skip ?_
 refine Runs.seq ?_
 refine zE fun k' hk'=>?_
 simp[hh,dc6]
 apply hk'
 refine Runs.block ?_
 refine Runs.loopW h (fun (sJ:Int) ρ H n=>match sJ with | i10=>(ρ 0 = .list false (a.map intC)∧ρ 1 = .list false (b.map intC)∧ρ 5=int i10)) (by simp[hh,dc6]) ?_
 clear hh
 rintro i10 ρ H n11 K h hh IH12
 refine Runs.seq ?_
 refine zE fun k' hk'=>?_
 obtain⟨len14,elen14,h⟩:=atm h
 have f15:=fun H=>len_list (H:=H) (fr:=false) (f:=intC) kd_26 elen14
 obtain⟨c16,ec16,h⟩:=atm h
 have f17:=ib_lss (k:=.i64) ec16
 simp[hh,f15,f17,-intBin,-lenF]
 apply hk'
 refine Runs.ite (b:=c16) (by simp[hh]) (fun dc16=>?_) (fun dc16=>?_)
 ·replace h:=h.1 dc16
  refine Runs.skip ?_
  refine Runs.seq ?_
  refine Runs.block ?_
  refine Runs.seqD Ty_ok kindOp_ok draws (by decide) (by kernel_rfl) fun k' hk'=>?_
  obtain⟨hb18,h⟩:=h
  obtain⟨x19,ex19,h⟩:=atm h
  have f20:=fun H=>ix_list (H:=H) (fr:=false) (f:=intC) (k:=.i64) kd_26 (fun _=>rfl) hb18 ex19
  obtain⟨hb21,h⟩:=h
  obtain⟨x22,ex22,h⟩:=atm h
  have f23:=fun H=>ix_list (H:=H) (fr:=false) (f:=intC) (k:=.i64) kd_26 (fun _=>rfl) hb21 ex22
  obtain⟨c24,ec24,h⟩:=atm h
  have f25:=ib_neq (k:=.i64) ec24
  simp[hh,f20,f23,f25,dc16,-indexAddrF,-intBin]
  apply hk'
  refine Runs.ite (b:=c24) (by simp[hh,dc16]) (fun dc24=>?_) (fun dc24=>?_)
  ·replace h:=h.1 dc24
   refine zE fun k' hk'=>?_
   simp[hh,dc16,dc24]
   apply hk'
   exact Runs.ret1 (v:=bool false) Tryd.func11 Tryd.results11 (by simp[hh,dc16,dc24]) (hQ _ _ _ _ (.of (.v _)) ⟨false,h,rfl⟩)
  replace h:=h.2 dc24
  refine Runs.skip ?_
  refine Runs.inBlock ?_
  refine zF fun k' hk'=>?_
  obtain⟨hb26,h⟩:=h
  obtain⟨v27,ev27,h⟩:=atm h
  have f28:=ib_add hb26 ev27
  simp[hh,f28,dc16,dc24,-intBin]
  apply hk'
  refine Runs.cut (fun ρ H n=>(ρ 0 = .list false (a.map intC)∧ρ 1 = .list false (b.map intC)∧ρ 5=int v27)) (by simp[hh,f28,dc16,dc24,-intBin]) ?_
  clear hh
  rintro ρ H n29 hh
  refine IH12 (v27) _ _ _ h (by simp[hh])
 replace h:=h.2 dc16
 refine Runs.exit rfl ?_
 refine zE fun k' hk'=>?_
 simp[hh,dc16]
 apply hk'
 exact Runs.ret1 (v:=bool true) Tryd.func11 Tryd.results11 (by simp[hh,dc16]) (hQ _ _ _ _ (.of (.v _)) ⟨true,h,rfl⟩)
theorem rIntsZ_ok (a:List Int) (b:List Int) (hp:rIntsZ_pre a b):PureC Tryd.prog 11 [.list false (a.map intC),.list false (b.map intC)] (fun r=>r=bool (rIntsZ a b)):=(rIntsZ_walk a b _ (rIntsZ_vc a b hp)).mono (by rintro _ ⟨_,rfl,rfl⟩;rfl)
theorem e14:Ent Tryd.prog 14:=Ent.of Tryd.func14 (by kernel_rfl) rfl
theorem rHasZ_walk (list:List Int) (x:Int) (Z:Bool→Prop) (h:rHasZ_wp list x Z):PureC Tryd.prog 14 [.list false (list.map intC),int x] (fun r=>∃ y:Bool,Z y∧r=bool y):=by
 unfold rHasZ_wp at h
 refine PureC.of Tryd.func14 rfl Tryd.ntmps14 (by simp) fun Q hQ=>?_
 refine Runs.cut (fun ρ H n=>(ρ 0 = .list false (list.map intC)∧ρ 1=int x)) (by simp) ?_
 rintro ρ H n1 hh
 refine zE fun k' hk'=>?_
 simp[hh]
 apply hk'
 refine Runs.seq ?_
 refine zE fun k' hk'=>?_
 simp[hh]
 apply hk'
 refine Runs.block ?_
 refine Runs.loopW h (fun (sJ:Int) ρ H n=>match sJ with | i4=>(ρ 0 = .list false (list.map intC)∧ρ 1=int x∧ρ 5=int i4)) (by simp[hh]) ?_
 clear hh
 rintro i4 ρ H n5 K h hh IH6
 refine Runs.seq ?_
 refine zE fun k' hk'=>?_
 obtain⟨len8,elen8,h⟩:=atm h
 have f9:=fun H=>len_list (H:=H) (fr:=false) (f:=intC) kd_26 elen8
 obtain⟨c10,ec10,h⟩:=atm h
 have f11:=ib_lss (k:=.i64) ec10
 simp[hh,f9,f11,-intBin,-lenF]
 apply hk'
 refine Runs.ite (b:=c10) (by simp[hh]) (fun dc10=>?_) (fun dc10=>?_)
 ·replace h:=h.1 dc10
  refine Runs.skip ?_
  refine Runs.seq ?_
  refine Runs.block ?_
  refine zE fun k' hk'=>?_
  obtain⟨hb12,h⟩:=h
  obtain⟨x13,ex13,h⟩:=atm h
  have f14:=fun H=>ix_list (H:=H) (fr:=false) (f:=intC) (k:=.i64) kd_26 (fun _=>rfl) hb12 ex13
  obtain⟨c15,ec15,h⟩:=atm h
  have f16:=ib_eql (k:=.i64) ec15
  simp[hh,f14,f16,dc10,-indexAddrF,-intBin]
  apply hk'
  refine Runs.ite (b:=c15) (by simp[hh,dc10]) (fun dc15=>?_) (fun dc15=>?_)
  ·replace h:=h.1 dc15
   refine zE fun k' hk'=>?_
   simp[hh,dc10,dc15]
   apply hk'
   exact Runs.ret1 (v:=bool true) Tryd.func14 Tryd.results14 (by simp[hh,dc10,dc15]) (hQ _ _ _ _ (.of (.v _)) ⟨true,h,rfl⟩)
  replace h:=h.2 dc15
  refine Runs.skip ?_
  refine Runs.inBlock ?_
  refine zF fun k' hk'=>?_
  obtain⟨hb17,h⟩:=h
  obtain⟨v18,ev18,h⟩:=atm h
  have f19:=ib_add hb17 ev18
  simp[hh,f19,dc10,dc15,-intBin]
  apply hk'
  refine IH6 (v18) _ _ _ h (by simp[hh,dc10,dc15])
 replace h:=h.2 dc10
 refine Runs.exit rfl ?_
 refine zE fun k' hk'=>?_
 simp[hh,dc10]
 apply hk'
 exact Runs.ret1 (v:=bool false) Tryd.func14 Tryd.results14 (by simp[hh,dc10]) (hQ _ _ _ _ (.of (.v _)) ⟨false,h,rfl⟩)
theorem rHasZ_ok (list:List Int) (x:Int) (hp:rHasZ_pre list x):PureC Tryd.prog 14 [.list false (list.map intC),int x] (fun r=>r=bool (rHasZ list x)):=(rHasZ_walk list x _ (rHasZ_vc list x hp)).mono (by rintro _ ⟨_,rfl,rfl⟩;rfl)
theorem e20:Ent Tryd.prog 20:=Ent.of Tryd.func20 (by kernel_rfl) rfl
theorem ancestorsOf_walk (b:Big) (node:Int) (Z:(List Int)→Prop) (h:ancestorsOf_wp b node Z):OwnS Tryd.prog 20 [.agg (bC false b),int node] (.s [.c]) (fun r=>∃ y:List Int,Z y∧r = .list true (y.map intC)):=by
 unfold ancestorsOf_wp at h
 have sp:Sep noHeap 0 [] []:=Sep.nil (by simp)
 refine OwnS.of Tryd.func20 rfl Tryd.ntmps20 (by simp) fun Q hQ=>?_
 refine Runs.cut (fun ρ H n=>(ρ 0 = .agg (bC false b)∧ρ 1=int node)∧Sep H n [] []) (by refine⟨by simp ,sp⟩) ?_
 rintro ρ H n1 ⟨hh,sp⟩
 refine zE fun k' hk'=>?_
 simp[hh]
 apply hk'
 refine Runs.cut (fun ρ H n=>((ρ 1=int node∧ρ 2=pA n1 2)∧H (n1,2)=some ⟨6,[bC false b]⟩)∧Sep H n [] [(n1,2)]) (by refine⟨by simp[hh],sp.var⟩) ?_
 clear hh
 rintro ρ H n3 ⟨⟨hh,m2_1⟩,sp⟩
 refine zE fun k' hk'=>?_
 simp[hh,m2_1]
 apply hk'
 refine Runs.cut (fun ρ H n=>∃ (v5:AVal),((ρ 1=int node∧ρ 2=pA n1 2∧ρ 5=v5)∧H (n1,2)=some ⟨6,[bC false b]⟩)∧Sep H n [oI v5 ([]:List Int)] [(n1,2)]) (by refine⟨.arr (n3,6) 0 0 0,by simp[hh,m2_1],(Sep.addEmpty (l:=[.c]) sp)⟩) ?_
 clear hh m2_1
 rintro ρ H n6 ⟨v5,⟨hh,m2_1⟩,sp⟩
 refine Runs.seq ?_
 refine Runs.block ?_
 refine Runs.loopW h (fun (sJ:Int × (List Int)) ρ H n=>match sJ with | (node14,l15)=>∃ (v16:AVal),((ρ 1=int node14∧ρ 2=pA n1 2∧ρ 5=v16)∧H (n1,2)=some ⟨6,[bC false b]⟩)∧Sep H n [oI v16 l15] [(n1,2)]) (by refine⟨v5,by simp[hh,m2_1],sp⟩) ?_
 clear hh m2_1
 rintro⟨node14,l15⟩ ρ H n17 K h ⟨v16,⟨hh,m2_1⟩,sp⟩ IH18
 refine Runs.seq ?_
 refine zE fun k' hk'=>?_
 obtain⟨c20,ec20,h⟩:=atm h
 have f21:=ib_geq (k:=.i64) ec20
 simp[hh,m2_1,f21,-intBin]
 apply hk'
 refine Runs.ite (b:=c20) (by simp[hh,m2_1]) (fun dc20=>?_) (fun dc20=>?_)
 ·replace h:=h.1 dc20
  refine Runs.skip ?_
  refine Runs.block ?_
  refine zE fun k' hk'=>?_
  obtain⟨hb22,h⟩:=h
  obtain⟨x23,ex23,h⟩:=atm h
  have f24:=fun H=>ix_list (H:=H) (fr:=false) (f:=(GNode.cells false)) (k:=.i64) kd_25 (fun _=>rfl) hb22 ex23
  simp[hh,m2_1,f24,dc20,-indexAddrF]
  apply hk'
  refine zF fun k' hk'=>?_
  obtain⟨hb25,h⟩:=h
  obtain⟨l26,el26,h⟩:=atm h
  simp[hh,m2_1,dc20,-appendF]
  refine bind_append [] [] [[int x23.parent]] [intC x23.parent] sp kd_26 (by simp) (by simp) (by simp) (by simp[-one1,o1x]) (rows_one (Fill.v _ Fill.nil)) (by simp) (by simpa using hb25) ?_
  rintro v27 H28 n29 sp hfr30 hle31
  replace sp:Sep H28 n29 [oI v27 l26] [(n1,2)]:=Sep.ap el26 sp
  have m2_1:=(hfr30 _ (by simp)).trans m2_1
  simp[hh,m2_1,dc20]
  apply hk'
  refine Runs.cut (fun ρ H n=>∃ (v33:AVal),((ρ 1=int x23.parent∧ρ 2=pA n1 2∧ρ 5=v33)∧H (n1,2)=some ⟨6,[bC false b]⟩)∧Sep H n [oI v33 l26] [(n1,2)]) (by refine⟨v27,by simp[hh,m2_1,dc20],sp⟩) ?_
  clear hh m2_1
  rintro ρ H n34 ⟨v33,⟨hh,m2_1⟩,sp⟩
  refine Runs.inBlock ?_
  refine IH18 (x23.parent,l26) _ _ _ h (by refine⟨v33,by simp[hh,m2_1],sp⟩)
 replace h:=h.2 dc20
 refine Runs.exit rfl ?_
 refine zE fun k' hk'=>?_
 simp[hh,m2_1,dc20]
 apply hk'
 exact Runs.ret1 (v:=v16) Tryd.func20 Tryd.results20 (by simp[hh,m2_1,dc20]) (hQ _ _ _ _ (Sep.sub (ids':=[]) sp (by simp)) ⟨l15,h,rfl⟩)
theorem ancestorsOf_ok (b:Big) (node:Int) (hp:ancestorsOf_pre b node):OwnS Tryd.prog 20 [.agg (bC false b),int node] (.s [.c]) (fun r=>r = .list true ((ancestorsOf b node).map intC)):=(ancestorsOf_walk b node _ (ancestorsOf_vc b node hp)).mono (by rintro _ ⟨_,rfl,rfl⟩;rfl)
theorem e24:Ent Tryd.prog 24:=Ent.of Tryd.func24 (by kernel_rfl) rfl
theorem l2Above_walk (b:Big) (node:Int) (Z:(List Int)→Prop) (h:l2Above_wp b node Z):OwnS Tryd.prog 24 [.agg (bC false b),int node] (.s [.c]) (fun r=>∃ y:List Int,Z y∧r = .list true (y.map intC)):=by
 unfold l2Above_wp at h
 have sp:Sep noHeap 0 [] []:=Sep.nil (by simp)
 refine OwnS.of Tryd.func24 rfl Tryd.ntmps24 (by simp) fun Q hQ=>?_
 refine Runs.cut (fun ρ H n=>(ρ 0 = .agg (bC false b)∧ρ 1=int node)∧Sep H n [] []) (by refine⟨by simp ,sp⟩) ?_
 rintro ρ H n1 ⟨hh,sp⟩
 refine zE fun k' hk'=>?_
 simp[hh]
 apply hk'
 refine Runs.cut (fun ρ H n=>((ρ 1=int node∧ρ 2=pA n1 2)∧H (n1,2)=some ⟨6,[bC false b]⟩)∧Sep H n [] [(n1,2)]) (by refine⟨by simp[hh],sp.var⟩) ?_
 clear hh
 rintro ρ H n3 ⟨⟨hh,m2_1⟩,sp⟩
 refine zE fun k' hk'=>?_
 simp[hh,m2_1]
 apply hk'
 refine Runs.cut (fun ρ H n=>∃ (v5:AVal),((ρ 1=int node∧ρ 2=pA n1 2∧ρ 5=v5)∧H (n1,2)=some ⟨6,[bC false b]⟩)∧Sep H n [oI v5 ([]:List Int)] [(n1,2)]) (by refine⟨.arr (n3,6) 0 0 0,by simp[hh,m2_1],(Sep.addEmpty (l:=[.c]) sp)⟩) ?_
 clear hh m2_1
 rintro ρ H n6 ⟨v5,⟨hh,m2_1⟩,sp⟩
 refine Runs.seq ?_
 refine Runs.block ?_
 refine Runs.loopW h (fun (sJ:Int × (List Int)) ρ H n=>match sJ with | (node14,l15)=>∃ (v16:AVal),((ρ 1=int node14∧ρ 2=pA n1 2∧ρ 5=v16)∧H (n1,2)=some ⟨6,[bC false b]⟩)∧Sep H n [oI v16 l15] [(n1,2)]) (by refine⟨v5,by simp[hh,m2_1],sp⟩) ?_
 clear hh m2_1
 rintro⟨node14,l15⟩ ρ H n17 K h ⟨v16,⟨hh,m2_1⟩,sp⟩ IH18
 refine Runs.seq ?_
 refine zE fun k' hk'=>?_
 obtain⟨c20,ec20,h⟩:=atm h
 have f21:=ib_geq (k:=.i64) ec20
 simp[hh,m2_1,f21,-intBin]
 apply hk'
 refine Runs.ite (b:=c20) (by simp[hh,m2_1]) (fun dc20=>?_) (fun dc20=>?_)
 ·replace h:=h.1 dc20
  refine Runs.skip ?_
  refine Runs.block ?_
  refine zE fun k' hk'=>?_
  obtain⟨hb22,h⟩:=h
  obtain⟨x23,ex23,h⟩:=atm h
  have f24:=fun H=>ix_list (H:=H) (fr:=false) (f:=(GNode.cells false)) (k:=.i64) kd_25 (fun _=>rfl) hb22 ex23
  simp[hh,m2_1,f24,dc20,-indexAddrF]
  apply hk'
  refine zF fun k' hk'=>?_
  obtain⟨hb25,h⟩:=h
  obtain⟨l26,el26,h⟩:=atm h
  simp[hh,m2_1,dc20,-appendF]
  refine bind_append [] [] [[int x23.parent]] [intC x23.parent] sp kd_26 (by simp) (by simp) (by simp) (by simp[-one1,o1x]) (rows_one (Fill.v _ Fill.nil)) (by simp) (by simpa using hb25) ?_
  rintro v27 H28 n29 sp hfr30 hle31
  replace sp:Sep H28 n29 [oI v27 l26] [(n1,2)]:=Sep.ap el26 sp
  have m2_1:=(hfr30 _ (by simp)).trans m2_1
  simp[hh,m2_1,dc20]
  apply hk'
  refine Runs.cut (fun ρ H n=>∃ (v33:AVal),((ρ 1=int x23.parent∧ρ 2=pA n1 2∧ρ 5=v33)∧H (n1,2)=some ⟨6,[bC false b]⟩)∧Sep H n [oI v33 l26] [(n1,2)]) (by refine⟨v27,by simp[hh,m2_1,dc20],sp⟩) ?_
  clear hh m2_1
  rintro ρ H n34 ⟨v33,⟨hh,m2_1⟩,sp⟩
  refine Runs.inBlock ?_
  refine IH18 (x23.parent,l26) _ _ _ h (by refine⟨v33,by simp[hh,m2_1],sp⟩)
 replace h:=h.2 dc20
 refine Runs.exit rfl ?_
 refine zE fun k' hk'=>?_
 simp[hh,m2_1,dc20]
 apply hk'
 exact Runs.ret1 (v:=v16) Tryd.func24 Tryd.results24 (by simp[hh,m2_1,dc20]) (hQ _ _ _ _ (Sep.sub (ids':=[]) sp (by simp)) ⟨l15,h,rfl⟩)
theorem l2Above_ok (b:Big) (node:Int) (hp:l2Above_pre b node):OwnS Tryd.prog 24 [.agg (bC false b),int node] (.s [.c]) (fun r=>r = .list true ((l2Above b node).map intC)):=(l2Above_walk b node _ (l2Above_vc b node hp)).mono (by rintro _ ⟨_,rfl,rfl⟩;rfl)
theorem e12:Ent Tryd.prog 12:=Ent.of Tryd.func12 (by kernel_rfl) rfl
theorem AncestorsOf_walk (sig:List Control) (b:Big) (node:Int) (Z:((List Int) × Bool)→Prop) (h:AncestorsOf_wp sig b node Z):OwnS Tryd.prog 12 [.list false (sig.map Control.cells),.agg (bC false b),int node] (.t [.s [.c],.c]) (fun r=>∃ y:(List Int) × Bool,Z y∧r = .tup [.list true (y.1.map intC),bool y.2]):=by
 unfold AncestorsOf_wp at h
 have sp:Sep noHeap 0 [] []:=Sep.nil (by simp)
 refine OwnS.of Tryd.func12 rfl Tryd.ntmps12 (by simp) fun Q hQ=>?_
 refine Runs.cut (fun ρ H n=>(ρ 0 = .list false (sig.map Control.cells)∧ρ 1 = .agg (bC false b)∧ρ 2=int node)∧Sep H n [] []) (by refine⟨by simp ,sp⟩) ?_
 rintro ρ H n1 ⟨hh,sp⟩
 refine zE fun k' hk'=>?_
 simp[hh]
 apply hk'
 refine Runs.cut (fun ρ H n=>((ρ 0 = .list false (sig.map Control.cells)∧ρ 2=int node∧ρ 4=pA n1 4)∧H (n1,4)=some ⟨6,[bC false b]⟩)∧Sep H n [] [(n1,4)]) (by refine⟨by simp[hh],sp.var⟩) ?_
 clear hh
 rintro ρ H n3 ⟨⟨hh,m4_1⟩,sp⟩
 refine Runs.seq ?_
 refine zE fun k' hk'=>?_
 obtain⟨J4,hJ5,hr6⟩:=h
 have fin8:∀ (sJ:Bool) (ρ:Env) (H:Heap) (n:Nat),J4 sJ→(match sJ with | b7=>((ρ 2=int node∧ρ 4=pA n1 4∧ρ 17=bool b7)∧H (n1,4)=some ⟨6,[bC false b]⟩)∧Sep H n [] [(n1,4)])→Runs Tryd.prog 12 21 k' ρ H n Q:=by
  rintro b7 ρ H n9 h ⟨⟨hh,m4_1⟩,sp⟩
  replace h:=hr6 _ h
  apply hk'
  refine Runs.ite (b:=b7) (by simp[hh,m4_1]) (fun db7=>?_) (fun db7=>?_)
  ·replace h:=h.1 db7
   refine zE fun k' hk'=>?_
   simp[hh,m4_1,db7]
   apply hk'
   exact Runs.ret2 (v:=.v (.slice none 0 0)) (w:=bool false) Tryd.func12 Tryd.results12 (by simp[hh,m4_1,db7]) (by simp[hh,m4_1,db7]) (hQ _ _ _ _ (Sep.sub (ids':=[]) (Sep.packT (Fill.own (Fill.v _ Fill.nil)) (Sep.addNil sp)) (by simp)) ⟨([],false),h,rfl⟩)
  replace h:=h.2 db7
  refine Runs.skip ?_
  refine zE fun k' hk'=>?_
  obtain⟨hb12,h⟩:=h
  obtain⟨r13,er13,h⟩:=atm h
  simp[hh,m4_1,db7]
  refine RunK.callW Ty_ok (ancestorsOf_ok b node hb12) e20 (.cons (argB false b) (.cons (.v _ _ _) .nil)) sp (by decide) (by decide) rfl (by simp[hh,m4_1,db7]) ?_
  rintro v14 H15 n16 _ sp rfl hle18 hfr17
  rw[← er13] at sp
  have m4_1:=(hfr17 _ (by simp)).trans m4_1
  simp[hh,m4_1,db7]
  apply hk'
  refine Runs.cut (fun ρ H n=>∃ (v21:AVal),(ρ 6=v21∧ρ 7=bool true)∧Sep H n [oI v21 r13] []) (by refine⟨v14,by simp[hh,m4_1,db7],(Sep.sub sp (by simp +contextual))⟩) ?_
  clear hh m4_1
  rintro ρ H n22 ⟨v21,hh,sp⟩
  exact Runs.ret2 (v:=v21) (w:=bool true) Tryd.func12 Tryd.results12 (by simp[hh]) (by simp[hh]) (hQ _ _ _ _ (Sep.sub (ids':=[]) (Sep.packT (Fill.own (Fill.v _ Fill.nil)) sp) (by simp)) ⟨(r13,true),h,rfl⟩)
 replace h:=hJ5
 obtain⟨hb24,h⟩:=h
 obtain⟨r25,er25,h⟩:=atm h
 simp[hh,m4_1]
 refine RunK.callA Ty_ok (IsBigraph_ok sig b hb24) e8 (.cons (argC false sig) (.cons (argB false b) .nil)) (by decide) (by decide) rfl (by simp[hh,m4_1]) ?_
 rintro _ rfl
 rw[← er25]
 rcases Bool.eq_false_or_eq_true r25 with dr25 | dr25
 ·replace h:=h.1 dr25
  obtain⟨hb26,h⟩:=h
  obtain⟨r27,er27,h⟩:=atm h
  simp[hh,m4_1,dr25]
  refine RunK.callA Ty_ok (isNodeB_ok b node hb26) e19 (.cons (argB false b) (.cons (.v _ _ _) .nil)) (by decide) (by decide) rfl (by simp[hh,m4_1,dr25]) ?_
  rintro _ rfl
  rw[← er27]
  simp[hh,m4_1,dr25]
  exact fin8 ((!r27)) _ _ _ h (by refine⟨by simp[hh,m4_1,dr25],sp⟩)
 replace h:=h.2 dr25
 simp[hh,m4_1,dr25]
 exact fin8 (true) _ _ _ h (by refine⟨by simp[hh,m4_1,dr25],sp⟩)
theorem AncestorsOf_ok (sig:List Control) (b:Big) (node:Int) (hp:AncestorsOf_pre sig b node):OwnS Tryd.prog 12 [.list false (sig.map Control.cells),.agg (bC false b),int node] (.t [.s [.c],.c]) (fun r=>r = .tup [.list true (((AncestorsOf sig b node).1).map intC),bool ((AncestorsOf sig b node).2)]):=(AncestorsOf_walk sig b node _ (AncestorsOf_vc sig b node hp)).mono (by rintro _ ⟨_,rfl,rfl⟩;rfl)
theorem e13:Ent Tryd.prog 13:=Ent.of Tryd.func13 (by kernel_rfl) rfl
theorem sAncestorsOf_walk (sig:List Control) (b:Big) (node:Int) (Z:((List Int) × Bool)→Prop) (h:sAncestorsOf_wp sig b node Z):OwnS Tryd.prog 13 [.list false (sig.map Control.cells),.agg (bC false b),int node] (.t [.s [.c],.c]) (fun r=>∃ y:(List Int) × Bool,Z y∧r = .tup [.list true (y.1.map intC),bool y.2]):=by
 unfold sAncestorsOf_wp at h
 have sp:Sep noHeap 0 [] []:=Sep.nil (by simp)
 refine OwnS.of Tryd.func13 rfl Tryd.ntmps13 (by simp) fun Q hQ=>?_
 refine Runs.cut (fun ρ H n=>(ρ 0 = .list false (sig.map Control.cells)∧ρ 1 = .agg (bC false b)∧ρ 2=int node)∧Sep H n [] []) (by refine⟨by simp ,sp⟩) ?_
 rintro ρ H n1 ⟨hh,sp⟩
 refine zE fun k' hk'=>?_
 simp[hh]
 apply hk'
 refine Runs.cut (fun ρ H n=>((ρ 0 = .list false (sig.map Control.cells)∧ρ 2=int node∧ρ 4=pA n1 4)∧H (n1,4)=some ⟨6,[bC false b]⟩)∧Sep H n [] [(n1,4)]) (by refine⟨by simp[hh],sp.var⟩) ?_
 clear hh
 rintro ρ H n3 ⟨⟨hh,m4_1⟩,sp⟩
 refine Runs.seq ?_
 refine zE fun k' hk'=>?_
 obtain⟨J4,hJ5,hr6⟩:=h
 have fin8:∀ (sJ:Bool) (ρ:Env) (H:Heap) (n:Nat),J4 sJ→(match sJ with | b7=>((ρ 2=int node∧ρ 4=pA n1 4∧ρ 17=bool b7)∧H (n1,4)=some ⟨6,[bC false b]⟩)∧Sep H n [] [(n1,4)])→Runs Tryd.prog 13 22 k' ρ H n Q:=by
  rintro b7 ρ H n9 h ⟨⟨hh,m4_1⟩,sp⟩
  replace h:=hr6 _ h
  apply hk'
  refine Runs.ite (b:=b7) (by simp[hh,m4_1]) (fun db7=>?_) (fun db7=>?_)
  ·replace h:=h.1 db7
   refine zE fun k' hk'=>?_
   simp[hh,m4_1,db7]
   apply hk'
   refine Runs.cut (fun ρ H n=>∃ (v11:AVal),(ρ 6=v11∧ρ 7=bool false)∧Sep H n [oI v11 ([]:List Int)] []) (by refine⟨.arr (n9,18) 0 0 0,by simp[hh,m4_1,db7],(Sep.sub (Sep.addEmpty (l:=[.c]) sp) (by simp +contextual))⟩) ?_
   clear hh m4_1
   rintro ρ H n12 ⟨v11,hh,sp⟩
   exact Runs.ret2 (v:=v11) (w:=bool false) Tryd.func13 Tryd.results13 (by simp[hh]) (by simp[hh]) (hQ _ _ _ _ (Sep.sub (ids':=[]) (Sep.packT (Fill.own (Fill.v _ Fill.nil)) sp) (by simp)) ⟨(([]:List Int),false),h,rfl⟩)
  replace h:=h.2 db7
  refine Runs.skip ?_
  refine zE fun k' hk'=>?_
  obtain⟨hb14,h⟩:=h
  obtain⟨r15,er15,h⟩:=atm h
  simp[hh,m4_1,db7]
  refine RunK.callW Ty_ok (l2Above_ok b node hb14) e24 (.cons (argB false b) (.cons (.v _ _ _) .nil)) sp (by decide) (by decide) rfl (by simp[hh,m4_1,db7]) ?_
  rintro v16 H17 n18 _ sp rfl hle20 hfr19
  rw[← er15] at sp
  have m4_1:=(hfr19 _ (by simp)).trans m4_1
  simp[hh,m4_1,db7]
  apply hk'
  refine Runs.cut (fun ρ H n=>∃ (v23:AVal),(ρ 6=v23∧ρ 7=bool true)∧Sep H n [oI v23 r15] []) (by refine⟨v16,by simp[hh,m4_1,db7],(Sep.sub sp (by simp +contextual))⟩) ?_
  clear hh m4_1
  rintro ρ H n24 ⟨v23,hh,sp⟩
  exact Runs.ret2 (v:=v23) (w:=bool true) Tryd.func13 Tryd.results13 (by simp[hh]) (by simp[hh]) (hQ _ _ _ _ (Sep.sub (ids':=[]) (Sep.packT (Fill.own (Fill.v _ Fill.nil)) sp) (by simp)) ⟨(r15,true),h,rfl⟩)
 replace h:=hJ5
 obtain⟨hb26,h⟩:=h
 obtain⟨r27,er27,h⟩:=atm h
 simp[hh,m4_1]
 refine RunK.callA Ty_ok (l2Good_ok sig b hb26) e22 (.cons (argC false sig) (.cons (argB false b) .nil)) (by decide) (by decide) rfl (by simp[hh,m4_1]) ?_
 rintro _ rfl
 rw[← er27]
 rcases Bool.eq_false_or_eq_true r27 with dr27 | dr27
 ·replace h:=h.1 dr27
  obtain⟨hb28,h⟩:=h
  obtain⟨r29,er29,h⟩:=atm h
  simp[hh,m4_1,dr27]
  refine RunK.callA Ty_ok (l2Is_ok b node hb28) e23 (.cons (argB false b) (.cons (.v _ _ _) .nil)) (by decide) (by decide) rfl (by simp[hh,m4_1,dr27]) ?_
  rintro _ rfl
  rw[← er29]
  simp[hh,m4_1,dr27]
  exact fin8 ((!r29)) _ _ _ h (by refine⟨by simp[hh,m4_1,dr27],sp⟩)
 replace h:=h.2 dr27
 simp[hh,m4_1,dr27]
 exact fin8 (true) _ _ _ h (by refine⟨by simp[hh,m4_1,dr27],sp⟩)
theorem sAncestorsOf_ok (sig:List Control) (b:Big) (node:Int) (hp:sAncestorsOf_pre sig b node):OwnS Tryd.prog 13 [.list false (sig.map Control.cells),.agg (bC false b),int node] (.t [.s [.c],.c]) (fun r=>r = .tup [.list true (((sAncestorsOf sig b node).1).map intC),bool ((sAncestorsOf sig b node).2)]):=(sAncestorsOf_walk sig b node _ (sAncestorsOf_vc sig b node hp)).mono (by rintro _ ⟨_,rfl,rfl⟩;rfl)
theorem e38:Ent Tryd.prog 38:=Ent.of Tryd.func38 (by kernel_rfl) rfl
theorem plcB_walk (b:Big) (x:Int) (Z:Bool→Prop) (h:plcB_wp b x Z):PureC Tryd.prog 38 [.agg (bC false b),int x] (fun r=>∃ y:Bool,Z y∧r=bool y):=by
 unfold plcB_wp at h
 refine PureC.of Tryd.func38 rfl Tryd.ntmps38 (by simp) fun Q hQ=>?_
 refine Runs.cut (fun ρ H n=>(ρ 0 = .agg (bC false b)∧ρ 1=int x)) (by simp) ?_
 rintro ρ H n1 hh
 refine zE fun k' hk'=>?_
 simp[hh]
 apply hk'
 refine Runs.cut (fun ρ H n=>(ρ 1=int x∧ρ 2=pA n1 2)∧H (n1,2)=some ⟨6,[bC false b]⟩) (by refine⟨?_,?_⟩<;>simp[hh]) ?_
 clear hh
 rintro ρ H n3 ⟨hh,m2_1⟩
 refine zE fun k' hk'=>?_
 obtain⟨hb4,h⟩:=h
 obtain⟨v5,ev5,h⟩:=atm h
 have f6:=ub_neg hb4 ev5
 obtain⟨len7,elen7,h⟩:=atm h
 have f8:=fun H=>len_list (H:=H) (fr:=false) (f:=(GNode.cells false)) kd_25 elen7
 obtain⟨hb9,h⟩:=h
 obtain⟨v10,ev10,h⟩:=atm h
 have f11:=ib_sub hb9 ev10
 obtain⟨r12,er12,h⟩:=atm h
 simp[hh,m2_1,f6,f8,f11,-intBin,-lenF,-unF,ub_not']
 refine RunK.callA Ty_ok (l1In_ok x v5 v10) e48 (.cons (.v _ _ _) (.cons (.v _ _ _) (.cons (.v _ _ _) .nil))) (by decide) (by decide) rfl (by simp[hh,m2_1,f6,f8,f11,-intBin,-lenF,-unF,ub_not']) ?_
 rintro _ rfl
 rw[← er12]
 simp[hh,m2_1,f6,f8,f11,-intBin,-lenF,-unF,ub_not']
 apply hk'
 exact Runs.ret1 (v:=bool r12) Tryd.func38 Tryd.results38 (by simp[hh,m2_1]) (hQ _ _ _ _ (.of (.v _)) ⟨r12,h,rfl⟩)
theorem plcB_ok (b:Big) (x:Int) (hp:plcB_pre b x):PureC Tryd.prog 38 [.agg (bC false b),int x] (fun r=>r=bool (plcB b x)):=(plcB_walk b x _ (plcB_vc b x hp)).mono (by rintro _ ⟨_,rfl,rfl⟩;rfl)
theorem e9:Ent Tryd.prog 9:=Ent.of Tryd.func9 (by kernel_rfl) rfl
theorem ChildrenOf_walk (sig:List Control) (b:Big) (parent:Int) (Z:((List Int) × (List Int) × Bool)→Prop) (h:ChildrenOf_wp sig b parent Z):OwnS Tryd.prog 9 [.list false (sig.map Control.cells),.agg (bC false b),int parent] (.t [.s [.c],.s [.c],.c]) (fun r=>∃ y:(List Int) × (List Int) × Bool,Z y∧r = .tup [.list true (y.1.map intC),.list true (y.2.1.map intC),bool y.2.2]):=by
 unfold ChildrenOf_wp at h
 have sp:Sep noHeap 0 [] []:=Sep.nil (by simp)
 refine OwnS.of Tryd.func9 rfl Tryd.ntmps9 (by simp) fun Q hQ=>?_
 refine Runs.cut (fun ρ H n=>(ρ 0 = .list false (sig.map Control.cells)∧ρ 1 = .agg (bC false b)∧ρ 2=int parent)∧Sep H n [] []) (by refine⟨by simp ,sp⟩) ?_
 rintro ρ H n1 ⟨hh,sp⟩
 refine zE fun k' hk'=>?_
 simp[hh]
 apply hk'
 refine Runs.cut (fun ρ H n=>((ρ 0 = .list false (sig.map Control.cells)∧ρ 2=int parent∧ρ 4=pA n1 4)∧H (n1,4)=some ⟨6,[bC false b]⟩)∧Sep H n [] [(n1,4)]) (by refine⟨by simp[hh],sp.var⟩) ?_
 clear hh
 rintro ρ H n3 ⟨⟨hh,m4_1⟩,sp⟩
 refine Runs.seq ?_
 refine zE fun k' hk'=>?_
 obtain⟨J4,hJ5,hr6⟩:=h
 have fin8:∀ (sJ:Bool) (ρ:Env) (H:Heap) (n:Nat),J4 sJ→(match sJ with | b7=>((ρ 2=int parent∧ρ 4=pA n1 4∧ρ 26=bool b7)∧H (n1,4)=some ⟨6,[bC false b]⟩)∧Sep H n [] [(n1,4)])→Runs Tryd.prog 9 35 k' ρ H n Q:=by
  rintro b7 ρ H n9 h ⟨⟨hh,m4_1⟩,sp⟩
  replace h:=hr6 _ h
  apply hk'
  refine Runs.ite (b:=b7) (by simp[hh,m4_1]) (fun db7=>?_) (fun db7=>?_)
  ·replace h:=h.1 db7
   refine zE fun k' hk'=>?_
   simp[hh,m4_1,db7]
   apply hk'
   exact Runs.ret3 (v:=.v (.slice none 0 0)) (w:=.v (.slice none 0 0)) (z:=bool false) Tryd.func9 Tryd.results9 (by simp[hh,m4_1,db7]) (by simp[hh,m4_1,db7]) (by simp[hh,m4_1,db7]) (hQ _ _ _ _ (Sep.sub (ids':=[]) (Sep.packT (Fill.own (Fill.own (Fill.v _ Fill.nil))) (Sep.f1 (Sep.addNil (Sep.addNil sp)))) (by simp)) ⟨([],[],false),h,rfl⟩)
  replace h:=h.2 db7
  refine Runs.skip ?_
  refine zE fun k' hk'=>?_
  obtain⟨hb13,h⟩:=h
  obtain⟨r14,er14,h⟩:=atm h
  simp[hh,m4_1,db7]
  refine RunK.callW Ty_ok (childrenOf_ok b parent hb13) e37 (.cons (argB false b) (.cons (.v _ _ _) .nil)) sp (by decide) (by decide) rfl (by simp[hh,m4_1,db7]) ?_
  rintro v15 H16 n17 _ sp rfl hle19 hfr18
  rw[← er14] at sp
  have m4_1:=(hfr18 _ (by simp)).trans m4_1
  replace sp:=Sep.unpackT sp
  obtain⟨L23,hv,hl24,sp⟩:=sp
  subst hv
  obtain⟨v21,v22,hv⟩:=len2 (by simpa using hl24)
  subst hv
  simp only[zip3,List.cons_append,List.nil_append] at sp
  replace sp:=Sep.rot sp
  try simp only[List.cons_append,List.nil_append,List.append_assoc] at sp
  replace sp:=Sep.rot sp
  try simp only[List.cons_append,List.nil_append,List.append_assoc] at sp
  simp[hh,m4_1,db7]
  apply hk'
  refine Runs.cut (fun ρ H n=>∃ (v27 v28:AVal),(ρ 9=v27∧ρ 10=v28)∧Sep H n [oI v27 r14.1,oI v28 r14.2] []) (by refine⟨v21,v22,by simp[hh,m4_1,db7],(Sep.sub sp (by simp +contextual))⟩) ?_
  clear hh m4_1
  rintro ρ H n29 ⟨v27,v28,hh,sp⟩
  refine zE fun k' hk'=>?_
  simp[hh]
  apply hk'
  exact Runs.ret3 (v:=v27) (w:=v28) (z:=bool true) Tryd.func9 Tryd.results9 (by simp[hh]) (by simp[hh]) (by simp[hh]) (hQ _ _ _ _ (Sep.sub (ids':=[]) (Sep.packT (Fill.own (Fill.own (Fill.v _ Fill.nil))) sp) (by simp)) ⟨(r14.1,r14.2,true),h,rfl⟩)
 replace h:=hJ5
 obtain⟨hb31,h⟩:=h
 obtain⟨r32,er32,h⟩:=atm h
 simp[hh,m4_1]
 refine RunK.callA Ty_ok (IsBigraph_ok sig b hb31) e8 (.cons (argC false sig) (.cons (argB false b) .nil)) (by decide) (by decide) rfl (by simp[hh,m4_1]) ?_
 rintro _ rfl
 rw[← er32]
 rcases Bool.eq_false_or_eq_true r32 with dr32 | dr32
 ·replace h:=h.1 dr32
  obtain⟨hb33,h⟩:=h
  obtain⟨v34,ev34,h⟩:=atm h
  have f35:=ub_neg hb33 ev34
  obtain⟨len36,elen36,h⟩:=atm h
  have f37:=fun H=>len_list (H:=H) (fr:=false) (f:=(GNode.cells false)) kd_25 elen36
  obtain⟨hb38,h⟩:=h
  obtain⟨v39,ev39,h⟩:=atm h
  have f40:=ib_sub hb38 ev39
  obtain⟨r41,er41,h⟩:=atm h
  simp[hh,m4_1,f35,f37,f40,dr32,-intBin,-lenF,-unF,ub_not']
  refine RunK.callA Ty_ok (within_ok parent v34 v39 ) e27 (.cons (.v _ _ _) (.cons (.v _ _ _) (.cons (.v _ _ _) .nil))) (by decide) (by decide) rfl (by simp[hh,m4_1,f35,f37,f40,dr32,-intBin,-lenF,-unF,ub_not']) ?_
  rintro _ rfl
  rw[← er41]
  simp[hh,m4_1,f35,f37,f40,dr32,-intBin,-lenF,-unF,ub_not']
  exact fin8 ((!r41)) _ _ _ h (by refine⟨by simp[hh,m4_1,f35,f37,f40,dr32,-intBin,-lenF,-unF,ub_not'],sp⟩)
 replace h:=h.2 dr32
 simp[hh,m4_1,dr32]
 exact fin8 (true) _ _ _ h (by refine⟨by simp[hh,m4_1,dr32],sp⟩)
theorem ChildrenOf_ok (sig:List Control) (b:Big) (parent:Int) (hp:ChildrenOf_pre sig b parent):OwnS Tryd.prog 9 [.list false (sig.map Control.cells),.agg (bC false b),int parent] (.t [.s [.c],.s [.c],.c]) (fun r=>r = .tup [.list true (((ChildrenOf sig b parent).1).map intC),.list true (((ChildrenOf sig b parent).2.1).map intC),bool ((ChildrenOf sig b parent).2.2)]):=(ChildrenOf_walk sig b parent _ (ChildrenOf_vc sig b parent hp)).mono (by rintro _ ⟨_,rfl,rfl⟩;rfl)
theorem e10:Ent Tryd.prog 10:=Ent.of Tryd.func10 (by kernel_rfl) rfl
theorem sChildrenOf_walk (sig:List Control) (b:Big) (parent:Int) (Z:((List Int) × (List Int) × Bool)→Prop) (h:sChildrenOf_wp sig b parent Z):PureC Tryd.prog 10 [.list false (sig.map Control.cells),.agg (bC false b),int parent] (fun r=>∃ y:(List Int) × (List Int) × Bool,Z y∧r = .tup [.list true (y.1.map intC),.list true (y.2.1.map intC),bool y.2.2]):=by
 unfold sChildrenOf_wp at h
 refine PureC.of Tryd.func10 rfl Tryd.ntmps10 (by simp) fun Q hQ=>?_
 refine Runs.cut (fun ρ H n=>(ρ 0 = .list false (sig.map Control.cells)∧ρ 1 = .agg (bC false b)∧ρ 2=int parent)) (by simp) ?_
 rintro ρ H n1 hh
 refine zE fun k' hk'=>?_
 simp[hh]
 apply hk'
 refine Runs.cut (fun ρ H n=>(ρ 0 = .list false (sig.map Control.cells)∧ρ 2=int parent∧ρ 4=pA n1 4)∧H (n1,4)=some ⟨6,[bC false b]⟩) (by refine⟨?_,?_⟩<;>simp[hh]) ?_
 clear hh
 rintro ρ H n3 ⟨hh,m4_1⟩
 refine Runs.seq ?_
 refine zE fun k' hk'=>?_
 obtain⟨J4,hJ5,hr6⟩:=h
 have fin8:∀ (sJ:Bool) (ρ:Env) (H:Heap) (n:Nat),J4 sJ→(match sJ with | b7=>(ρ 2=int parent∧ρ 4=pA n1 4∧ρ 18=bool b7)∧H (n1,4)=some ⟨6,[bC false b]⟩)→Runs Tryd.prog 10 27 k' ρ H n Q:=by
  rintro b7 ρ H n9 h ⟨hh,m4_1⟩
  replace h:=hr6 _ h
  apply hk'
  refine Runs.ite (b:=b7) (by simp[hh,m4_1]) (fun db7=>?_) (fun db7=>?_)
  ·replace h:=h.1 db7
   refine zE fun k' hk'=>?_
   simp[hh,m4_1,db7]
   apply hk'
   refine Runs.cut (fun ρ H n=>(ρ 6 = .arr (n9,19) 0 0 0∧ρ 7 = .arr (n9+1,20) 0 0 0∧ρ 8=bool false)∧H (n9,19)=some ⟨1,([]:List Int).map intC⟩∧H (n9+1,20)=some ⟨1,([]:List Int).map intC⟩) (by refine⟨?_,?_,?_⟩<;>simp[hh,m4_1,db7]) ?_
   clear hh m4_1
   rintro ρ H n12 ⟨hh,m19_9,m20_10⟩
   exact Runs.ret3 (v:=.arr (n9,19) 0 0 0) (w:=.arr (n9+1,20) 0 0 0) (z:=bool false) Tryd.func10 Tryd.results10 (by simp[hh,m19_9,m20_10]) (by simp[hh,m19_9,m20_10]) (by simp[hh,m19_9,m20_10]) (hQ _ _ _ _ (.of (.tupL (.cons (.arrF (sz:=1) (els:=([]:List Int).map intC) (by simp[hh,m19_9,m20_10,live]) (by simp)) (.cons (.arrF (sz:=1) (els:=([]:List Int).map intC) (by simp[hh,m19_9,m20_10,live]) (by simp)) (.cons (.v _) .nil))))) ⟨(([]:List Int),([]:List Int),false),h,rfl⟩)
  replace h:=h.2 db7
  refine Runs.skip ?_
  refine Runs.seqD Ty_ok kindOp_ok draws (by decide) (by kernel_rfl) fun k' hk'=>?_
  obtain⟨hb13,h⟩:=h
  obtain⟨r14,er14,h⟩:=atm h
  simp[hh,m4_1,db7]
  refine RunDK.callA Ty_ok kindOp_ok ((l2Kids_ok b parent hb13).pure) e39 (.cons (argB false b) (.cons (.v _ _ _) .nil)) (by decide) rfl (by simp[hh,m4_1,db7]) ?_
  rw[← er14]
  obtain⟨hb15,h⟩:=h
  obtain⟨r16,er16,h⟩:=atm h
  simp[hh,m4_1,db7]
  refine RunDK.callA Ty_ok kindOp_ok ((l2Holes_ok b parent hb15).pure) e40 (.cons (argB false b) (.cons (.v _ _ _) .nil)) (by decide) rfl (by simp[hh,m4_1,db7]) ?_
  rw[← er16]
  simp[hh,m4_1,db7]
  apply hk'
  exact Runs.ret3 (v:=.list true (r14.map intC)) (w:=.list true (r16.map intC)) (z:=bool true) Tryd.func10 Tryd.results10 (by simp[hh,m4_1,db7]) (by simp[hh,m4_1,db7]) (by simp[hh,m4_1,db7]) (hQ _ _ _ _ (.of (.tupL (.cons (.fresh (by simp)) (.cons (.fresh (by simp)) (.cons (.v _) .nil))))) ⟨(r14,r16,true),h,rfl⟩)
 replace h:=hJ5
 obtain⟨hb17,h⟩:=h
 obtain⟨r18,er18,h⟩:=atm h
 simp[hh,m4_1]
 refine RunK.callA Ty_ok (l2Good_ok sig b hb17) e22 (.cons (argC false sig) (.cons (argB false b) .nil)) (by decide) (by decide) rfl (by simp[hh,m4_1]) ?_
 rintro _ rfl
 rw[← er18]
 rcases Bool.eq_false_or_eq_true r18 with dr18 | dr18
 ·replace h:=h.1 dr18
  obtain⟨hb19,h⟩:=h
  obtain⟨r20,er20,h⟩:=atm h
  simp[hh,m4_1,dr18]
  refine RunK.callA Ty_ok (plcB_ok b parent hb19) e38 (.cons (argB false b) (.cons (.v _ _ _) .nil)) (by decide) (by decide) rfl (by simp[hh,m4_1,dr18]) ?_
  rintro _ rfl
  rw[← er20]
  simp[hh,m4_1,dr18]
  exact fin8 ((!r20)) _ _ _ h (by refine⟨?_,?_⟩<;>simp[hh,m4_1,dr18])
 replace h:=h.2 dr18
 simp[hh,m4_1,dr18]
 exact fin8 (true) _ _ _ h (by refine⟨?_,?_⟩<;>simp[hh,m4_1,dr18])
theorem sChildrenOf_ok (sig:List Control) (b:Big) (parent:Int) (hp:sChildrenOf_pre sig b parent):PureC Tryd.prog 10 [.list false (sig.map Control.cells),.agg (bC false b),int parent] (fun r=>r = .tup [.list true (((sChildrenOf sig b parent).1).map intC),.list true (((sChildrenOf sig b parent).2.1).map intC),bool ((sChildrenOf sig b parent).2.2)]):=(sChildrenOf_walk sig b parent _ (sChildrenOf_vc sig b parent hp)).mono (by rintro _ ⟨_,rfl,rfl⟩;rfl)
theorem e3:Ent Tryd.prog 3:=Ent.of Tryd.func3 (by kernel_rfl) rfl
theorem lawPlaces_walk (code:List Int) (Z:Bool→Prop) (h:lawPlaces_wp code Z):PureC Tryd.prog 3 [.list false (code.map byteC)] (fun r=>∃ y:Bool,Z y∧r=bool y):=by
 unfold lawPlaces_wp at h
 refine PureC.of Tryd.func3 rfl Tryd.ntmps3 (by simp) fun Q hQ=>?_
 refine Runs.cut (fun ρ H n=>ρ 0 = .list false (code.map byteC)) (by simp[byteC]) ?_
 rintro ρ H n1 hh
 refine zE fun k' hk'=>?_
 simp[hh,byteC]
 apply hk'
 refine Runs.seq ?_
 refine zE fun k' hk'=>?_
 obtain⟨hb2,h⟩:=h
 obtain⟨r3,er3,h⟩:=atm h
 simp[hh,byteC]
 refine RunK.callA Ty_ok (rBigZ_ok code hb2) e4 (.cons (ArgOk.listF (fr:=false) (els:=code.map byteC) (by simp[byteC])) .nil) (by decide) (by decide) rfl (by simp[hh,byteC]) ?_
 rintro _ rfl
 rw[← er3]
 simp[hh,byteC]
 apply hk'
 refine Runs.ite (b:=r3) (by simp[hh,byteC]) (fun dr3=>?_) (fun dr3=>?_)
 ·replace h:=h.1 dr3
  refine zE fun k' hk'=>?_
  simp[hh,dr3,byteC]
  apply hk'
  exact Runs.ret1 (v:=bool true) Tryd.func3 Tryd.results3 (by simp[hh,dr3,byteC]) (hQ _ _ _ _ (.of (.v _)) ⟨true,h,rfl⟩)
 replace h:=h.2 dr3
 refine Runs.skip ?_
 refine zE fun k' hk'=>?_
 obtain⟨hb4,h⟩:=h
 simp[hh,dr3,byteC]
 refine RunK.callA Ty_ok (drawCP_ok code hb4) e5 (.cons (ArgOk.listF (fr:=false) (els:=code.map byteC) (by simp[byteC])) .nil) (by decide) (by decide) rfl (by simp[hh,dr3,byteC]) ?_
 rintro _ ⟨r5,er5,rfl⟩
 replace h:=h r5 er5
 simp[hh,dr3,byteC]
 apply hk'
 refine Runs.cut (fun ρ H n=>(ρ 3 = .list true (r5.1.map Control.cells)∧ρ 4=pA n1 4∧ρ 5=int r5.2.2.1∧ρ 6=int r5.2.2.2)∧H (n1,4)=some ⟨6,[bC true r5.2.1]⟩) (by refine⟨?_,?_⟩<;>simp[hh,dr3,byteC]) ?_
 clear hh
 rintro ρ H n7 ⟨hh,m4_5⟩
 refine zE fun k' hk'=>?_
 obtain⟨hb8,h⟩:=h
 obtain⟨r9,er9,h⟩:=atm h
 simp[hh,m4_5,byteC]
 refine RunK.callA Ty_ok (CommonPlace_ok r5.1 r5.2.1 r5.2.2.1 r5.2.2.2 hb8) e6 (.cons (argC true r5.1) (.cons (argB true r5.2.1) (.cons (.v _ _ _) (.cons (.v _ _ _) .nil)))) (by decide) (by decide) rfl (by simp[hh,m4_5,byteC]) ?_
 rintro _ rfl
 rw[← er9]
 simp[hh,m4_5,byteC]
 apply hk'
 refine Runs.seq ?_
 refine zE fun k' hk'=>?_
 obtain⟨hb10,h⟩:=h
 obtain⟨r11,er11,h⟩:=atm h
 simp[hh,m4_5,byteC]
 refine RunK.callA Ty_ok (specCommonPlace_ok r5.1 r5.2.1 r5.2.2.1 r5.2.2.2 hb10) e7 (.cons (argC true r5.1) (.cons (argB true r5.2.1) (.cons (.v _ _ _) (.cons (.v _ _ _) .nil)))) (by decide) (by decide) rfl (by simp[hh,m4_5,byteC]) ?_
 rintro _ rfl
 rw[← er11]
 simp[hh,m4_5,byteC]
 apply hk'
 refine Runs.cut (fun ρ H n=>(ρ 3 = .list true (r5.1.map Control.cells)∧ρ 4=pA n1 4∧ρ 5=int r5.2.2.1∧ρ 6=int r5.2.2.2∧ρ 7=int r9.1∧ρ 8=bool r9.2∧ρ 9=int r11.1∧ρ 10=bool r11.2)∧H (n1,4)=some ⟨6,[bC true r5.2.1]⟩) (by refine⟨?_,?_⟩<;>simp[hh,m4_5,byteC]) ?_
 clear hh m4_5
 rintro ρ H n12 ⟨hh,m4_5⟩
 refine zE fun k' hk'=>?_
 obtain⟨J13,hJ14,hr15⟩:=h
 have fin17:∀ (sJ:Bool) (ρ:Env) (H:Heap) (n:Nat),J13 sJ→(match sJ with | b16=>(ρ 3 = .list true (r5.1.map Control.cells)∧ρ 4=pA n1 4∧ρ 5=int r5.2.2.1∧ρ 6=int r5.2.2.2∧ρ 7=int r9.1∧ρ 8=bool r9.2∧ρ 64=bool b16)∧H (n1,4)=some ⟨6,[bC true r5.2.1]⟩)→Runs Tryd.prog 3 251 k' ρ H n Q:=by
  rintro b16 ρ H n18 h ⟨hh,m4_5⟩
  replace h:=hr15 _ h
  apply hk'
  refine Runs.ite (b:=b16) (by simp[hh,m4_5,byteC]) (fun db16=>?_) (fun db16=>?_)
  ·replace h:=h.1 db16
   refine zE fun k' hk'=>?_
   simp[hh,m4_5,db16,byteC]
   apply hk'
   exact Runs.ret1 (v:=bool false) Tryd.func3 Tryd.results3 (by simp[hh,m4_5,db16,byteC]) (hQ _ _ _ _ (.of (.v _)) ⟨false,h,rfl⟩)
  replace h:=h.2 db16
  refine Runs.skip ?_
  refine Runs.seq ?_
  refine zE fun k' hk'=>?_
  obtain⟨hb19,h⟩:=h
  obtain⟨r20,er20,h⟩:=atm h
  simp[hh,m4_5,db16,byteC]
  refine RunK.callA Ty_ok (IsBigraph_ok r5.1 r5.2.1 hb19) e8 (.cons (argC true r5.1) (.cons (argB true r5.2.1) .nil)) (by decide) (by decide) rfl (by simp[hh,m4_5,db16,byteC]) ?_
  rintro _ rfl
  rw[← er20]
  simp[hh,m4_5,db16,byteC]
  apply hk'
  refine Runs.ite (b:=(!r20)) (by simp[hh,m4_5,db16,byteC]) (fun dr20=>?_) (fun dr20=>?_)
  ·have dr20:r20=false:=by simpa using dr20
   replace h:=h.2 dr20
   refine zE fun k' hk'=>?_
   simp[hh,m4_5,db16,dr20,byteC]
   apply hk'
   exact Runs.ret1 (v:=bool (!r9.2)) Tryd.func3 Tryd.results3 (by simp[hh,m4_5,db16,dr20,byteC]) (hQ _ _ _ _ (.of (.v _)) ⟨(!r9.2),h,rfl⟩)
  have dr20:r20=true:=by simpa using dr20
  replace h:=h.1 dr20
  refine Runs.skip ?_
  refine zE fun k' hk'=>?_
  simp[hh,m4_5,db16,dr20,byteC]
  apply hk'
  refine Runs.seq ?_
  refine zE fun k' hk'=>?_
  obtain⟨hb21,h⟩:=h
  obtain⟨v22,ev22,h⟩:=atm h
  have f23:=ub_neg hb21 ev22
  simp[hh,m4_5,f23,db16,dr20,byteC,-unF,ub_not']
  apply hk'
  refine Runs.block ?_
  refine Runs.loopW h (fun (sJ:Int × Int) ρ H n=>match sJ with | (seen27,parent28)=>(ρ 3 = .list true (r5.1.map Control.cells)∧ρ 4=pA n1 4∧ρ 5=int r5.2.2.1∧ρ 6=int r5.2.2.2∧ρ 7=int r9.1∧ρ 8=bool r9.2∧ρ 11=int seen27∧ρ 12=int parent28)∧H (n1,4)=some ⟨6,[bC true r5.2.1]⟩) (by refine⟨?_,?_⟩<;>simp[hh,m4_5,db16,dr20,byteC]) ?_
  clear hh m4_5
  rintro⟨seen27,parent28⟩ ρ H n29 K h ⟨hh,m4_5⟩ IH30
  refine Runs.seq ?_
  refine zE fun k' hk'=>?_
  obtain⟨len32,elen32,h⟩:=atm h
  have f33:=fun H=>len_list (H:=H) (fr:=true) (f:=(GNode.cells true)) kd_25 elen32
  obtain⟨c34,ec34,h⟩:=atm h
  have f35:=ib_lss (k:=.i64) ec34
  simp[hh,m4_5,f33,f35,byteC,-intBin,-lenF]
  apply hk'
  refine Runs.ite (b:=c34) (by simp[hh,m4_5,byteC]) (fun dc34=>?_) (fun dc34=>?_)
  ·replace h:=h.1 dc34
   refine Runs.skip ?_
   refine Runs.seq ?_
   refine Runs.block ?_
   refine zE fun k' hk'=>?_
   obtain⟨hb36,h⟩:=h
   obtain⟨r37,er37,h⟩:=atm h
   simp[hh,m4_5,dc34,byteC]
   refine RunK.callA Ty_ok ((ChildrenOf_ok r5.1 r5.2.1 parent28 hb36).pure) e9 (.cons (argC true r5.1) (.cons (argB true r5.2.1) (.cons (.v _ _ _) .nil))) (by decide) (by decide) rfl (by simp[hh,m4_5,dc34,byteC]) ?_
   rintro _ rfl
   rw[← er37]
   simp[hh,m4_5,dc34,byteC]
   apply hk'
   refine Runs.cut (fun ρ H n=>(ρ 3 = .list true (r5.1.map Control.cells)∧ρ 4=pA n1 4∧ρ 5=int r5.2.2.1∧ρ 6=int r5.2.2.2∧ρ 7=int r9.1∧ρ 8=bool r9.2∧ρ 11=int seen27∧ρ 12=int parent28∧ρ 13 = .list true (r37.1.map intC)∧ρ 14 = .list true (r37.2.1.map intC)∧ρ 15=bool r37.2.2)∧H (n1,4)=some ⟨6,[bC true r5.2.1]⟩) (by refine⟨?_,?_⟩<;>simp[hh,m4_5,dc34,byteC]) ?_
   clear hh m4_5
   rintro ρ H n38 ⟨hh,m4_5⟩
   refine Runs.seq ?_
   refine zE fun k' hk'=>?_
   obtain⟨hb39,h⟩:=h
   obtain⟨r40,er40,h⟩:=atm h
   simp[hh,m4_5,byteC]
   refine RunK.callA Ty_ok (sChildrenOf_ok r5.1 r5.2.1 parent28 hb39) e10 (.cons (argC true r5.1) (.cons (argB true r5.2.1) (.cons (.v _ _ _) .nil))) (by decide) (by decide) rfl (by simp[hh,m4_5,byteC]) ?_
   rintro _ rfl
   rw[← er40]
   simp[hh,m4_5,byteC]
   apply hk'
   refine zE fun k' hk'=>?_
   obtain⟨J41,hJ42,hr43⟩:=h
   have fin45:∀ (sJ:Bool) (ρ:Env) (H:Heap) (n:Nat),J41 sJ→(match sJ with | b44=>(ρ 3 = .list true (r5.1.map Control.cells)∧ρ 4=pA n1 4∧ρ 5=int r5.2.2.1∧ρ 6=int r5.2.2.2∧ρ 7=int r9.1∧ρ 8=bool r9.2∧ρ 11=int seen27∧ρ 12=int parent28∧ρ 13 = .list true (r37.1.map intC)∧ρ 14 = .list true (r37.2.1.map intC)∧ρ 115=bool b44)∧H (n1,4)=some ⟨6,[bC true r5.2.1]⟩)→Runs Tryd.prog 3 251 k' ρ H n Q:=by
    rintro b44 ρ H n46 h ⟨hh,m4_5⟩
    replace h:=hr43 _ h
    apply hk'
    refine Runs.ite (b:=b44) (by simp[hh,m4_5,byteC]) (fun db44=>?_) (fun db44=>?_)
    ·replace h:=h.1 db44
     refine zE fun k' hk'=>?_
     simp[hh,m4_5,db44,byteC]
     apply hk'
     exact Runs.ret1 (v:=bool false) Tryd.func3 Tryd.results3 (by simp[hh,m4_5,db44,byteC]) (hQ _ _ _ _ (.of (.v _)) ⟨false,h,rfl⟩)
    replace h:=h.2 db44
    refine Runs.skip ?_
    refine zF fun k' hk'=>?_
    obtain⟨len47,elen47,h⟩:=atm h
    have f48:=fun H=>len_list (H:=H) (fr:=true) (f:=intC) kd_26 elen47
    obtain⟨hb49,h⟩:=h
    obtain⟨v50,ev50,h⟩:=atm h
    have f51:=ib_add hb49 ev50
    obtain⟨len52,elen52,h⟩:=atm h
    have f53:=fun H=>len_list (H:=H) (fr:=true) (f:=intC) kd_26 elen52
    obtain⟨hb54,h⟩:=h
    obtain⟨v55,ev55,h⟩:=atm h
    have f56:=ib_add hb54 ev55
    simp[hh,m4_5,f48,f51,f53,f56,db44,byteC,-intBin,-lenF]
    apply hk'
    refine Runs.inBlock ?_
    refine zF fun k' hk'=>?_
    obtain⟨hb57,h⟩:=h
    obtain⟨v58,ev58,h⟩:=atm h
    have f59:=ib_add hb57 ev58
    simp[hh,m4_5,f59,db44,byteC,-intBin]
    apply hk'
    refine IH30 (v55,v58) _ _ _ h (by refine⟨?_,?_⟩<;>simp[hh,m4_5,db44,byteC])
   replace h:=hJ42
   obtain⟨c60,ec60,h⟩:=atm h
   have f61:=bb_neq ec60
   rcases Bool.eq_false_or_eq_true c60 with dc60 | dc60
   ·replace h:=h.1 dc60
    simp[hh,m4_5,f61,dc60,byteC,-boolBin]
    exact fin45 (true) _ _ _ h (by refine⟨?_,?_⟩<;>simp[hh,m4_5,f61,dc60,byteC,-boolBin])
   replace h:=h.2 dc60
   rcases Bool.eq_false_or_eq_true r37.2.2 with dr37_2_2 | dr37_2_2
   ·replace h:=h.1 dr37_2_2
    try rw[dr37_2_2] at f61
    obtain⟨hb62,h⟩:=h
    obtain⟨r63,er63,h⟩:=atm h
    simp[hh,m4_5,f61,dc60,dr37_2_2,byteC,-boolBin]
    refine RunK.callA Ty_ok (rIntsZ_ok r37.1 r40.1 hb62) e11 (.cons (argI true r37.1) (.cons (argI true r40.1) .nil)) (by decide) (by decide) rfl (by simp[hh,m4_5,f61,dc60,dr37_2_2,byteC,-boolBin]) ?_
    rintro _ rfl
    rw[← er63]
    rcases Bool.eq_false_or_eq_true r63 with dr63 | dr63
    ·replace h:=h.1 dr63
     obtain⟨hb64,h⟩:=h
     obtain⟨r65,er65,h⟩:=atm h
     simp[hh,m4_5,f61,dc60,dr37_2_2,dr63,byteC,-boolBin]
     refine RunK.callA Ty_ok (rIntsZ_ok r37.2.1 r40.2.1 hb64) e11 (.cons (argI true r37.2.1) (.cons (argI true r40.2.1) .nil)) (by decide) (by decide) rfl (by simp[hh,m4_5,f61,dc60,dr37_2_2,dr63,byteC,-boolBin]) ?_
     rintro _ rfl
     rw[← er65]
     simp[hh,m4_5,f61,dc60,dr37_2_2,dr63,byteC,-boolBin]
     exact fin45 ((!r65)) _ _ _ h (by refine⟨?_,?_⟩<;>simp[hh,m4_5,f61,dc60,dr37_2_2,dr63,byteC,-boolBin])
    replace h:=h.2 dr63
    simp[hh,m4_5,f61,dc60,dr37_2_2,dr63,byteC,-boolBin]
    exact fin45 (true) _ _ _ h (by refine⟨?_,?_⟩<;>simp[hh,m4_5,f61,dc60,dr37_2_2,dr63,byteC,-boolBin])
   replace h:=h.2 dr37_2_2
   try rw[dr37_2_2] at f61
   simp[hh,m4_5,f61,dc60,dr37_2_2,byteC,-boolBin]
   exact fin45 (true) _ _ _ h (by refine⟨?_,?_⟩<;>simp[hh,m4_5,f61,dc60,dr37_2_2,byteC,-boolBin])
  replace h:=h.2 dc34
  refine Runs.exit rfl ?_
  refine Runs.seq ?_
  refine zE fun k' hk'=>?_
  obtain⟨len66,elen66,h⟩:=atm h
  have f67:=fun H=>len_list (H:=H) (fr:=true) (f:=(GNode.cells true)) kd_25 elen66
  obtain⟨len68,elen68,h⟩:=atm h
  have f69:=fun H=>len_list (H:=H) (fr:=true) (f:=intC) kd_26 elen68
  obtain⟨hb70,h⟩:=h
  obtain⟨v71,ev71,h⟩:=atm h
  have f72:=ib_add hb70 ev71
  obtain⟨c73,ec73,h⟩:=atm h
  have f74:=ib_neq (k:=.i64) ec73
  simp[hh,m4_5,f67,f69,f72,f74,dc34,byteC,-intBin,-lenF]
  apply hk'
  refine Runs.ite (b:=c73) (by simp[hh,m4_5,dc34,byteC]) (fun dc73=>?_) (fun dc73=>?_)
  ·replace h:=h.1 dc73
   refine zE fun k' hk'=>?_
   simp[hh,m4_5,dc34,dc73,byteC]
   apply hk'
   refine Runs.cut (fun ρ H n=>ρ 2=bool false) (by simp[hh,m4_5,dc34,dc73,byteC]) ?_
   clear hh m4_5
   rintro ρ H n75 hh
   exact Runs.ret1 (v:=bool false) Tryd.func3 Tryd.results3 (by simp[hh,byteC]) (hQ _ _ _ _ (.of (.v _)) ⟨false,h,rfl⟩)
  replace h:=h.2 dc73
  refine Runs.skip ?_
  refine Runs.seq ?_
  refine zE fun k' hk'=>?_
  simp[hh,m4_5,dc34,dc73,byteC]
  apply hk'
  refine Runs.cut (fun ρ H n=>(ρ 3 = .list true (r5.1.map Control.cells)∧ρ 4=pA n1 4∧ρ 5=int r5.2.2.1∧ρ 6=int r5.2.2.2∧ρ 7=int r9.1∧ρ 8=bool r9.2∧ρ 19=int 0)∧H (n1,4)=some ⟨6,[bC true r5.2.1]⟩) (by refine⟨?_,?_⟩<;>simp[hh,m4_5,dc34,dc73,byteC]) ?_
  clear hh m4_5
  rintro ρ H n76 ⟨hh,m4_5⟩
  refine Runs.block ?_
  refine Runs.loopW h (fun (sJ:Int) ρ H n=>match sJ with | i79=>(ρ 3 = .list true (r5.1.map Control.cells)∧ρ 4=pA n1 4∧ρ 5=int r5.2.2.1∧ρ 6=int r5.2.2.2∧ρ 7=int r9.1∧ρ 8=bool r9.2∧ρ 19=int i79)∧H (n1,4)=some ⟨6,[bC true r5.2.1]⟩) (by refine⟨?_,?_⟩<;>simp[hh,m4_5,byteC]) ?_
  clear hh m4_5
  rintro i79 ρ H n80 K h ⟨hh,m4_5⟩ IH81
  refine Runs.seq ?_
  refine zE fun k' hk'=>?_
  obtain⟨len83,elen83,h⟩:=atm h
  have f84:=fun H=>len_list (H:=H) (fr:=true) (f:=(GNode.cells true)) kd_25 elen83
  obtain⟨c85,ec85,h⟩:=atm h
  have f86:=ib_lss (k:=.i64) ec85
  simp[hh,m4_5,f84,f86,byteC,-intBin,-lenF]
  apply hk'
  refine Runs.ite (b:=c85) (by simp[hh,m4_5,byteC]) (fun dc85=>?_) (fun dc85=>?_)
  ·replace h:=h.1 dc85
   refine Runs.skip ?_
   refine Runs.seq ?_
   refine Runs.block ?_
   refine zE fun k' hk'=>?_
   obtain⟨hb87,h⟩:=h
   obtain⟨r88,er88,h⟩:=atm h
   simp[hh,m4_5,dc85,byteC]
   refine RunK.callA Ty_ok ((AncestorsOf_ok r5.1 r5.2.1 i79 hb87).pure) e12 (.cons (argC true r5.1) (.cons (argB true r5.2.1) (.cons (.v _ _ _) .nil))) (by decide) (by decide) rfl (by simp[hh,m4_5,dc85,byteC]) ?_
   rintro _ rfl
   rw[← er88]
   simp[hh,m4_5,dc85,byteC]
   apply hk'
   refine Runs.seq ?_
   refine zE fun k' hk'=>?_
   obtain⟨hb89,h⟩:=h
   obtain⟨r90,er90,h⟩:=atm h
   simp[hh,m4_5,dc85,byteC]
   refine RunK.callA Ty_ok ((sAncestorsOf_ok r5.1 r5.2.1 i79 hb89).pure) e13 (.cons (argC true r5.1) (.cons (argB true r5.2.1) (.cons (.v _ _ _) .nil))) (by decide) (by decide) rfl (by simp[hh,m4_5,dc85,byteC]) ?_
   rintro _ rfl
   rw[← er90]
   simp[hh,m4_5,dc85,byteC]
   apply hk'
   refine Runs.cut (fun ρ H n=>(ρ 3 = .list true (r5.1.map Control.cells)∧ρ 4=pA n1 4∧ρ 5=int r5.2.2.1∧ρ 6=int r5.2.2.2∧ρ 7=int r9.1∧ρ 8=bool r9.2∧ρ 19=int i79∧ρ 20 = .list true (r88.1.map intC)∧ρ 21=bool r88.2∧ρ 22 = .list true (r90.1.map intC)∧ρ 23=bool r90.2)∧H (n1,4)=some ⟨6,[bC true r5.2.1]⟩) (by refine⟨?_,?_⟩<;>simp[hh,m4_5,dc85,byteC]) ?_
   clear hh m4_5
   rintro ρ H n91 ⟨hh,m4_5⟩
   refine Runs.seqD Ty_ok kindOp_ok draws (by decide) (by kernel_rfl) fun k' hk'=>?_
   obtain⟨J92,hJ93,hr94⟩:=h
   have fin96:∀ (sJ:Bool) (ρ:Env) (H:Heap) (n:Nat),J92 sJ→(match sJ with | b95=>(ρ 3 = .list true (r5.1.map Control.cells)∧ρ 4=pA n1 4∧ρ 5=int r5.2.2.1∧ρ 6=int r5.2.2.2∧ρ 7=int r9.1∧ρ 8=bool r9.2∧ρ 19=int i79∧ρ 20 = .list true (r88.1.map intC)∧ρ 182=bool b95)∧H (n1,4)=some ⟨6,[bC true r5.2.1]⟩)→Runs Tryd.prog 3 251 k' ρ H n Q:=by
    rintro b95 ρ H n97 h ⟨hh,m4_5⟩
    replace h:=hr94 _ h
    apply hk'
    refine Runs.ite (b:=b95) (by simp[hh,m4_5,byteC]) (fun db95=>?_) (fun db95=>?_)
    ·replace h:=h.1 db95
     refine zE fun k' hk'=>?_
     simp[hh,m4_5,db95,byteC]
     apply hk'
     exact Runs.ret1 (v:=bool false) Tryd.func3 Tryd.results3 (by simp[hh,m4_5,db95,byteC]) (hQ _ _ _ _ (.of (.v _)) ⟨false,h,rfl⟩)
    replace h:=h.2 db95
    refine Runs.skip ?_
    refine zE fun k' hk'=>?_
    obtain⟨hb98,h⟩:=h
    obtain⟨x99,ex99,h⟩:=atm h
    have f100:=fun H=>ix_list (H:=H) (fr:=true) (f:=(GNode.cells true)) (k:=.i64) kd_25 (fun _=>rfl) hb98 ex99
    simp[hh,m4_5,f100,db95,byteC,-indexAddrF]
    apply hk'
    refine zE fun k' hk'=>?_
    obtain⟨c101,ec101,h⟩:=atm h
    have f102:=ib_geq (k:=.i64) ec101
    simp[hh,m4_5,f102,db95,byteC,-intBin]
    apply hk'
    refine Runs.ite (b:=c101) (by simp[hh,m4_5,db95,byteC]) (fun dc101=>?_) (fun dc101=>?_)
    ·replace h:=h.1 dc101
     refine zE fun k' hk'=>?_
     obtain⟨hb103,h⟩:=h
     obtain⟨r104,er104,h⟩:=atm h
     simp[hh,m4_5,db95,dc101,byteC]
     refine RunK.callA Ty_ok ((AncestorsOf_ok r5.1 r5.2.1 x99.parent hb103).pure) e12 (.cons (argC true r5.1) (.cons (argB true r5.2.1) (.cons (.v _ _ _) .nil))) (by decide) (by decide) rfl (by simp[hh,m4_5,db95,dc101,byteC]) ?_
     rintro _ rfl
     rw[← er104]
     simp[hh,m4_5,db95,dc101,byteC]
     apply hk'
     refine Runs.cut (fun ρ H n=>(ρ 3 = .list true (r5.1.map Control.cells)∧ρ 4=pA n1 4∧ρ 5=int r5.2.2.1∧ρ 6=int r5.2.2.2∧ρ 7=int r9.1∧ρ 8=bool r9.2∧ρ 19=int i79∧ρ 20 = .list true (r88.1.map intC)∧ρ 25 = .list true (r104.1.map intC)∧ρ 26=bool r104.2)∧H (n1,4)=some ⟨6,[bC true r5.2.1]⟩) (by refine⟨?_,?_⟩<;>simp[hh,m4_5,db95,dc101,byteC]) ?_
     clear hh m4_5
     rintro ρ H n105 ⟨hh,m4_5⟩
     refine zE fun k' hk'=>?_
     obtain⟨J106,hJ107,hr108⟩:=h
     have fin110:∀ (sJ:Bool) (ρ:Env) (H:Heap) (n:Nat),J106 sJ→(match sJ with | b109=>(ρ 3 = .list true (r5.1.map Control.cells)∧ρ 4=pA n1 4∧ρ 5=int r5.2.2.1∧ρ 6=int r5.2.2.2∧ρ 7=int r9.1∧ρ 8=bool r9.2∧ρ 19=int i79∧ρ 206=bool b109)∧H (n1,4)=some ⟨6,[bC true r5.2.1]⟩)→Runs Tryd.prog 3 251 k' ρ H n Q:=by
      rintro b109 ρ H n111 h ⟨hh,m4_5⟩
      replace h:=hr108 _ h
      apply hk'
      refine Runs.ite (b:=b109) (by simp[hh,m4_5,byteC]) (fun db109=>?_) (fun db109=>?_)
      ·replace h:=h.1 db109
       refine zE fun k' hk'=>?_
       simp[hh,m4_5,db109,byteC]
       apply hk'
       exact Runs.ret1 (v:=bool false) Tryd.func3 Tryd.results3 (by simp[hh,m4_5,db109,byteC]) (hQ _ _ _ _ (.of (.v _)) ⟨false,h,rfl⟩)
      replace h:=h.2 db109
      refine Runs.skip ?_
      refine Runs.inBlock ?_
      refine zF fun k' hk'=>?_
      obtain⟨hb112,h⟩:=h
      obtain⟨v113,ev113,h⟩:=atm h
      have f114:=ib_add hb112 ev113
      simp[hh,m4_5,f114,db109,byteC,-intBin]
      apply hk'
      refine IH81 (v113) _ _ _ h (by refine⟨?_,?_⟩<;>simp[hh,m4_5,db109,byteC])
     replace h:=hJ107
     rcases Bool.eq_false_or_eq_true r104.2 with dr104_2 | dr104_2
     ·replace h:=h.1 dr104_2
      obtain⟨hb115,h⟩:=h
      obtain⟨l116,el116,h⟩:=atm h
      have f117:=fun H=>sl_list (H:=H) (fr:=true) (f:=intC) (lo:=some (int 1)) (hi:=none) (a:=1) (b:=(r88.1.length:Int)) (by simp[boundOf]) (by simp[boundOf]) kd_26 (fun _=>rfl) hb115 el116
      obtain⟨hb118,h⟩:=h
      obtain⟨r119,er119,h⟩:=atm h
      simp[hh,m4_5,f117,dr104_2,byteC,-sliceF]
      refine RunK.callA Ty_ok (rIntsZ_ok r104.1 l116 hb118) e11 (.cons (argI true r104.1) (.cons (argI true l116) .nil)) (by decide) (by decide) rfl (by simp[hh,m4_5,f117,dr104_2,byteC,-sliceF]) ?_
      rintro _ rfl
      rw[← er119]
      simp[hh,m4_5,f117,dr104_2,byteC,-sliceF]
      exact fin110 ((!r119)) _ _ _ h (by refine⟨?_,?_⟩<;>simp[hh,m4_5,f117,dr104_2,byteC,-sliceF])
     replace h:=h.2 dr104_2
     simp[hh,m4_5,dr104_2,byteC]
     exact fin110 (true) _ _ _ h (by refine⟨?_,?_⟩<;>simp[hh,m4_5,dr104_2,byteC])
    replace h:=h.2 dc101
    refine Runs.skip ?_
    refine Runs.inBlock ?_
    refine zF fun k' hk'=>?_
    obtain⟨hb120,h⟩:=h
    obtain⟨v121,ev121,h⟩:=atm h
    have f122:=ib_add hb120 ev121
    simp[hh,m4_5,f122,db95,dc101,byteC,-intBin]
    apply hk'
    refine IH81 (v121) _ _ _ h (by refine⟨?_,?_⟩<;>simp[hh,m4_5,db95,dc101,byteC])
   replace h:=hJ93
   obtain⟨c123,ec123,h⟩:=atm h
   have f124:=bb_neq ec123
   rcases Bool.eq_false_or_eq_true c123 with dc123 | dc123
   ·replace h:=h.1 dc123
    simp[hh,m4_5,f124,dc123,byteC,-boolBin]
    exact fin96 (true) _ _ _ h (by refine⟨?_,?_⟩<;>simp[hh,m4_5,f124,dc123,byteC,-boolBin])
   replace h:=h.2 dc123
   rcases Bool.eq_false_or_eq_true r88.2 with dr88_2 | dr88_2
   ·replace h:=h.1 dr88_2
    try rw[dr88_2] at f124
    obtain⟨hb125,h⟩:=h
    obtain⟨r126,er126,h⟩:=atm h
    simp[hh,m4_5,f124,dc123,dr88_2,byteC,-boolBin]
    refine RunDK.callA Ty_ok kindOp_ok (rIntsZ_ok r88.1 r90.1 hb125) e11 (.cons (argI true r88.1) (.cons (argI true r90.1) .nil)) (by decide) rfl (by simp[hh,m4_5,f124,dc123,dr88_2,byteC,-boolBin]) ?_
    rw[← er126]
    rcases Bool.eq_false_or_eq_true r126 with dr126 | dr126
    ·replace h:=h.1 dr126
     obtain⟨len127,elen127,h⟩:=atm h
     have f128:=fun H=>len_list (H:=H) (fr:=true) (f:=intC) kd_26 elen127
     obtain⟨c129,ec129,h⟩:=atm h
     have f130:=ib_eql (k:=.i64) ec129
     rcases Bool.eq_false_or_eq_true c129 with dc129 | dc129
     ·replace h:=h.1 dc129
      simp[hh,m4_5,f124,f128,f130,dc123,dr88_2,dr126,dc129,byteC,-boolBin,-intBin,-lenF]
      exact fin96 (true) _ _ _ h (by refine⟨?_,?_⟩<;>simp[hh,m4_5,f124,f128,f130,dc123,dr88_2,dr126,dc129,byteC,-boolBin,-intBin,-lenF])
     replace h:=h.2 dc129
     obtain⟨hb131,h⟩:=h
     obtain⟨x132,ex132,h⟩:=atm h
     have f133:=fun H=>ix_list (H:=H) (fr:=true) (f:=intC) (k:=.i64) kd_26 (fun _=>rfl) hb131 ex132
     obtain⟨hb134,h⟩:=h
     obtain⟨x135,ex135,h⟩:=atm h
     have f136:=fun H=>ix_list (H:=H) (fr:=true) (f:=(GNode.cells true)) (k:=.i64) kd_25 (fun _=>rfl) hb134 ex135
     obtain⟨c137,ec137,h⟩:=atm h
     have f138:=ib_neq (k:=.i64) ec137
     simp[hh,m4_5,f124,f128,f130,f133,f136,f138,dc123,dr88_2,dr126,dc129,byteC,-boolBin,-indexAddrF,-intBin,-lenF]
     exact fin96 (c137) _ _ _ h (by refine⟨?_,?_⟩<;>simp[hh,m4_5,f124,f128,f130,f133,f136,f138,dc123,dr88_2,dr126,dc129,byteC,-boolBin,-indexAddrF,-intBin,-lenF])
    replace h:=h.2 dr126
    simp[hh,m4_5,f124,dc123,dr88_2,dr126,byteC,-boolBin]
    exact fin96 (true) _ _ _ h (by refine⟨?_,?_⟩<;>simp[hh,m4_5,f124,dc123,dr88_2,dr126,byteC,-boolBin])
   replace h:=h.2 dr88_2
   try rw[dr88_2] at f124
   simp[hh,m4_5,f124,dc123,dr88_2,byteC,-boolBin]
   exact fin96 (true) _ _ _ h (by refine⟨?_,?_⟩<;>simp[hh,m4_5,f124,dc123,dr88_2,byteC,-boolBin])
  replace h:=h.2 dc85
  refine Runs.exit rfl ?_
  refine Runs.seq ?_
  refine zE fun k' hk'=>?_
  simp[hh,m4_5,dc85,byteC]
  apply hk'
  refine Runs.ite (b:=(!r9.2)) (by simp[hh,m4_5,dc85,byteC]) (fun dr9_2=>?_) (fun dr9_2=>?_)
  ·have dr9_2:r9.2=false:=by simpa using dr9_2
   replace h:=h.2 dr9_2
   refine zE fun k' hk'=>?_
   simp[hh,m4_5,dc85,dr9_2,byteC]
   apply hk'
   exact Runs.ret1 (v:=bool true) Tryd.func3 Tryd.results3 (by simp[hh,m4_5,dc85,dr9_2,byteC]) (hQ _ _ _ _ (.of (.v _)) ⟨true,h,rfl⟩)
  have dr9_2:r9.2=true:=by simpa using dr9_2
  replace h:=h.1 dr9_2
  refine Runs.skip ?_
  refine zE fun k' hk'=>?_
  obtain⟨hb139,h⟩:=h
  obtain⟨r140,er140,h⟩:=atm h
  simp[hh,m4_5,dc85,dr9_2,byteC]
  refine RunK.callA Ty_ok ((AncestorsOf_ok r5.1 r5.2.1 r5.2.2.1 hb139).pure) e12 (.cons (argC true r5.1) (.cons (argB true r5.2.1) (.cons (.v _ _ _) .nil))) (by decide) (by decide) rfl (by simp[hh,m4_5,dc85,dr9_2,byteC]) ?_
  rintro _ rfl
  rw[← er140]
  simp[hh,m4_5,dc85,dr9_2,byteC]
  apply hk'
  refine Runs.cut (fun ρ H n=>(ρ 3 = .list true (r5.1.map Control.cells)∧ρ 4=pA n1 4∧ρ 6=int r5.2.2.2∧ρ 7=int r9.1∧ρ 27 = .list true (r140.1.map intC))∧H (n1,4)=some ⟨6,[bC true r5.2.1]⟩) (by refine⟨?_,?_⟩<;>simp[hh,m4_5,dc85,dr9_2,byteC]) ?_
  clear hh m4_5
  rintro ρ H n141 ⟨hh,m4_5⟩
  refine zE fun k' hk'=>?_
  obtain⟨hb142,h⟩:=h
  obtain⟨r143,er143,h⟩:=atm h
  simp[hh,m4_5,byteC]
  refine RunK.callA Ty_ok ((AncestorsOf_ok r5.1 r5.2.1 r5.2.2.2 hb142).pure) e12 (.cons (argC true r5.1) (.cons (argB true r5.2.1) (.cons (.v _ _ _) .nil))) (by decide) (by decide) rfl (by simp[hh,m4_5,byteC]) ?_
  rintro _ rfl
  rw[← er143]
  simp[hh,m4_5,byteC]
  apply hk'
  refine Runs.seq ?_
  refine zE fun k' hk'=>?_
  simp[hh,m4_5,byteC]
  apply hk'
  refine Runs.block ?_
  refine Runs.loopW h (fun (sJ:Int) ρ H n=>match sJ with | i146=>(ρ 7=int r9.1∧ρ 27 = .list true (r140.1.map intC)∧ρ 29 = .list true (r143.1.map intC)∧ρ 31=int i146)) (by simp[hh,m4_5,byteC]) ?_
  clear hh m4_5
  rintro i146 ρ H n147 K h hh IH148
  refine Runs.seq ?_
  refine zE fun k' hk'=>?_
  obtain⟨J150,hJ151,hr152⟩:=h
  have fin154:∀ (sJ:Bool) (ρ:Env) (H:Heap) (n:Nat),J150 sJ→(match sJ with | b153=>(ρ 7=int r9.1∧ρ 27 = .list true (r140.1.map intC)∧ρ 29 = .list true (r143.1.map intC)∧ρ 31=int i146∧ρ 234=bool b153))→Runs Tryd.prog 3 251 k' ρ H n Q:=by
   rintro b153 ρ H n155 h hh
   replace h:=hr152 _ h
   apply hk'
   refine Runs.ite (b:=b153) (by simp[hh,byteC]) (fun db153=>?_) (fun db153=>?_)
   ·replace h:=h.1 db153
    refine Runs.skip ?_
    refine Runs.seq ?_
    refine Runs.block ?_
    refine zE fun k' hk'=>?_
    obtain⟨hb156,h⟩:=h
    obtain⟨x157,ex157,h⟩:=atm h
    have f158:=fun H=>ix_list (H:=H) (fr:=true) (f:=intC) (k:=.i64) kd_26 (fun _=>rfl) hb156 ex157
    obtain⟨hb159,h⟩:=h
    obtain⟨r160,er160,h⟩:=atm h
    simp[hh,f158,db153,byteC,-indexAddrF]
    refine RunK.callA Ty_ok (rHasZ_ok r143.1 x157 hb159) e14 (.cons (argI true r143.1) (.cons (.v _ _ _) .nil)) (by decide) (by decide) rfl (by simp[hh,f158,db153,byteC,-indexAddrF]) ?_
    rintro _ rfl
    rw[← er160]
    simp[hh,f158,db153,byteC,-indexAddrF]
    apply hk'
    refine Runs.ite (b:=r160) (by simp[hh,db153,byteC]) (fun dr160=>?_) (fun dr160=>?_)
    ·replace h:=h.1 dr160
     refine zE fun k' hk'=>?_
     simp[hh,db153,dr160,byteC]
     apply hk'
     exact Runs.ret1 (v:=bool false) Tryd.func3 Tryd.results3 (by simp[hh,db153,dr160,byteC]) (hQ _ _ _ _ (.of (.v _)) ⟨false,h,rfl⟩)
    replace h:=h.2 dr160
    refine Runs.skip ?_
    refine Runs.inBlock ?_
    refine zF fun k' hk'=>?_
    obtain⟨hb161,h⟩:=h
    obtain⟨v162,ev162,h⟩:=atm h
    have f163:=ib_add hb161 ev162
    simp[hh,f163,db153,dr160,byteC,-intBin]
    apply hk'
    refine IH148 (v162) _ _ _ h (by simp[hh,db153,dr160,byteC])
   replace h:=h.2 db153
   refine Runs.exit rfl ?_
   refine zE fun k' hk'=>?_
   obtain⟨J164,hJ165,hr166⟩:=h
   have fin168:∀ (sJ:Bool) (ρ:Env) (H:Heap) (n:Nat),J164 sJ→(match sJ with | b167=>ρ 2=bool b167)→Runs Tryd.prog 3 251 k' ρ H n Q:=by
    rintro b167 ρ H n169 h hh
    replace h:=hr166 _ h
    apply hk'
    exact Runs.ret1 (v:=bool b167) Tryd.func3 Tryd.results3 (by simp[hh,byteC]) (hQ _ _ _ _ (.of (.v _)) ⟨b167,h,rfl⟩)
   replace h:=hJ165
   obtain⟨hb170,h⟩:=h
   obtain⟨r171,er171,h⟩:=atm h
   simp[hh,db153,byteC]
   refine RunK.callA Ty_ok (rHasZ_ok r140.1 r9.1 hb170) e14 (.cons (argI true r140.1) (.cons (.v _ _ _) .nil)) (by decide) (by decide) rfl (by simp[hh,db153,byteC]) ?_
   rintro _ rfl
   rw[← er171]
   rcases Bool.eq_false_or_eq_true r171 with dr171 | dr171
   ·replace h:=h.1 dr171
    obtain⟨hb172,h⟩:=h
    obtain⟨r173,er173,h⟩:=atm h
    simp[hh,db153,dr171,byteC]
    refine RunK.callA Ty_ok (rHasZ_ok r143.1 r9.1 hb172) e14 (.cons (argI true r143.1) (.cons (.v _ _ _) .nil)) (by decide) (by decide) rfl (by simp[hh,db153,dr171,byteC]) ?_
    rintro _ rfl
    rw[← er173]
    simp[hh,db153,dr171,byteC]
    exact fin168 (r173) _ _ _ h (by simp[hh,db153,dr171,byteC])
   replace h:=h.2 dr171
   simp[hh,db153,dr171,byteC]
   exact fin168 (false) _ _ _ h (by simp[hh,db153,dr171,byteC])
  replace h:=hJ151
  obtain⟨len174,elen174,h⟩:=atm h
  have f175:=fun H=>len_list (H:=H) (fr:=true) (f:=intC) kd_26 elen174
  obtain⟨c176,ec176,h⟩:=atm h
  have f177:=ib_lss (k:=.i64) ec176
  rcases Bool.eq_false_or_eq_true c176 with dc176 | dc176
  ·replace h:=h.1 dc176
   obtain⟨hb178,h⟩:=h
   obtain⟨x179,ex179,h⟩:=atm h
   have f180:=fun H=>ix_list (H:=H) (fr:=true) (f:=intC) (k:=.i64) kd_26 (fun _=>rfl) hb178 ex179
   obtain⟨c181,ec181,h⟩:=atm h
   have f182:=ib_neq (k:=.i64) ec181
   simp[hh,f175,f177,f180,f182,dc176,byteC,-indexAddrF,-intBin,-lenF]
   exact fin154 (c181) _ _ _ h (by simp[hh,f175,f177,f180,f182,dc176,byteC,-indexAddrF,-intBin,-lenF])
  replace h:=h.2 dc176
  simp[hh,f175,f177,dc176,byteC,-intBin,-lenF]
  exact fin154 (false) _ _ _ h (by simp[hh,f175,f177,dc176,byteC,-intBin,-lenF])
 replace h:=hJ14
 obtain⟨c183,ec183,h⟩:=atm h
 have f184:=ib_neq (k:=.i64) ec183
 rcases Bool.eq_false_or_eq_true c183 with dc183 | dc183
 ·replace h:=h.1 dc183
  simp[hh,m4_5,f184,dc183,byteC,-intBin]
  exact fin17 (true) _ _ _ h (by refine⟨?_,?_⟩<;>simp[hh,m4_5,f184,dc183,byteC,-intBin])
 replace h:=h.2 dc183
 obtain⟨c185,ec185,h⟩:=atm h
 have f186:=bb_neq ec185
 simp[hh,m4_5,f184,f186,dc183,byteC,-boolBin,-intBin]
 exact fin17 (c185) _ _ _ h (by refine⟨?_,?_⟩<;>simp[hh,m4_5,f184,f186,dc183,byteC,-boolBin,-intBin])
theorem lawPlaces_ok (code:List Int) (hp:lawPlaces_pre code):PureC Tryd.prog 3 [.list false (code.map byteC)] (fun r=>r=bool (lawPlaces code)):=(lawPlaces_walk code _ (lawPlaces_vc code hp)).mono (by rintro _ ⟨_,rfl,rfl⟩;rfl)
end Go.Ab.Vg
/- Contracts of the laws' eq.. functions of bigraphs. By program. -/
namespace Go.Ab
open Go.Proofs
set_option linter.unusedSimpArgs false
end Go.Ab
/- Contracts of the laws' to.. functions of bigraphs' slices. By program. -/
namespace Go.Ab
open Go.Proofs
set_option linter.unusedSimpArgs false
end Go.Ab
/- Contracts of the laws' to.. functions of bigraphs. By program. -/
namespace Go.Ab
open Go.Proofs
set_option linter.unusedSimpArgs false
end Go.Ab
/- Contracts of spec.l12Kids, spec.l12Word and spec.l12Around. -/
namespace Go.Ab
open Go.Proofs
set_option linter.unusedSimpArgs false
end Go.Ab
/- Contracts of spec.l12In and spec.ProcessText. -/
namespace Go.Ab
open Go.Proofs
set_option linter.unusedSimpArgs false
end Go.Ab
/- Contracts of laws.szAmbNode, laws.szAmbNodeS and laws.szProcess. -/
namespace Go.Ab
open Go.Proofs
set_option linter.unusedSimpArgs false
def szStr (s:Str) (left:Int):Int:=if left - s.length<0 then -1 else left - s.length
def Small (p:Proc):Prop:=p.length≤9223372036854775807∧∀ x ∈ p,x.name.length≤9223372036854775807
end Go.Ab
/- Contracts of the laws' sz.. functions of bigraphs. By program. -/
namespace Go.Ab
open Go.Proofs
set_option linter.unusedSimpArgs false
def szI (l:List Int) (left:Int):Int:=if left - l.length<0 then -1 else left - l.length
def szC (x:Control) (left:Int):Int:=szStr x.name left
def szW (x:Wire) (left:Int):Int:=szStr x.name left
def szN (x:GNode) (left:Int):Int:=szI x.links left
class SzF {α:Type} (f:α→Int→Int):Prop where
 le:∀ x left,0≤left→f x left≤left
instance:SzF szStr:=⟨fun x left h=>by unfold szStr;split<;>omega⟩
instance:SzF szI:=⟨fun x left h=>by unfold szI;split<;>omega⟩
instance:SzF szC:=⟨fun x left h=>by unfold szC szStr;split<;>omega⟩
instance:SzF szW:=⟨fun x left h=>by unfold szW szStr;split<;>omega⟩
instance:SzF szN:=⟨fun x left h=>by unfold szN szI;split<;>omega⟩
end Go.Ab
/- Contract of laws.szBigraph; what the sizes bound. -/
namespace Go.Ab
open Go.Proofs
set_option linter.unusedSimpArgs false
end Go.Ab
/- The contract of laws.FnExactCommonPlace: it answers true. -/
namespace Go.Ab
open Go.Proofs
set_option linter.unusedSimpArgs false
end Go.Ab
