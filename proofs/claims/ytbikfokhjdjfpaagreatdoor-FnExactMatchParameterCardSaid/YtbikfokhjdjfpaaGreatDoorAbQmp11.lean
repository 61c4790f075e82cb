/- Merged texts (11 of 17) of the proof that ends in Mpy: Maw O Mbw. -/
import Derived.Test.YtbikfokhjdjfpaaGreatDoorAbQmp10
/- Walks by program for YtbikfokhjdjfpaaGreatDoorAbMa. -/
namespace Go.Ab.Vg
open Go.Proofs
set_option maxRecDepth 100000
set_option linter.unusedSimpArgs false
set_option linter.unusedVariables false
attribute [local simp] Control.cells aj.cells aA.cells al bO gp aL bC pA
theorem Fv:Ent Tryz.prog 146:=Ent.of Tryz.func146 (by kernel_rfl) rfl
theorem uB (b:Big) (link:Int) (Z:(List (Int × Int))→Prop) (h:kQ b link Z):a7 Tryz.prog 146 [.agg (bC false b),int link] (.s [.c,.c]) (fun r=>∃ y:List (Int × Int),Z y∧r = .list true (y.map bO)):=by
 unfold kQ at h
 have sp:Sep bc 0 [] []:=Sep.nil (by simp)
 refine a7.of Tryz.func146 rfl Tryz.ntmps146 (by simp) fun Q hQ=>?_
 refine aa.cut (fun ρ H n=>(ρ 0 = .agg (bC false b)∧ρ 1=int link)∧Sep H n [] []) (by refine⟨by simp ,sp⟩) ?_
 rintro ρ H n1 ⟨hh,sp⟩
 refine zE fun k' hk'=>?_
 simp[hh]
 apply hk'
 refine aa.cut (fun ρ H n=>((ρ 1=int link∧ρ 2=pA n1 2)∧H (n1,2)=some ⟨6,[bC false b]⟩)∧Sep H n [] [(n1,2)]) (by refine⟨by simp[hh],sp.var⟩) ?_
 clear hh
 rintro ρ H n3 ⟨⟨hh,a⟩,sp⟩
 refine zE fun k' hk'=>?_
 simp[hh,a]
 apply hk'
 refine aa.cut (fun ρ H n=>∃ (v5:ag),((ρ 1=int link∧ρ 2=pA n1 2∧ρ 5=v5)∧H (n1,2)=some ⟨6,[bC false b]⟩)∧Sep H n [oE [.c,.c] bO v5 ([]:List (Int × Int))] [(n1,2)]) (by refine⟨.arr (n3,8) 0 0 0,by simp[hh,a],(Sep.addEmpty (l:=[.c,.c]) sp)⟩) ?_
 clear hh a
 rintro ρ H n6 ⟨v5,⟨hh,a⟩,sp⟩
 refine aa.seq ?_
 refine zE fun k' hk'=>?_
 simp[hh,a]
 apply hk'
 refine aa.block ?_
 refine aa.aw h (fun (sJ:Int × (List (Int × Int))) ρ H n=>match sJ with | (i14,q)=>∃ (i:ag),((ρ 1=int link∧ρ 2=pA n1 2∧ρ 5=i∧ρ 6=int i14)∧H (n1,2)=some ⟨6,[bC false b]⟩)∧Sep H n [oE [.c,.c] bO i q] [(n1,2)]) (by refine⟨v5,by simp[hh,a],sp⟩) ?_
 clear hh a
 rintro⟨i14,q⟩ ρ H n17 K h ⟨i,⟨hh,a⟩,sp⟩ D
 refine aa.seq ?_
 refine zE fun k' hk'=>?_
 obtain⟨a2,E,h⟩:=atm h
 have f21:=fun H=>ax (H:=H) (fr:=false) (f:=(aj.cells false)) bj E
 obtain⟨F,G,h⟩:=atm h
 have f23:=aT (k:=.i64) G
 simp[hh,a,f21,f23,-ai,-aH]
 apply hk'
 refine aa.ite (b:=F) (by simp[hh,a]) (fun e=>?_) (fun e=>?_)
 ·replace h:=h.1 e
  refine aa.skip ?_
  refine aa.seq ?_
  refine aa.block ?_
  refine zE fun k' hk'=>?_
  simp[hh,a,e]
  apply hk'
  refine aa.block ?_
  refine aa.aw h (fun (sJ:Int × (List (Int × Int))) ρ H n=>match sJ with | (k31,j)=>∃ (o:ag),((ρ 1=int link∧ρ 2=pA n1 2∧ρ 5=o∧ρ 6=int i14∧ρ 7=int k31)∧H (n1,2)=some ⟨6,[bC false b]⟩)∧Sep H n [oE [.c,.c] bO o j] [(n1,2)]) (by refine⟨i,by simp[hh,a,e],sp⟩) ?_
  clear hh a
  rintro⟨k31,j⟩ ρ H n34 K h ⟨o,⟨hh,a⟩,sp⟩ A
  refine aa.seq ?_
  refine zE fun k' hk'=>?_
  obtain⟨I,h⟩:=h
  obtain⟨a3,t,h⟩:=atm h
  have f39:=fun H=>aE (H:=H) (fr:=false) (f:=(aj.cells false)) (k:=.i64) bj (fun _=>rfl) I t
  obtain⟨a4,J,h⟩:=atm h
  have f41:=fun H=>ax (H:=H) (fr:=false) (f:=al) aO J
  obtain⟨L,M,h⟩:=atm h
  have f43:=aT (k:=.i64) M
  simp[hh,a,f39,f41,f43,-ah,-ai,-aH]
  apply hk'
  refine aa.ite (b:=L) (by simp[hh,a]) (fun g=>?_) (fun g=>?_)
  ·replace h:=h.1 g
   refine aa.skip ?_
   refine aa.seq ?_
   refine aa.block ?_
   refine zE fun k' hk'=>?_
   obtain⟨N,h⟩:=h
   obtain⟨a5,O,h⟩:=atm h
   have R:=t.trans O.symm
   subst R
   have f47:=fun H=>aE (H:=H) (fr:=false) (f:=(aj.cells false)) (k:=.i64) bj (fun _=>rfl) N t
   obtain⟨T,h⟩:=h
   obtain⟨a9,U,h⟩:=atm h
   have f50:=fun H=>aE (H:=H) (fr:=false) (f:=al) (k:=.i64) aO (fun _=>rfl) T U
   obtain⟨B,V,h⟩:=atm h
   have f52:=cJ (k:=.i64) V
   simp[hh,a,f47,f50,f52,g,-ah,-ai]
   apply hk'
   refine aa.cut (fun ρ H n=>∃ (v53:ag),((ρ 1=int link∧ρ 2=pA n1 2∧ρ 5=v53∧ρ 6=int i14∧ρ 7=int k31∧ρ 37=bool B)∧H (n1,2)=some ⟨6,[bC false b]⟩)∧Sep H n [oE [.c,.c] bO v53 j] [(n1,2)]) (by refine⟨o,by simp[hh,a,f47,f50,f52,g,-ah,-ai],sp⟩) ?_
   clear hh a
   rintro ρ H bd ⟨v53,⟨hh,a⟩,sp⟩
   refine aa.ite (b:=B) (by simp[hh,a]) (fun d=>?_) (fun d=>?_)
   ·replace h:=h.1 d
    refine zF fun k' hk'=>?_
    obtain⟨W,h⟩:=h
    obtain⟨u,X,h⟩:=atm h
    simp[hh,a,d,-ba]
    refine a8 [] [] [[int i14,int k31]] [bO (i14,k31)] sp gC (by simp) (by simp) (by simp) (by simp[-ay,o1x]) (bz (az.v _ (az.v _ az.nil))) (by simp) (by simpa using W) ?_
    rintro C Y ab sp ac be
    replace sp:Sep Y ab [oE [.c,.c] bO C u] [(n1,2)]:=Sep.ap X sp
    have a:=(ac _ (by simp)).trans a
    simp[hh,a,d]
    apply hk'
    refine aa.cut (fun ρ H n=>∃ (p:ag),((ρ 1=int link∧ρ 2=pA n1 2∧ρ 5=p∧ρ 6=int i14∧ρ 7=int k31)∧H (n1,2)=some ⟨6,[bC false b]⟩)∧Sep H n [oE [.c,.c] bO p u] [(n1,2)]) (by refine⟨C,by simp[hh,a,d],sp⟩) ?_
    clear hh a
    rintro ρ H bi ⟨p,⟨hh,a⟩,sp⟩
    refine aa.inBlock ?_
    refine zF fun k' hk'=>?_
    obtain⟨ad,h⟩:=h
    obtain⟨af,am,h⟩:=atm h
    have f67:=aI ad am
    simp[hh,a,f67,-ai]
    apply hk'
    refine A (af,u) _ _ _ h (by refine⟨p,by simp[hh,a],sp⟩)
   replace h:=h.2 d
   refine aa.skip ?_
   refine aa.inBlock ?_
   refine zF fun k' hk'=>?_
   obtain⟨an,h⟩:=h
   obtain⟨ao,aM,h⟩:=atm h
   have f70:=aI an aM
   simp[hh,a,f70,d,-ai]
   apply hk'
   refine A (ao,j) _ _ _ h (by refine⟨v53,by simp[hh,a,d],sp⟩)
  replace h:=h.2 g
  refine aa.exit rfl ?_
  refine aa.inBlock ?_
  refine zF fun k' hk'=>?_
  obtain⟨a0,h⟩:=h
  obtain⟨v72,a1,h⟩:=atm h
  have f73:=aI a0 a1
  simp[hh,a,f73,g,-ai]
  apply hk'
  refine D (v72,j) _ _ _ h (by refine⟨o,by simp[hh,a,g],sp⟩)
 replace h:=h.2 e
 refine aa.exit rfl ?_
 refine zE fun k' hk'=>?_
 simp[hh,a,e]
 apply hk'
 exact aa.aV (v:=i) Tryz.func146 Tryz.results146 (by simp[hh,a,e]) (hQ _ _ _ _ (Sep.sub (ids':=[]) sp (by simp)) ⟨q,h,rfl⟩)
theorem kP (b:Big) (link:Int) (hp:eU b link):a7 Tryz.prog 146 [.agg (bC false b),int link] (.s [.c,.c]) (fun r=>r = .list true ((fV b link).map bO)):=(uB b link _ (zR b link hp)).mono (by rintro _ ⟨_,rfl,rfl⟩;rfl)
theorem Iv:Ent Tryz.prog 265:=Ent.of Tryz.func265 (by kernel_rfl) rfl
theorem xZ (b:Big) (link:Int) (Z:(List Str)→Prop) (h:ml b link Z):a7 Tryz.prog 265 [.agg (bC false b),int link] (.s [.c]) (fun r=>∃ y:List Str,Z y∧r = .list true (y.map aL)):=by
 unfold ml at h
 have sp:Sep bc 0 [] []:=Sep.nil (by simp)
 refine a7.of Tryz.func265 rfl Tryz.ntmps265 (by simp) fun Q hQ=>?_
 refine aa.cut (fun ρ H n=>(ρ 0 = .agg (bC false b)∧ρ 1=int link)∧Sep H n [] []) (by refine⟨by simp ,sp⟩) ?_
 rintro ρ H n1 ⟨hh,sp⟩
 refine zE fun k' hk'=>?_
 simp[hh]
 apply hk'
 refine aa.cut (fun ρ H n=>((ρ 1=int link∧ρ 2=pA n1 2)∧H (n1,2)=some ⟨6,[bC false b]⟩)∧Sep H n [] [(n1,2)]) (by refine⟨by simp[hh],sp.var⟩) ?_
 clear hh
 rintro ρ H n3 ⟨⟨hh,a⟩,sp⟩
 refine zE fun k' hk'=>?_
 simp[hh,a]
 apply hk'
 refine aa.cut (fun ρ H n=>∃ (v5:ag),((ρ 1=int link∧ρ 2=pA n1 2∧ρ 5=v5)∧H (n1,2)=some ⟨6,[bC false b]⟩)∧Sep H n [oS v5 ([]:List Str)] [(n1,2)]) (by refine⟨.arr (n3,7) 0 0 0,by simp[hh,a],(Sep.addEmpty (l:=[.c]) sp)⟩) ?_
 clear hh a
 rintro ρ H n6 ⟨v5,⟨hh,a⟩,sp⟩
 refine aa.seq ?_
 refine zE fun k' hk'=>?_
 simp[hh,a]
 apply hk'
 refine aa.block ?_
 refine aa.aw h (fun (sJ:Int × (List Str)) ρ H n=>match sJ with | (i14,g)=>∃ (i:ag),((ρ 1=int link∧ρ 2=pA n1 2∧ρ 5=i∧ρ 6=int i14)∧H (n1,2)=some ⟨6,[bC false b]⟩)∧Sep H n [oS i g] [(n1,2)]) (by refine⟨v5,by simp[hh,a],sp⟩) ?_
 clear hh a
 rintro⟨i14,g⟩ ρ H n17 K h ⟨i,⟨hh,a⟩,sp⟩ q
 refine aa.seq ?_
 refine zE fun k' hk'=>?_
 obtain⟨Y,B,h⟩:=atm h
 have f21:=fun H=>ax (H:=H) (fr:=false) (f:=aA.cells) fm B
 obtain⟨C,D,h⟩:=atm h
 have f23:=aT (k:=.i64) D
 simp[hh,a,f21,f23,-ai,-aH]
 apply hk'
 refine aa.ite (b:=C) (by simp[hh,a]) (fun d=>?_) (fun d=>?_)
 ·replace h:=h.1 d
  refine aa.skip ?_
  refine aa.seq ?_
  refine aa.block ?_
  refine zE fun k' hk'=>?_
  obtain⟨E,h⟩:=h
  obtain⟨t,o,h⟩:=atm h
  have f26:=fun H=>aE (H:=H) (fr:=false) (f:=aA.cells) (k:=.i64) fm (fun _=>rfl) E o
  obtain⟨F,G,h⟩:=atm h
  have f28:=cJ (k:=.i64) G
  simp[hh,a,f26,f28,d,-ah,-ai]
  apply hk'
  refine aa.ite (b:=F) (by simp[hh,a,d]) (fun e=>?_) (fun e=>?_)
  ·replace h:=h.1 e
   refine zF fun k' hk'=>?_
   obtain⟨I,h⟩:=h
   obtain⟨ab,J,h⟩:=atm h
   have L:=o.trans J.symm
   subst L
   have f32:=fun H=>aE (H:=H) (fr:=false) (f:=aA.cells) (k:=.i64) fm (fun _=>rfl) I o
   obtain⟨M,h⟩:=h
   obtain⟨p,N,h⟩:=atm h
   simp[hh,a,f32,d,e,-ah,-ba]
   refine a8 [] [] [[str t.name]] [aL t.name] sp cy (by simp) (by simp) (by simp) (by simp[-ay,o1x]) (bz (az.v _ az.nil)) (by simp) (by simpa using M) ?_
   rintro u O n37 sp R ac
   replace sp:Sep O n37 [oS u p] [(n1,2)]:=Sep.ap N sp
   have a:=(R _ (by simp)).trans a
   simp[hh,a,f32,d,e,-ah]
   apply hk'
   refine aa.cut (fun ρ H n=>∃ (j:ag),((ρ 1=int link∧ρ 2=pA n1 2∧ρ 5=j∧ρ 6=int i14)∧H (n1,2)=some ⟨6,[bC false b]⟩)∧Sep H n [oS j p] [(n1,2)]) (by refine⟨u,by simp[hh,a,f32,d,e,-ah],sp⟩) ?_
   clear hh a
   rintro ρ H ad ⟨j,⟨hh,a⟩,sp⟩
   refine aa.inBlock ?_
   refine zF fun k' hk'=>?_
   obtain⟨T,h⟩:=h
   obtain⟨U,V,h⟩:=atm h
   have f45:=aI T V
   simp[hh,a,f45,-ai]
   apply hk'
   refine q (U,p) _ _ _ h (by refine⟨j,by simp[hh,a],sp⟩)
  replace h:=h.2 e
  refine aa.skip ?_
  refine aa.inBlock ?_
  refine zF fun k' hk'=>?_
  obtain⟨W,h⟩:=h
  obtain⟨A,X,h⟩:=atm h
  have f48:=aI W X
  simp[hh,a,f48,d,e,-ai]
  apply hk'
  refine aa.cut (fun ρ H n=>∃ (v49:ag),((ρ 1=int link∧ρ 2=pA n1 2∧ρ 5=v49∧ρ 6=int A)∧H (n1,2)=some ⟨6,[bC false b]⟩)∧Sep H n [oS v49 g] [(n1,2)]) (by refine⟨i,by simp[hh,a,f48,d,e,-ai],sp⟩) ?_
  clear hh a
  rintro ρ H af ⟨v49,⟨hh,a⟩,sp⟩
  refine q (A,g) _ _ _ h (by refine⟨v49,by simp[hh,a],sp⟩)
 replace h:=h.2 d
 refine aa.exit rfl ?_
 refine zE fun k' hk'=>?_
 simp[hh,a,d]
 apply hk'
 exact aa.aV (v:=i) Tryz.func265 Tryz.results265 (by simp[hh,a,d]) (hQ _ _ _ _ (Sep.sub (ids':=[]) sp (by simp)) ⟨g,h,rfl⟩)
theorem Cz (b:Big) (link:Int) (hp:oh b link):a7 Tryz.prog 265 [.agg (bC false b),int link] (.s [.c]) (fun r=>r = .list true ((yE b link).map aL)):=(xZ b link _ (Bp b link hp)).mono (by rintro _ ⟨_,rfl,rfl⟩;rfl)
theorem e49:Ent Tryz.prog 49:=Ent.of Tryz.func49 (by kernel_rfl) rfl
theorem tj (b:Big) (link:Int) (Z:((List (Int × Int)) × (List Str))→Prop) (h:jn b link Z):a7 Tryz.prog 49 [.agg (bC false b),int link] (.t [.s [.c,.c],.s [.c]]) (fun r=>∃ y:(List (Int × Int)) × (List Str),Z y∧r = .tup [.list true (y.1.map bO),.list true (y.2.map aL)]):=by
 unfold jn at h
 have sp:Sep bc 0 [] []:=Sep.nil (by simp)
 refine a7.of Tryz.func49 rfl Tryz.ntmps49 (by simp) fun Q hQ=>?_
 refine aa.cut (fun ρ H n=>(ρ 0 = .agg (bC false b)∧ρ 1=int link)∧Sep H n [] []) (by refine⟨by simp ,sp⟩) ?_
 rintro ρ H n1 ⟨hh,sp⟩
 refine zE fun k' hk'=>?_
 simp[hh]
 apply hk'
 refine aa.cut (fun ρ H n=>((ρ 1=int link∧ρ 2=pA n1 2)∧H (n1,2)=some ⟨6,[bC false b]⟩)∧Sep H n [] [(n1,2)]) (by refine⟨by simp[hh],sp.var⟩) ?_
 clear hh
 rintro ρ H n3 ⟨⟨hh,a⟩,sp⟩
 refine zE fun k' hk'=>?_
 simp[hh,a]
 apply hk'
 refine aa.cut (fun ρ H n=>∃ (v6 v7:ag),((ρ 1=int link∧ρ 2=pA n1 2∧ρ 6=v7∧ρ 7=v6)∧H (n1,2)=some ⟨6,[bC false b]⟩)∧Sep H n [oS v6 ([]:List Str),oE [.c,.c] bO v7 ([]:List (Int × Int))] [(n1,2)]) (by refine⟨.arr (n3+1,15) 0 0 0,.arr (n3,14) 0 0 0,by simp[hh,a],(Sep.addEmpty (l:=[.c]) (Sep.addEmpty (l:=[.c,.c]) sp))⟩) ?_
 clear hh a
 rintro ρ H n8 ⟨v6,v7,⟨hh,a⟩,sp⟩
 refine aa.seq ?_
 refine zE fun k' hk'=>?_
 obtain⟨ny,elen9,h⟩:=atm h
 have f10:=fun H=>ax (H:=H) (fr:=false) (f:=(aj.cells false)) bj elen9
 simp[hh,a,f10,-aH]
 apply hk'
 refine aa.block ?_
 refine aa.aw h (fun (sJ:Int × (List (Int × Int))) ρ H n=>match sJ with | (v20,g)=>∃ (v22 u:ag),((ρ 1=int link∧ρ 2=pA n1 2∧ρ 6=u∧ρ 7=v22∧ρ 17 = .list false (b.nodes.map (aj.cells false))∧ρ 18=int ny∧ρ 19=int v20)∧H (n1,2)=some ⟨6,[bC false b]⟩)∧Sep H n [oS v22 ([]:List Str),oE [.c,.c] bO u g] [(n1,2)]) (by refine⟨v6,v7,by simp[hh,a],sp⟩) ?_
 clear hh a
 rintro⟨v20,g⟩ ρ H n24 K h ⟨v22,u,⟨hh,a⟩,sp⟩ am
 refine zE fun k' hk'=>?_
 obtain⟨an,ao,h⟩:=atm h
 have f28:=aT (k:=.i64) ao
 simp[hh,a,f28,-ai]
 apply hk'
 refine aa.seq ?_
 refine aa.ite (b:=an) (by simp[hh,a]) (fun p=>?_) (fun p=>?_)
 ·replace h:=h.1 p
  refine aa.skip ?_
  refine aa.seq ?_
  refine aa.block ?_
  refine zE fun k' hk'=>?_
  obtain⟨aM,h⟩:=h
  obtain⟨A,a0,h⟩:=atm h
  have f31:=fun H=>aE (H:=H) (fr:=false) (f:=(aj.cells false)) (k:=.i64) bj (fun _=>rfl) aM a0
  simp[hh,a,f31,p,-ah]
  apply hk'
  refine aa.cut (fun ρ H n=>∃ (G I:ag),((ρ 1=int link∧ρ 2=pA n1 2∧ρ 6=I∧ρ 7=G∧ρ 8=int v20∧ρ 9=pA n24 9∧ρ 17 = .list false (b.nodes.map (aj.cells false))∧ρ 18=int ny∧ρ 19=int v20)∧H (n1,2)=some ⟨6,[bC false b]⟩∧H (n24,9)=some ⟨3,[[int A.control,int A.parent,.list false (A.links.map al)]]⟩)∧Sep H n [oS G ([]:List Str),oE [.c,.c] bO I g] [(n24,9),(n1,2)]) (by refine⟨v22,u,by simp[hh,a,f31,p,-ah],sp.var⟩) ?_
  clear hh a
  rintro ρ H n35 ⟨G,I,⟨hh,a,U⟩,sp⟩
  refine zE fun k' hk'=>?_
  obtain⟨Y,a1,h⟩:=atm h
  have f37:=fun H=>ax (H:=H) (fr:=false) (f:=al) aO a1
  simp[hh,a,U,f37,-aH]
  apply hk'
  refine aa.block ?_
  refine aa.aw h (fun (sJ:Int × (List (Int × Int))) ρ H n=>match sJ with | (B,J)=>∃ (v49 C:ag),((ρ 1=int link∧ρ 2=pA n1 2∧ρ 6=C∧ρ 7=v49∧ρ 8=int v20∧ρ 17 = .list false (b.nodes.map (aj.cells false))∧ρ 18=int ny∧ρ 19=int v20∧ρ 25 = .list false (A.links.map al)∧ρ 26=int Y∧ρ 27=int B)∧H (n1,2)=some ⟨6,[bC false b]⟩)∧Sep H n [oS v49 ([]:List Str),oE [.c,.c] bO C J] [(n1,2)]) (by refine⟨G,I,by simp[hh,a,U],(Sep.sub sp (by simp +contextual))⟩) ?_
  clear hh a U
  rintro⟨B,J⟩ ρ H dl K h ⟨v49,C,⟨hh,a⟩,sp⟩ ab
  refine zE fun k' hk'=>?_
  obtain⟨a2,a3,h⟩:=atm h
  have f55:=aT (k:=.i64) a3
  simp[hh,a,f55,-ai]
  apply hk'
  refine aa.seq ?_
  refine aa.ite (b:=a2) (by simp[hh,a]) (fun d=>?_) (fun d=>?_)
  ·replace h:=h.1 d
   refine aa.skip ?_
   refine aa.seq ?_
   refine aa.block ?_
   refine zE fun k' hk'=>?_
   obtain⟨a4,h⟩:=h
   obtain⟨dr,a5,h⟩:=atm h
   have f58:=fun H=>aE (H:=H) (fr:=false) (f:=al) (k:=.i64) aO (fun _=>rfl) a4 a5
   simp[hh,a,f58,d,-ah]
   apply hk'
   refine zE fun k' hk'=>?_
   obtain⟨a9,bd,h⟩:=atm h
   have f60:=cJ (k:=.i64) bd
   simp[hh,a,f60,d,-ai]
   apply hk'
   refine aa.ite (b:=a9) (by simp[hh,a,d]) (fun i=>?_) (fun i=>?_)
   ·replace h:=h.1 i
    refine zF fun k' hk'=>?_
    obtain⟨be,h⟩:=h
    obtain⟨V,bi,h⟩:=atm h
    simp[hh,a,d,i,-ba]
    refine a8 [] [oS v49 ([]:List Str)] [[int v20,int B]] [bO (v20,B)] sp.f1 gC (by simp) (by simp) (by simp) (by simp[-ay,o1x]) (bz (az.v _ (az.v _ az.nil))) (by simp) (by simpa using be) ?_
    rintro ac bk bs sp bv ds
    replace sp:Sep bk bs [oE [.c,.c] bO ac V,oS v49 ([]:List Str)] [(n1,2)]:=Sep.ap bi sp
    have a:=(bv _ (by simp)).trans a
    simp[hh,a,d,i]
    apply hk'
    refine aa.cut (fun ρ H n=>∃ (L v70:ag),((ρ 1=int link∧ρ 2=pA n1 2∧ρ 6=L∧ρ 7=v70∧ρ 8=int v20∧ρ 17 = .list false (b.nodes.map (aj.cells false))∧ρ 18=int ny∧ρ 19=int v20∧ρ 25 = .list false (A.links.map al)∧ρ 26=int Y∧ρ 27=int B)∧H (n1,2)=some ⟨6,[bC false b]⟩)∧Sep H n [oE [.c,.c] bO L V,oS v70 ([]:List Str)] [(n1,2)]) (by refine⟨ac,v49,by simp[hh,a,d,i],sp⟩) ?_
    clear hh a
    rintro ρ H d0 ⟨L,v70,⟨hh,a⟩,sp⟩
    refine aa.inBlock ?_
    refine zF fun k' hk'=>?_
    obtain⟨b0,h⟩:=h
    obtain⟨b1,b2,h⟩:=atm h
    have f74:=aI b0 b2
    simp[hh,a,f74,-ai]
    apply hk'
    refine ab (b1,V) _ _ _ h (by refine⟨v70,L,by simp[hh,a],sp.f1⟩)
   replace h:=h.2 i
   refine aa.skip ?_
   refine aa.inBlock ?_
   refine zF fun k' hk'=>?_
   obtain⟨b3,h⟩:=h
   obtain⟨v76,b5,h⟩:=atm h
   have f77:=aI b3 b5
   simp[hh,a,f77,d,i,-ai]
   apply hk'
   refine ab (v76,J) _ _ _ h (by refine⟨v49,C,by simp[hh,a,d,i],sp⟩)
  replace h:=h.2 d
  refine aa.exit rfl ?_
  refine aa.inBlock ?_
  refine zF fun k' hk'=>?_
  obtain⟨b7,h⟩:=h
  obtain⟨b8,b9,h⟩:=atm h
  have f80:=aI b7 b9
  simp[hh,a,f80,d,-ai]
  apply hk'
  refine am (b8,J) _ _ _ h (by refine⟨v49,C,by simp[hh,a,d],sp⟩)
 replace h:=h.2 p
 refine aa.exit rfl ?_
 refine aa.seq ?_
 refine zE fun k' hk'=>?_
 obtain⟨W,cc,h⟩:=atm h
 have f82:=fun H=>ax (H:=H) (fr:=false) (f:=aA.cells) fm cc
 simp[hh,a,f82,p,-aH]
 apply hk'
 refine aa.block ?_
 refine aa.aw h (fun (sJ:Int × (List Str)) ρ H n=>match sJ with | (M,D)=>∃ (E F:ag),(ρ 1=int link∧ρ 6=F∧ρ 7=E∧ρ 44 = .list false (b.inner.map aA.cells)∧ρ 45=int W∧ρ 46=int M)∧Sep H n [oS E D,oE [.c,.c] bO F g] []) (by refine⟨v22,u,by simp[hh,a,p],(Sep.sub sp (by simp +contextual))⟩) ?_
 clear hh a
 rintro⟨M,D⟩ ρ H N K h ⟨E,F,hh,sp⟩ ad
 refine zE fun k' hk'=>?_
 obtain⟨ce,ci,h⟩:=atm h
 have f100:=aT (k:=.i64) ci
 simp[hh,f100,-ai]
 apply hk'
 refine aa.seq ?_
 refine aa.ite (b:=ce) (by simp[hh]) (fun j=>?_) (fun j=>?_)
 ·replace h:=h.1 j
  refine aa.skip ?_
  refine aa.seq ?_
  refine aa.block ?_
  refine zE fun k' hk'=>?_
  obtain⟨cj,h⟩:=h
  obtain⟨O,cl,h⟩:=atm h
  have f103:=fun H=>aE (H:=H) (fr:=false) (f:=aA.cells) (k:=.i64) fm (fun _=>rfl) cj cl
  simp[hh,f103,j,-ah]
  apply hk'
  refine aa.cut (fun ρ H n=>∃ (v105 q:ag),((ρ 1=int link∧ρ 6=q∧ρ 7=v105∧ρ 13=pA N 13∧ρ 44 = .list false (b.inner.map aA.cells)∧ρ 45=int W∧ρ 46=int M)∧H (N,13)=some ⟨2,[[str O.name,int O.link]]⟩)∧Sep H n [oS v105 D,oE [.c,.c] bO q g] [(N,13)]) (by refine⟨E,F,by simp[hh,f103,j,-ah],sp.var⟩) ?_
  clear hh
  rintro ρ H n107 ⟨v105,q,⟨hh,e⟩,sp⟩
  refine zE fun k' hk'=>?_
  obtain⟨co,cs,h⟩:=atm h
  have f109:=cJ (k:=.i64) cs
  simp[hh,e,f109,-ai]
  apply hk'
  refine aa.ite (b:=co) (by simp[hh,e]) (fun o=>?_) (fun o=>?_)
  ·replace h:=h.1 o
   refine zF fun k' hk'=>?_
   obtain⟨c0,h⟩:=h
   obtain⟨X,c1,h⟩:=atm h
   simp[hh,e,o,-ba]
   refine a8 [] [oE [.c,.c] bO q g] [[str O.name]] [aL O.name] sp cy (by simp) (by simp) (by simp) (by simp[-ay,o1x]) (bz (az.v _ az.nil)) (by simp) (by simpa using c0) ?_
   rintro af c2 n114 sp c3 d1
   replace sp:Sep c2 n114 [oS af X,oE [.c,.c] bO q g] [(N,13)]:=Sep.ap c1 sp
   have e:=(c3 _ (by simp)).trans e
   simp[hh,e,o]
   apply hk'
   refine aa.cut (fun ρ H n=>∃ (R T:ag),(ρ 1=int link∧ρ 6=T∧ρ 7=R∧ρ 44 = .list false (b.inner.map aA.cells)∧ρ 45=int W∧ρ 46=int M)∧Sep H n [oS R X,oE [.c,.c] bO T g] []) (by refine⟨af,q,by simp[hh,e,o],(Sep.sub sp (by simp +contextual))⟩) ?_
   clear hh e
   rintro ρ H n120 ⟨R,T,hh,sp⟩
   refine aa.inBlock ?_
   refine zF fun k' hk'=>?_
   obtain⟨c4,h⟩:=h
   obtain⟨c6,c8,h⟩:=atm h
   have f123:=aI c4 c8
   simp[hh,f123,-ai]
   apply hk'
   refine ad (c6,X) _ _ _ h (by refine⟨R,T,by simp[hh],sp⟩)
  replace h:=h.2 o
  refine aa.skip ?_
  refine aa.inBlock ?_
  refine zF fun k' hk'=>?_
  obtain⟨c9,h⟩:=h
  obtain⟨da,dc,h⟩:=atm h
  have f126:=aI c9 dc
  simp[hh,e,f126,o,-ai]
  apply hk'
  refine ad (da,D) _ _ _ h (by refine⟨v105,q,by simp[hh,e,o],(Sep.sub sp (by simp +contextual))⟩)
 replace h:=h.2 j
 refine aa.exit rfl ?_
 refine zE fun k' hk'=>?_
 simp[hh,j]
 apply hk'
 exact aa.ta (v:=F) (w:=E) Tryz.func49 Tryz.results49 (by simp[hh,j]) (by simp[hh,j]) (hQ _ _ _ _ (Sep.sub (ids':=[]) (Sep.fy (az.own (az.own az.nil)) sp.f1) (by simp)) ⟨(g,D),h,rfl⟩)
theorem lJ (b:Big) (link:Int) (hp:e5 b link):a7 Tryz.prog 49 [.agg (bC false b),int link] (.t [.s [.c,.c],.s [.c]]) (fun r=>r = .tup [.list true (((iG b link).1).map bO),.list true (((iG b link).2).map aL)]):=(tj b link _ (xG b link hp)).mono (by rintro _ ⟨_,rfl,rfl⟩;rfl)
theorem H7:Ent Tryz.prog 246:=Ent.of Tryz.func246 (by kernel_rfl) rfl
theorem xY (b:Big) (link:Int) (Z:Bool→Prop) (h:mV b link Z):aq Tryz.prog 246 [.agg (bC false b),int link] (fun r=>∃ y:Bool,Z y∧r=bool y):=by
 unfold mV at h
 refine aq.of Tryz.func246 rfl Tryz.ntmps246 (by simp) fun Q hQ=>?_
 refine aa.cut (fun ρ H n=>(ρ 0 = .agg (bC false b)∧ρ 1=int link)) (by simp) ?_
 rintro ρ H n1 hh
 refine zE fun k' hk'=>?_
 simp[hh]
 apply hk'
 refine aa.cut (fun ρ H n=>(ρ 1=int link∧ρ 2=pA n1 2)∧H (n1,2)=some ⟨6,[bC false b]⟩) (by refine⟨?_,?_⟩<;>simp[hh]) ?_
 clear hh
 rintro ρ H n3 ⟨hh,c⟩
 refine zE fun k' hk'=>?_
 obtain⟨J4,hJ5,hr6⟩:=h
 have fin8:∀ (sJ:Bool) (ρ:Env) (H:ak) (n:Nat),J4 sJ→(match sJ with | b7=>ρ 4=bool b7)→aa Tryz.prog 246 17 k' ρ H n Q:=by
  rintro b7 ρ H n9 h hh
  replace h:=hr6 _ h
  apply hk'
  exact aa.aV (v:=bool b7) Tryz.func246 Tryz.results246 (by simp[hh]) (hQ _ _ _ _ (.of (.v _)) ⟨b7,h,rfl⟩)
 replace h:=hJ5
 obtain⟨d,h⟩:=h
 obtain⟨u,e,h⟩:=atm h
 simp[hh,c]
 refine aG.aB ae ((kP b link d).pure) Fv (.cons (bg false b) (.cons (.v _ _ _) .nil)) (by decide) (by decide) rfl (by simp[hh,c]) ?_
 rintro _ rfl
 rw[← e]
 obtain⟨dq,g,h⟩:=atm h
 have f13:=fun H=>ax (H:=H) (fr:=true) (f:=bO) gC g
 obtain⟨i,j,h⟩:=atm h
 have f15:=cJ (k:=.i64) j
 rcases Bool.eq_false_or_eq_true i with a | a
 ·replace h:=h.1 a
  obtain⟨l,h⟩:=h
  obtain⟨A,o,h⟩:=atm h
  simp[hh,c,f13,f15,a,-ai,-aH]
  refine aG.aB ae ((Cz b link l).pure) Iv (.cons (bg false b) (.cons (.v _ _ _) .nil)) (by decide) (by decide) rfl (by simp[hh,c,f13,f15,a,-ai,-aH]) ?_
  rintro _ rfl
  rw[← o]
  obtain⟨B,p,h⟩:=atm h
  have f19:=fun H=>ax (H:=H) (fr:=true) (f:=aL) cy p
  obtain⟨q,t,h⟩:=atm h
  have f21:=cJ (k:=.i64) t
  simp[hh,c,f13,f15,f19,f21,a,-ai,-aH]
  exact fin8 (q) _ _ _ h (by simp[hh,c,f13,f15,f19,f21,a,-ai,-aH])
 replace h:=h.2 a
 simp[hh,c,f13,f15,a,-ai,-aH]
 exact fin8 (false) _ _ _ h (by simp[hh,c,f13,f15,a,-ai,-aH])
theorem BK (b:Big) (link:Int) (hp:nS b link):aq Tryz.prog 246 [.agg (bC false b),int link] (fun r=>r=bool (lq b link)):=(xY b link _ (CE b link hp)).mono (by rintro _ ⟨_,rfl,rfl⟩;rfl)
theorem I8:Ent Tryz.prog 208:=Ent.of Tryz.func208 (by kernel_rfl) rfl
theorem ye (b:Big) (link:Int) (Z:Bool→Prop) (h:mm b link Z):aq Tryz.prog 208 [.agg (bC false b),int link] (fun r=>∃ y:Bool,Z y∧r=bool y):=by
 unfold mm at h
 refine aq.of Tryz.func208 rfl Tryz.ntmps208 (by simp) fun Q hQ=>?_
 refine aa.cut (fun ρ H n=>(ρ 0 = .agg (bC false b)∧ρ 1=int link)) (by simp) ?_
 rintro ρ H n1 hh
 refine zE fun k' hk'=>?_
 simp[hh]
 apply hk'
 refine aa.cut (fun ρ H n=>(ρ 1=int link∧ρ 2=pA n1 2)∧H (n1,2)=some ⟨6,[bC false b]⟩) (by refine⟨?_,?_⟩<;>simp[hh]) ?_
 clear hh
 rintro ρ H n3 ⟨hh,a⟩
 refine zE fun k' hk'=>?_
 obtain⟨hb4,h⟩:=h
 obtain⟨r5,er5,h⟩:=atm h
 simp[hh,a]
 refine aG.aB ae ((lJ b link hb4).pure) e49 (.cons (bg false b) (.cons (.v _ _ _) .nil)) (by decide) (by decide) rfl (by simp[hh,a]) ?_
 rintro _ rfl
 rw[← er5]
 simp[hh,a]
 apply hk'
 refine zE fun k' hk'=>?_
 obtain⟨cK,elen6,h⟩:=atm h
 have f7:=fun H=>ax (H:=H) (fr:=true) (f:=bO) gC elen6
 obtain⟨len8,elen8,h⟩:=atm h
 have f9:=fun H=>ax (H:=H) (fr:=true) (f:=aL) cy elen8
 obtain⟨d,h⟩:=h
 obtain⟨v11,e,h⟩:=atm h
 have f12:=aI d e
 obtain⟨c,g,h⟩:=atm h
 have f14:=cJ (k:=.i64) g
 simp[hh,a,f7,f9,f12,f14,-ai,-aH]
 apply hk'
 refine aa.cut (fun ρ H n=>ρ 4=bool c) (by simp[hh,a,f7,f9,f12,f14,-ai,-aH]) ?_
 clear hh a
 rintro ρ H n15 hh
 exact aa.aV (v:=bool c) Tryz.func208 Tryz.results208 (by simp[hh]) (hQ _ _ _ _ (.of (.v _)) ⟨c,h,rfl⟩)
theorem BW (b:Big) (link:Int) (hp:nH b link):aq Tryz.prog 208 [.agg (bC false b),int link] (fun r=>r=bool (kq b link)):=(ye b link _ (CT b link hp)).mono (by rintro _ ⟨_,rfl,rfl⟩;rfl)
theorem Iz:Ent Tryz.prog 108:=Ent.of Tryz.func108 (by kernel_rfl) rfl
theorem qP (b:Big) (Z:Bool→Prop) (h:hC b Z):aq Tryz.prog 108 [.agg (bC false b)] (fun r=>∃ y:Bool,Z y∧r=bool y):=by
 unfold hC at h
 refine aq.of Tryz.func108 rfl Tryz.ntmps108 (by simp) fun Q hQ=>?_
 refine aa.cut (fun ρ H n=>ρ 0 = .agg (bC false b)) (by simp) ?_
 rintro ρ H n1 hh
 refine zE fun k' hk'=>?_
 simp[hh]
 apply hk'
 refine aa.cut (fun ρ H n=>ρ 1=pA n1 1∧H (n1,1)=some ⟨6,[bC false b]⟩) (by refine⟨?_,?_⟩<;>simp[hh]) ?_
 clear hh
 rintro ρ H n3 ⟨hh,c⟩
 refine zE fun k' hk'=>?_
 obtain⟨J4,hJ5,hr6⟩:=h
 have fin8:∀ (sJ:Bool) (ρ:Env) (H:ak) (n:Nat),J4 sJ→(match sJ with | b7=>ρ 2=bool b7)→aa Tryz.prog 108 13 k' ρ H n Q:=by
  rintro b7 ρ H n9 h hh
  replace h:=hr6 _ h
  apply hk'
  exact aa.aV (v:=bool b7) Tryz.func108 Tryz.results108 (by simp[hh]) (hQ _ _ _ _ (.of (.v _)) ⟨b7,h,rfl⟩)
 replace h:=hJ5
 obtain⟨dt,d,h⟩:=atm h
 have f11:=fun H=>ax (H:=H) (fr:=false) (f:=al) aO d
 obtain⟨e,g,h⟩:=atm h
 have f13:=cJ (k:=.i64) g
 rcases Bool.eq_false_or_eq_true e with a | a
 ·replace h:=h.1 a
  obtain⟨o,i,h⟩:=atm h
  have f15:=fun H=>ax (H:=H) (fr:=false) (f:=aA.cells) fm i
  obtain⟨j,l,h⟩:=atm h
  have f17:=cJ (k:=.i64) l
  simp[hh,c,f11,f13,f15,f17,a,-ai,-aH]
  exact fin8 (j) _ _ _ h (by simp[hh,c,f11,f13,f15,f17,a,-ai,-aH])
 replace h:=h.2 a
 simp[hh,c,f11,f13,a,-ai,-aH]
 exact fin8 (false) _ _ _ h (by simp[hh,c,f11,f13,a,-ai,-aH])
theorem vZ (b:Big) (hp:jH b):aq Tryz.prog 108 [.agg (bC false b)] (fun r=>r=bool (eV b)):=(qP b _ (uO b hp)).mono (by rintro _ ⟨_,rfl,rfl⟩;rfl)
theorem e45:Ent Tryz.prog 45:=Ent.of Tryz.func45 (by kernel_rfl) rfl
theorem xJ (sig:List Control) (b:Big) (Z:Bool→Prop) (h:mR sig b Z):aq Tryz.prog 45 [.list false (sig.map Control.cells),.agg (bC false b)] (fun r=>∃ y:Bool,Z y∧r=bool y):=by
 unfold mR at h
 refine aq.of Tryz.func45 rfl Tryz.ntmps45 (by simp) fun Q hQ=>?_
 refine aa.cut (fun ρ H n=>(ρ 0 = .list false (sig.map Control.cells)∧ρ 1 = .agg (bC false b))) (by simp) ?_
 rintro ρ H n1 hh
 refine zE fun k' hk'=>?_
 simp[hh]
 apply hk'
 refine aa.cut (fun ρ H n=>(ρ 0 = .list false (sig.map Control.cells)∧ρ 3=pA n1 3)∧H (n1,3)=some ⟨6,[bC false b]⟩) (by refine⟨?_,?_⟩<;>simp[hh]) ?_
 clear hh
 rintro ρ H n3 ⟨hh,c⟩
 refine zE fun k' hk'=>?_
 obtain⟨J4,hJ5,hr6⟩:=h
 have fin8:∀ (sJ:Bool) (ρ:Env) (H:ak) (n:Nat),J4 sJ→(match sJ with | b7=>ρ 4=bool b7)→aa Tryz.prog 45 12 k' ρ H n Q:=by
  rintro b7 ρ H n9 h hh
  replace h:=hr6 _ h
  apply hk'
  exact aa.aV (v:=bool b7) Tryz.func45 Tryz.results45 (by simp[hh]) (hQ _ _ _ _ (.of (.v _)) ⟨b7,h,rfl⟩)
 replace h:=hJ5
 obtain⟨d,h⟩:=h
 obtain⟨e,g,h⟩:=atm h
 simp[hh,c]
 refine aG.aB ae (kv sig b d) Gs (.cons (iR false sig) (.cons (bg false b) .nil)) (by decide) (by decide) rfl (by simp[hh,c]) ?_
 rintro _ rfl
 rw[← g]
 rcases Bool.eq_false_or_eq_true e with a | a
 ·replace h:=h.1 a
  obtain⟨i,h⟩:=h
  obtain⟨j,l,h⟩:=atm h
  simp[hh,c,a]
  refine aG.aB ae (vZ b i) Iz (.cons (bg false b) .nil) (by decide) (by decide) rfl (by simp[hh,c,a]) ?_
  rintro _ rfl
  rw[← l]
  simp[hh,c,a]
  exact fin8 (j) _ _ _ h (by simp[hh,c,a])
 replace h:=h.2 a
 simp[hh,c,a]
 exact fin8 (false) _ _ _ h (by simp[hh,c,a])
theorem C6 (sig:List Control) (b:Big) (hp:nW sig b):aq Tryz.prog 45 [.list false (sig.map Control.cells),.agg (bC false b)] (fun r=>r=bool (fD sig b)):=(xJ sig b _ (BY sig b hp)).mono (by rintro _ ⟨_,rfl,rfl⟩;rfl)
theorem e36:Ent Tryz.prog 36:=Ent.of Tryz.func36 (by kernel_rfl) rfl
theorem vi (sig:List Control) (b:Big) (Z:Bool→Prop) (h:lf sig b Z):aq Tryz.prog 36 [.list false (sig.map Control.cells),.agg (bC false b)] (fun r=>∃ y:Bool,Z y∧r=bool y):=by
 unfold lf at h
 refine aq.of Tryz.func36 rfl Tryz.ntmps36 (by simp) fun Q hQ=>?_
 refine aa.cut (fun ρ H n=>(ρ 0 = .list false (sig.map Control.cells)∧ρ 1 = .agg (bC false b))) (by simp) ?_
 rintro ρ H n1 hh
 refine zE fun k' hk'=>?_
 simp[hh]
 apply hk'
 refine aa.cut (fun ρ H n=>(ρ 0 = .list false (sig.map Control.cells)∧ρ 3=pA n1 3)∧H (n1,3)=some ⟨6,[bC false b]⟩) (by refine⟨?_,?_⟩<;>simp[hh]) ?_
 clear hh
 rintro ρ H n3 ⟨hh,c⟩
 refine zE fun k' hk'=>?_
 obtain⟨J4,hJ5,hr6⟩:=h
 have fin8:∀ (sJ:Bool) (ρ:Env) (H:ak) (n:Nat),J4 sJ→(match sJ with | b7=>ρ 4=bool b7)→aa Tryz.prog 36 20 k' ρ H n Q:=by
  rintro b7 ρ H n9 h hh
  replace h:=hr6 _ h
  apply hk'
  exact aa.aV (v:=bool b7) Tryz.func36 Tryz.results36 (by simp[hh]) (hQ _ _ _ _ (.of (.v _)) ⟨b7,h,rfl⟩)
 replace h:=hJ5
 obtain⟨e,h⟩:=h
 obtain⟨g,i,h⟩:=atm h
 simp[hh,c]
 refine aG.aB ae (pt sig b e) e39 (.cons (iR false sig) (.cons (bg false b) .nil)) (by decide) (by decide) rfl (by simp[hh,c]) ?_
 rintro _ rfl
 rw[← i]
 rcases Bool.eq_false_or_eq_true g with a | a
 ·replace h:=h.1 a
  obtain⟨dq,j,h⟩:=atm h
  have f13:=fun H=>ax (H:=H) (fr:=false) (f:=al) aO j
  obtain⟨l,o,h⟩:=atm h
  have f15:=cJ (k:=.i64) o
  rcases Bool.eq_false_or_eq_true l with d | d
  ·replace h:=h.1 d
   obtain⟨u,p,h⟩:=atm h
   have f17:=fun H=>ax (H:=H) (fr:=false) (f:=aA.cells) fm p
   obtain⟨q,t,h⟩:=atm h
   have f19:=cJ (k:=.i64) t
   simp[hh,c,f13,f15,f17,f19,a,d,-ai,-aH]
   exact fin8 (q) _ _ _ h (by simp[hh,c,f13,f15,f17,f19,a,d,-ai,-aH])
  replace h:=h.2 d
  simp[hh,c,f13,f15,a,d,-ai,-aH]
  exact fin8 (false) _ _ _ h (by simp[hh,c,f13,f15,a,d,-ai,-aH])
 replace h:=h.2 a
 simp[hh,c,a]
 exact fin8 (false) _ _ _ h (by simp[hh,c,a])
theorem AB (sig:List Control) (b:Big) (hp:ma sig b):aq Tryz.prog 36 [.list false (sig.map Control.cells),.agg (bC false b)] (fun r=>r=bool (vY sig b)):=(vi sig b _ (yz sig b hp)).mono (by rintro _ ⟨_,rfl,rfl⟩;rfl)
theorem IJ:Ent Tryz.prog 164:=Ent.of Tryz.func164 (by kernel_rfl) rfl
theorem u6 (b:Big) (Z:Bool→Prop) (h:k9 b Z):aq Tryz.prog 164 [.agg (bC false b)] (fun r=>∃ y:Bool,Z y∧r=bool y):=by
 unfold k9 at h
 refine aq.of Tryz.func164 rfl Tryz.ntmps164 (by simp) fun Q hQ=>?_
 refine aa.cut (fun ρ H n=>ρ 0 = .agg (bC false b)) (by simp) ?_
 rintro ρ H n1 hh
 refine zE fun k' hk'=>?_
 simp[hh]
 apply hk'
 refine aa.cut (fun ρ H n=>ρ 1=pA n1 1∧H (n1,1)=some ⟨6,[bC false b]⟩) (by refine⟨?_,?_⟩<;>simp[hh]) ?_
 clear hh
 rintro ρ H n3 ⟨hh,a⟩
 refine aa.seq ?_
 refine zE fun k' hk'=>?_
 obtain⟨J4,hJ5,hr6⟩:=h
 have fin8:∀ (sJ:Bool) (ρ:Env) (H:ak) (n:Nat),J4 sJ→(match sJ with | b7=>(ρ 1=pA n1 1∧ρ 15=bool b7)∧H (n1,1)=some ⟨6,[bC false b]⟩)→aa Tryz.prog 164 62 k' ρ H n Q:=by
  rintro b7 ρ H n9 h ⟨hh,a⟩
  replace h:=hr6 _ h
  apply hk'
  refine aa.ite (b:=b7) (by simp[hh,a]) (fun db7=>?_) (fun db7=>?_)
  ·replace h:=h.1 db7
   refine zE fun k' hk'=>?_
   simp[hh,a,db7]
   apply hk'
   exact aa.aV (v:=bool false) Tryz.func164 Tryz.results164 (by simp[hh,a,db7]) (hQ _ _ _ _ (.of (.v _)) ⟨false,h,rfl⟩)
  replace h:=h.2 db7
  refine aa.skip ?_
  refine aa.seq ?_
  refine zE fun k' hk'=>?_
  obtain⟨A,h⟩:=h
  obtain⟨v11,B,h⟩:=atm h
  have f12:=zL A B
  simp[hh,a,f12,db7,-unF,eH]
  apply hk'
  refine aa.block ?_
  refine aa.aw h (fun (sJ:Int) ρ H n=>match sJ with | placeV15=>(ρ 1=pA n1 1∧ρ 3=int placeV15)∧H (n1,1)=some ⟨6,[bC false b]⟩) (by refine⟨?_,?_⟩<;>simp[hh,a,db7]) ?_
  clear hh a
  rintro placeV15 ρ H n16 K h ⟨hh,a⟩ C
  refine aa.seq ?_
  refine zE fun k' hk'=>?_
  obtain⟨b5,D,h⟩:=atm h
  have f20:=fun H=>ax (H:=H) (fr:=false) (f:=(aj.cells false)) bj D
  obtain⟨E,F,h⟩:=atm h
  have f22:=aT (k:=.i64) F
  simp[hh,a,f20,f22,-ai,-aH]
  apply hk'
  refine aa.ite (b:=E) (by simp[hh,a]) (fun c=>?_) (fun c=>?_)
  ·replace h:=h.1 c
   refine aa.skip ?_
   refine aa.seq ?_
   refine aa.block ?_
   refine zE fun k' hk'=>?_
   obtain⟨G,h⟩:=h
   obtain⟨b8,I,h⟩:=atm h
   simp[hh,a,c]
   refine aG.aB ae ((ez b placeV15 G).pure) ES (.cons (bg false b) (.cons (.v _ _ _) .nil)) (by decide) (by decide) rfl (by simp[hh,a,c]) ?_
   rintro _ rfl
   rw[← I]
   simp[hh,a,c]
   apply hk'
   refine zE fun k' hk'=>?_
   obtain⟨J,L,M⟩:=h
   have p:∀ (sJ:Bool) (ρ:Env) (H:ak) (n:Nat),J sJ→(match sJ with | q=>(ρ 1=pA n1 1∧ρ 3=int placeV15∧ρ 48=bool q)∧H (n1,1)=some ⟨6,[bC false b]⟩)→aa Tryz.prog 164 62 k' ρ H n Q:=by
    rintro q ρ H n30 h ⟨hh,a⟩
    replace h:=M _ h
    apply hk'
    refine aa.ite (b:=q) (by simp[hh,a]) (fun i=>?_) (fun i=>?_)
    ·replace h:=h.1 i
     refine zE fun k' hk'=>?_
     simp[hh,a,i]
     apply hk'
     exact aa.aV (v:=bool false) Tryz.func164 Tryz.results164 (by simp[hh,a,i]) (hQ _ _ _ _ (.of (.v _)) ⟨false,h,rfl⟩)
    replace h:=h.2 i
    refine aa.skip ?_
    refine aa.inBlock ?_
    refine zF fun k' hk'=>?_
    obtain⟨N,h⟩:=h
    obtain⟨O,R,h⟩:=atm h
    have f33:=aI N R
    simp[hh,a,f33,i,-ai]
    apply hk'
    refine C (O) _ _ _ h (by refine⟨?_,?_⟩<;>simp[hh,a,i])
   replace h:=L
   obtain⟨T,U,h⟩:=atm h
   have f35:=aT (k:=.i64) U
   rcases Bool.eq_false_or_eq_true T with e | e
   ·replace h:=h.1 e
    obtain⟨b9,V,h⟩:=atm h
    have f37:=fun H=>ax (H:=H) (fr:=true) (f:=al) aO V
    obtain⟨W,X,h⟩:=atm h
    have f39:=cJ (k:=.i64) X
    rcases Bool.eq_false_or_eq_true W with g | g
    ·replace h:=h.1 g
     simp[hh,a,f35,f37,f39,c,e,g,-ai,-aH]
     exact p (true) _ _ _ h (by refine⟨?_,?_⟩<;>simp[hh,a,f35,f37,f39,c,e,g,-ai,-aH])
    replace h:=h.2 g
    obtain⟨cc,t,h⟩:=atm h
    have f41:=fun H=>ax (H:=H) (fr:=true) (f:=al) aO t
    obtain⟨Y,ab,h⟩:=atm h
    have f43:=iN (k:=.i64) ab
    rcases Bool.eq_false_or_eq_true Y with j | j
    ·replace h:=h.1 j
     simp[hh,a,f35,f37,f39,f41,f43,c,e,g,j,-ai,-aH]
     exact p (true) _ _ _ h (by refine⟨?_,?_⟩<;>simp[hh,a,f35,f37,f39,f41,f43,c,e,g,j,-ai,-aH])
    replace h:=h.2 j
    obtain⟨ce,ac,h⟩:=atm h
    have ad:=t.trans ac.symm
    subst ad
    have f46:=fun H=>ax (H:=H) (fr:=true) (f:=al) aO t
    obtain⟨af,am,h⟩:=atm h
    have f48:=iN (k:=.i64) am
    simp[hh,a,f35,f37,f39,f41,f43,f46,f48,c,e,g,j,-ai,-aH]
    exact p (af) _ _ _ h (by refine⟨?_,?_⟩<;>simp[hh,a,f35,f37,f39,f41,f43,f46,f48,c,e,g,j,-ai,-aH])
   replace h:=h.2 e
   obtain⟨ci,an,h⟩:=atm h
   have f50:=fun H=>ax (H:=H) (fr:=true) (f:=al) aO an
   obtain⟨ao,ap,h⟩:=atm h
   have f52:=iN (k:=.i64) ap
   simp[hh,a,f35,f50,f52,c,e,-ai,-aH]
   exact p (ao) _ _ _ h (by refine⟨?_,?_⟩<;>simp[hh,a,f35,f50,f52,c,e,-ai,-aH])
  replace h:=h.2 c
  refine aa.exit rfl ?_
  refine aa.seq ?_
  refine zE fun k' hk'=>?_
  obtain⟨cj,aM,h⟩:=atm h
  have f54:=fun H=>ax (H:=H) (fr:=false) (f:=aL) cy aM
  obtain⟨a0,h⟩:=h
  obtain⟨a1,a2,h⟩:=atm h
  have f57:=aI a0 a2
  simp[hh,a,f54,f57,c,-ai,-aH]
  apply hk'
  refine aa.block ?_
  refine aa.aw h (fun (sJ:Int) ρ H n=>match sJ with | u=>(ρ 1=pA n1 1∧ρ 54=int a1∧ρ 55=int u)∧H (n1,1)=some ⟨6,[bC false b]⟩) (by refine⟨?_,?_⟩<;>simp[hh,a,c]) ?_
  clear hh a
  rintro u ρ H cl K h ⟨hh,a⟩ a3
  refine zE fun k' hk'=>?_
  obtain⟨a4,a5,h⟩:=atm h
  have f65:=aT (k:=.i64) a5
  simp[hh,a,f65,-ai]
  apply hk'
  refine aa.seq ?_
  refine aa.ite (b:=a4) (by simp[hh,a]) (fun d=>?_) (fun d=>?_)
  ·replace h:=h.1 d
   refine aa.skip ?_
   refine aa.seq ?_
   refine aa.block ?_
   refine zE fun k' hk'=>?_
   simp[hh,a,d]
   apply hk'
   refine zE fun k' hk'=>?_
   obtain⟨a9,h⟩:=h
   obtain⟨bd,be,h⟩:=atm h
   simp[hh,a,d]
   refine aG.aB ae (BW b u a9) I8 (.cons (bg false b) (.cons (.v _ _ _) .nil)) (by decide) (by decide) rfl (by simp[hh,a,d]) ?_
   rintro _ rfl
   rw[← be]
   simp[hh,a,d]
   apply hk'
   refine aa.ite (b:=bd) (by simp[hh,a,d]) (fun l=>?_) (fun l=>?_)
   ·replace h:=h.1 l
    refine zE fun k' hk'=>?_
    simp[hh,a,d,l]
    apply hk'
    exact aa.aV (v:=bool false) Tryz.func164 Tryz.results164 (by simp[hh,a,d,l]) (hQ _ _ _ _ (.of (.v _)) ⟨false,h,rfl⟩)
   replace h:=h.2 l
   refine aa.skip ?_
   refine aa.inBlock ?_
   refine zF fun k' hk'=>?_
   obtain⟨bi,h⟩:=h
   obtain⟨bk,bs,h⟩:=atm h
   have f70:=aI bi bs
   simp[hh,a,f70,d,l,-ai]
   apply hk'
   refine a3 (bk) _ _ _ h (by refine⟨?_,?_⟩<;>simp[hh,a,d,l])
  replace h:=h.2 d
  refine aa.exit rfl ?_
  refine zE fun k' hk'=>?_
  simp[hh,a,d]
  apply hk'
  exact aa.aV (v:=bool true) Tryz.func164 Tryz.results164 (by simp[hh,a,d]) (hQ _ _ _ _ (.of (.v _)) ⟨true,h,rfl⟩)
 replace h:=hJ5
 obtain⟨co,bv,h⟩:=atm h
 have f72:=fun H=>ax (H:=H) (fr:=false) (f:=aA.cells) fm bv
 obtain⟨b0,b1,h⟩:=atm h
 have f74:=iN (k:=.i64) b1
 rcases Bool.eq_false_or_eq_true b0 with o | o
 ·replace h:=h.1 o
  simp[hh,a,f72,f74,o,-ai,-aH]
  exact fin8 (true) _ _ _ h (by refine⟨?_,?_⟩<;>simp[hh,a,f72,f74,o,-ai,-aH])
 replace h:=h.2 o
 obtain⟨b2,b3,h⟩:=atm h
 have f76:=cJ (k:=.i64) b3
 simp[hh,a,f72,f74,f76,o,-ai,-aH]
 exact fin8 (b2) _ _ _ h (by refine⟨?_,?_⟩<;>simp[hh,a,f72,f74,f76,o,-ai,-aH])
theorem AE (b:Big) (hp:gb b):aq Tryz.prog 164 [.agg (bC false b)] (fun r=>r=bool (wg b)):=(u6 b _ (yG b hp)).mono (by rintro _ ⟨_,rfl,rfl⟩;rfl)
theorem Ie:Ent Tryz.prog 210:=Ent.of Tryz.func210 (by kernel_rfl) rfl
theorem uP (b:Big) (Z:Bool→Prop) (h:lk b Z):aq Tryz.prog 210 [.agg (bC false b)] (fun r=>∃ y:Bool,Z y∧r=bool y):=by
 unfold lk at h
 refine aq.of Tryz.func210 rfl Tryz.ntmps210 (by simp) fun Q hQ=>?_
 refine aa.cut (fun ρ H n=>ρ 0 = .agg (bC false b)) (by simp) ?_
 rintro ρ H n1 hh
 refine zE fun k' hk'=>?_
 simp[hh]
 apply hk'
 refine aa.cut (fun ρ H n=>ρ 1=pA n1 1∧H (n1,1)=some ⟨6,[bC false b]⟩) (by refine⟨?_,?_⟩<;>simp[hh]) ?_
 clear hh
 rintro ρ H n3 ⟨hh,a⟩
 refine aa.seq ?_
 refine zE fun k' hk'=>?_
 obtain⟨J4,hJ5,hr6⟩:=h
 have fin8:∀ (sJ:Bool) (ρ:Env) (H:ak) (n:Nat),J4 sJ→(match sJ with | b7=>(ρ 1=pA n1 1∧ρ 14=bool b7)∧H (n1,1)=some ⟨6,[bC false b]⟩)→aa Tryz.prog 210 60 k' ρ H n Q:=by
  rintro b7 ρ H n9 h ⟨hh,a⟩
  replace h:=hr6 _ h
  apply hk'
  refine aa.ite (b:=b7) (by simp[hh,a]) (fun db7=>?_) (fun db7=>?_)
  ·replace h:=h.1 db7
   refine zE fun k' hk'=>?_
   simp[hh,a,db7]
   apply hk'
   exact aa.aV (v:=bool false) Tryz.func210 Tryz.results210 (by simp[hh,a,db7]) (hQ _ _ _ _ (.of (.v _)) ⟨false,h,rfl⟩)
  replace h:=h.2 db7
  refine aa.skip ?_
  refine aa.seq ?_
  refine zE fun k' hk'=>?_
  simp[hh,a,db7]
  apply hk'
  refine aa.block ?_
  refine aa.aw h (fun (sJ:Int) ρ H n=>match sJ with | p=>(ρ 1=pA n1 1∧ρ 3=int p)∧H (n1,1)=some ⟨6,[bC false b]⟩) (by refine⟨?_,?_⟩<;>simp[hh,a,db7]) ?_
  clear hh a
  rintro p ρ H cj K h ⟨hh,a⟩ A
  refine aa.seq ?_
  refine zE fun k' hk'=>?_
  obtain⟨B,C,h⟩:=atm h
  have f17:=aT (k:=.i64) C
  simp[hh,a,f17,-ai]
  apply hk'
  refine aa.ite (b:=B) (by simp[hh,a]) (fun c=>?_) (fun c=>?_)
  ·replace h:=h.1 c
   refine aa.skip ?_
   refine aa.seq ?_
   refine aa.block ?_
   refine zE fun k' hk'=>?_
   obtain⟨D,E,F⟩:=h
   have u:∀ (sJ:Bool) (ρ:Env) (H:ak) (n:Nat),D sJ→(match sJ with | q=>(ρ 1=pA n1 1∧ρ 3=int p∧ρ 34=bool q)∧H (n1,1)=some ⟨6,[bC false b]⟩)→aa Tryz.prog 210 60 k' ρ H n Q:=by
    rintro q ρ H n23 h ⟨hh,a⟩
    replace h:=F _ h
    apply hk'
    refine aa.ite (b:=q) (by simp[hh,a]) (fun i=>?_) (fun i=>?_)
    ·replace h:=h.1 i
     refine zE fun k' hk'=>?_
     simp[hh,a,i]
     apply hk'
     exact aa.aV (v:=bool false) Tryz.func210 Tryz.results210 (by simp[hh,a,i]) (hQ _ _ _ _ (.of (.v _)) ⟨false,h,rfl⟩)
    replace h:=h.2 i
    refine aa.skip ?_
    refine aa.inBlock ?_
    refine zF fun k' hk'=>?_
    obtain⟨G,h⟩:=h
    obtain⟨I,J,h⟩:=atm h
    have f26:=aI G J
    simp[hh,a,f26,i,-ai]
    apply hk'
    refine A (I) _ _ _ h (by refine⟨?_,?_⟩<;>simp[hh,a,i])
   replace h:=E
   obtain⟨L,h⟩:=h
   obtain⟨v28,t,h⟩:=atm h
   have f29:=lP L t
   obtain⟨M,h⟩:=h
   obtain⟨cl,N,h⟩:=atm h
   simp[hh,a,f29,c,-ai]
   refine aG.aB ae ((tW b v28 M).pure) GN (.cons (bg false b) (.cons (.v _ _ _) .nil)) (by decide) (by decide) rfl (by simp[hh,a,f29,c,-ai]) ?_
   rintro _ rfl
   rw[← N]
   obtain⟨co,O,h⟩:=atm h
   have f33:=fun H=>ax (H:=H) (fr:=true) (f:=al) aO O
   obtain⟨R,T,h⟩:=atm h
   have f35:=cJ (k:=.i64) T
   rcases Bool.eq_false_or_eq_true R with g | g
   ·replace h:=h.1 g
    simp[hh,a,f29,f33,f35,c,g,-ai,-aH]
    exact u (true) _ _ _ h (by refine⟨?_,?_⟩<;>simp[hh,a,f29,f33,f35,c,g,-ai,-aH])
   replace h:=h.2 g
   obtain⟨U,h⟩:=h
   obtain⟨v37,V,h⟩:=atm h
   have W:=t.trans V.symm
   subst W
   have f39:=lP U t
   obtain⟨X,h⟩:=h
   obtain⟨cs,Y,h⟩:=atm h
   simp[hh,a,f29,f33,f35,f39,c,g,-ai,-aH]
   refine aG.aB ae ((ld b v28 X).pure) Fx (.cons (bg false b) (.cons (.v _ _ _) .nil)) (by decide) (by decide) rfl (by simp[hh,a,f29,f33,f35,f39,c,g,-ai,-aH]) ?_
   rintro _ rfl
   rw[← Y]
   obtain⟨c0,ab,h⟩:=atm h
   have f43:=fun H=>ax (H:=H) (fr:=true) (f:=al) aO ab
   obtain⟨ac,ad,h⟩:=atm h
   have f45:=iN (k:=.i64) ad
   simp[hh,a,f29,f33,f35,f39,f43,f45,c,g,-ai,-aH]
   exact u (ac) _ _ _ h (by refine⟨?_,?_⟩<;>simp[hh,a,f29,f33,f35,f39,f43,f45,c,g,-ai,-aH])
  replace h:=h.2 c
  refine aa.exit rfl ?_
  refine aa.seq ?_
  refine zE fun k' hk'=>?_
  simp[hh,a,c]
  apply hk'
  refine aa.block ?_
  refine aa.aw h (fun (sJ:Int) ρ H n=>match sJ with | i48=>(ρ 1=pA n1 1∧ρ 4=int i48)∧H (n1,1)=some ⟨6,[bC false b]⟩) (by refine⟨?_,?_⟩<;>simp[hh,a,c]) ?_
  clear hh a
  rintro i48 ρ H c1 K h ⟨hh,a⟩ af
  refine aa.seq ?_
  refine zE fun k' hk'=>?_
  obtain⟨c2,am,h⟩:=atm h
  have f53:=fun H=>ax (H:=H) (fr:=false) (f:=(aj.cells false)) bj am
  obtain⟨an,ao,h⟩:=atm h
  have f55:=aT (k:=.i64) ao
  simp[hh,a,f53,f55,-ai,-aH]
  apply hk'
  refine aa.ite (b:=an) (by simp[hh,a]) (fun d=>?_) (fun d=>?_)
  ·replace h:=h.1 d
   refine aa.skip ?_
   refine aa.seq ?_
   refine aa.block ?_
   refine zE fun k' hk'=>?_
   obtain⟨ap,h⟩:=h
   obtain⟨c3,aM,h⟩:=atm h
   simp[hh,a,d]
   refine aG.aB ae ((ld b i48 ap).pure) Fx (.cons (bg false b) (.cons (.v _ _ _) .nil)) (by decide) (by decide) rfl (by simp[hh,a,d]) ?_
   rintro _ rfl
   rw[← aM]
   obtain⟨c4,a0,h⟩:=atm h
   have f59:=fun H=>ax (H:=H) (fr:=true) (f:=al) aO a0
   obtain⟨a1,a2,h⟩:=atm h
   have f61:=iN (k:=.i64) a2
   simp[hh,a,f59,f61,d,-ai,-aH]
   apply hk'
   refine aa.ite (b:=a1) (by simp[hh,a,d]) (fun j=>?_) (fun j=>?_)
   ·replace h:=h.1 j
    refine zE fun k' hk'=>?_
    simp[hh,a,d,j]
    apply hk'
    exact aa.aV (v:=bool false) Tryz.func210 Tryz.results210 (by simp[hh,a,d,j]) (hQ _ _ _ _ (.of (.v _)) ⟨false,h,rfl⟩)
   replace h:=h.2 j
   refine aa.skip ?_
   refine aa.inBlock ?_
   refine zF fun k' hk'=>?_
   obtain⟨a3,h⟩:=h
   obtain⟨a4,a5,h⟩:=atm h
   have f64:=aI a3 a5
   simp[hh,a,f64,d,j,-ai]
   apply hk'
   refine af (a4) _ _ _ h (by refine⟨?_,?_⟩<;>simp[hh,a,d,j])
  replace h:=h.2 d
  refine aa.exit rfl ?_
  refine aa.seq ?_
  refine zE fun k' hk'=>?_
  simp[hh,a,d]
  apply hk'
  refine aa.block ?_
  refine aa.aw h (fun (sJ:Int) ρ H n=>match sJ with | link67=>(ρ 1=pA n1 1∧ρ 5=int link67)∧H (n1,1)=some ⟨6,[bC false b]⟩) (by refine⟨?_,?_⟩<;>simp[hh,a,d]) ?_
  clear hh a
  rintro link67 ρ H c6 K h ⟨hh,a⟩ a9
  refine aa.seq ?_
  refine zE fun k' hk'=>?_
  obtain⟨c8,bd,h⟩:=atm h
  have f72:=fun H=>ax (H:=H) (fr:=false) (f:=aL) cy bd
  obtain⟨be,h⟩:=h
  obtain⟨c9,bi,h⟩:=atm h
  have f75:=aI be bi
  obtain⟨bk,bs,h⟩:=atm h
  have f77:=aT (k:=.i64) bs
  simp[hh,a,f72,f75,f77,-ai,-aH]
  apply hk'
  refine aa.ite (b:=bk) (by simp[hh,a]) (fun e=>?_) (fun e=>?_)
  ·replace h:=h.1 e
   refine aa.skip ?_
   refine aa.seq ?_
   refine aa.block ?_
   refine zE fun k' hk'=>?_
   obtain⟨bv,h⟩:=h
   obtain⟨b0,b1,h⟩:=atm h
   simp[hh,a,e]
   refine aG.aB ae (BK b link67 bv) H7 (.cons (bg false b) (.cons (.v _ _ _) .nil)) (by decide) (by decide) rfl (by simp[hh,a,e]) ?_
   rintro _ rfl
   rw[← b1]
   simp[hh,a,e]
   apply hk'
   refine aa.ite (b:=b0) (by simp[hh,a,e]) (fun l=>?_) (fun l=>?_)
   ·replace h:=h.1 l
    refine zE fun k' hk'=>?_
    simp[hh,a,e,l]
    apply hk'
    exact aa.aV (v:=bool false) Tryz.func210 Tryz.results210 (by simp[hh,a,e,l]) (hQ _ _ _ _ (.of (.v _)) ⟨false,h,rfl⟩)
   replace h:=h.2 l
   refine aa.skip ?_
   refine aa.inBlock ?_
   refine zF fun k' hk'=>?_
   obtain⟨b2,h⟩:=h
   obtain⟨b3,b5,h⟩:=atm h
   have f82:=aI b2 b5
   simp[hh,a,f82,e,l,-ai]
   apply hk'
   refine a9 (b3) _ _ _ h (by refine⟨?_,?_⟩<;>simp[hh,a,e,l])
  replace h:=h.2 e
  refine aa.exit rfl ?_
  refine zE fun k' hk'=>?_
  simp[hh,a,e]
  apply hk'
  exact aa.aV (v:=bool true) Tryz.func210 Tryz.results210 (by simp[hh,a,e]) (hQ _ _ _ _ (.of (.v _)) ⟨true,h,rfl⟩)
 replace h:=hJ5
 obtain⟨da,b8,h⟩:=atm h
 have f84:=fun H=>ax (H:=H) (fr:=false) (f:=aA.cells) fm b8
 obtain⟨b9,cc,h⟩:=atm h
 have f86:=iN (k:=.i64) cc
 rcases Bool.eq_false_or_eq_true b9 with o | o
 ·replace h:=h.1 o
  simp[hh,a,f84,f86,o,-ai,-aH]
  exact fin8 (true) _ _ _ h (by refine⟨?_,?_⟩<;>simp[hh,a,f84,f86,o,-ai,-aH])
 replace h:=h.2 o
 obtain⟨ce,ci,h⟩:=atm h
 have f88:=cJ (k:=.i64) ci
 simp[hh,a,f84,f86,f88,o,-ai,-aH]
 exact fin8 (ce) _ _ _ h (by refine⟨?_,?_⟩<;>simp[hh,a,f84,f86,f88,o,-ai,-aH])
theorem zI (b:Big) (hp:lx b):aq Tryz.prog 210 [.agg (bC false b)] (fun r=>r=bool (vj b)):=(uP b _ (yH b hp)).mono (by rintro _ ⟨_,rfl,rfl⟩;rfl)
end Go.Ab.Vg
/- The abstract machine, part O: regions that draw their order and make variables. -/
namespace Go.Ab
def cm:Op→Nat
 | .move _ | .assign _ | .pick .. | .binOp .. | .unOp .. | .convert .. | .makeFunc .. | .extract .. | .field .. | .index .. | .build ..=>0
 | .load .. | .fieldAddr .. | .indexAddr .. | .nilCheck _ | .call ⟨.builtin .len,_,_⟩=>1
 | .alloc _=>3
 | .store ..=>4
 | _=>2
def oH (a b:Nat):Bool:=a == 0 || b == 0 || (a == 1 && (b == 1 || b == 3 || b == 4)) || (a == 3 && (b == 1 || b == 3 || b == 4)) || (a == 4 && (b == 1 || b == 3))
def CP (n0:Nat):ag→Prop
 | .ptr id _ _ _ | .arr id _ _ _=>id.1<n0
 | _=>True
def dU (n0:Nat) (op:Op) (ρ:Env):Prop:=
 match op with
 | .load _ a | .fieldAddr _ a _ | .nilCheck a=>CP n0 (ρ.ev a)
 | .indexAddr _ x _=>CP n0 (ρ.ev x)
 | .call ⟨.builtin .len,args,_⟩=>∀ x ∈ args.toList,CP n0 (ρ.ev x)
 | .store _ a _=>∃ id g idx off,ρ.ev a = .ptr id g idx off∧n0≤id.1
 | _=>cm op=0
theorem k8 {n0:Nat} {H H2:ak} (hag:∀ id:Id,id.1<n0→H2 id=H id) {p:ag} (hp:CP n0 p):cR H2 p=cR H p:=by
 cases p with
 | ptr id g idx off=>simp only[cR];rw[hag id hp]
 | _=>rfl
theorem sn {n0:Nat} {H H2:ak} (hag:∀ id:Id,id.1<n0→H2 id=H id) {id:Id} {g:Nat} (hp:id.1<n0):live H2 id g=live H id g:=by
 unfold live
 rw[hag id hp]
section
variable {Ty:Types} {ρ:Env} {H H2 H':ak} {n n2 n' n0:Nat} {d:Option Tmp} {v:ag} {op:Op}
theorem iP (hk:cm op=0) (h:a6 Ty d op ρ H n=some (v,H',n')):H'=H∧n'=n∧∀ H2 n2,a6 Ty d op ρ H2 n2=some (v,H2,n2):=by
 refine xI ?_ h
 cases op with
 | call c=>
  obtain⟨cal,args,ats⟩:=c
  cases cal with
  | builtin b=>cases b<;>simp[cm] at hk
  | _=>simp[cm] at hk
 | _=>first | rfl | (simp[cm] at hk)
theorem eE (hk:cm op=1) (hc:dU n0 op ρ) (hag:∀ id:Id,id.1<n0→H2 id=H id) (h:a6 Ty d op ρ H n=some (v,H',n')):H'=H∧n'=n∧a6 Ty d op ρ H2 n2=some (v,H2,n2):=by
 cases op with
 | load t a=>
  simp only[a6] at h ⊢
  rw[k8 hag hc]
  split at h
  ·split at h
   ·cases h;exact⟨rfl,rfl,rfl⟩
   ·cases h
  ·cases h
 | fieldAddr t a f=>
  simp only[a6] at h ⊢
  rw[k8 hag hc]
  split at h
  ·split at h
   ·split at h
    ·cases h
    ·rename_i hz
     cases h
     exact⟨rfl,rfl,by rw[if_neg hz]⟩
   ·cases h
  ·cases h
 | nilCheck a=>
  simp only[a6] at h ⊢
  rw[k8 hag hc]
  split at h
  ·cases h;exact⟨rfl,rfl,rfl⟩
  ·cases h
 | indexAddr t x ix=>
  obtain⟨h1,h2,h3⟩:=cr h
  refine⟨h2,h3,?_⟩
  have:ah Ty H2 t (ρ.ev x) (ρ.ev ix)=ah Ty H t (ρ.ev x) (ρ.ev ix):=by
   simp only[dU] at hc
   unfold ah
   split
   ·generalize ρ.ev x=p at hc
    cases hkd:kd Ty t with
    | slice j=>cases p with
     | arr id g off len=>simp only[sn hag (show id.1<n0 from hc)]
     | _=>rfl
    | arr len j=>simp only[k8 hag hc]
    | _=>rfl
   ·rfl
  simp only[a6,this,h1,Option.map_some]
 | call c=>
  obtain⟨cal,args,ats⟩:=c
  cases cal with
  | builtin b=>
   cases b<;>simp[cm] at hk
   simp only[a6] at h ⊢
   split at h
   ·rename_i x t hx ht
    obtain⟨h1,h2,h3⟩:=cr h
    refine⟨h2,h3,?_⟩
    have hcx:CP n0 (ρ.ev x):=hc x (by rw[hx];simp)
    have:aH Ty H2 t (ρ.ev x)=aH Ty H t (ρ.ev x):=by
     unfold aH
     generalize ρ.ev x=p at hcx
     cases hkd:kd Ty t with
     | slice j=>cases p with
      | arr id g off len=>simp only[sn hag (show id.1<n0 from hcx)]
      | v x=>cases x<;>rfl
      | _=>rfl
     | string=>cases p with
      | v x=>cases x<;>rfl
      | _=>rfl
     | _=>rfl
    simp only[this,h1,Option.map_some]
   ·cases h
  | _=>simp[cm] at hk
 | _=>simp[cm] at hk
def tgt:Op→Env→Option Id
 | .store _ a _,ρ=>match ρ.ev a with
  | .ptr id _ _ _=>some id
  | _=>none
 | _,_=>none
theorem iE (hk:cm op=4) (hc:dU n0 op ρ) (h:a6 Ty d op ρ H n=some (v,H',n')) :
  ∃ id ob ob',tgt op ρ=some id∧n0≤id.1∧H id=some ob∧H'=H.set id ob'∧n'=n∧∀ H2 n2,H2 id=some ob→a6 Ty d op ρ H2 n2=some (v,H2.set id ob',n2):=by
 cases op with
 | store t a x=>
  obtain⟨id,g,idx,off,ha,hid⟩:=hc
  simp only[a6] at h ⊢
  rw[ha] at h ⊢
  split at h
  ·rename_i H1 hs
   cases h
   unfold bG at hs
   split at hs
   ·rename_i i id1 g1 idx1 off1 new e1 e2 e3
    cases e2
    split at hs
    ·rename_i o hl
     split at hs
     ·rename_i hcond
      cases hs
      obtain⟨l1,l2⟩:=dK hl
      refine⟨id,o,o.write idx off new,by simp only[tgt,ha],hid,l1,rfl,rfl,fun H2 n2 h2=>?_⟩
      have hl2:live H2 id g=some o:=by
       unfold live
       rw[h2]
       simp[l2]
      simp only[bG,e1,e3,hl2,if_pos hcond]
     ·cases hs
    ·cases hs
   ·cases hs
  ·cases h
 | call c=>
  obtain⟨cal,args,ats⟩:=c
  cases cal with
  | builtin b=>cases b<;>simp[cm] at hk
  | _=>simp[cm] at hk
 | _=>simp[cm] at hk
end
theorem m8 {n0:Nat} {op:Op} {ρ:Env}:dU n0 op (loc op ρ)↔dU n0 op ρ:=by
 have h:∀ x,x ∈ op.operands→(loc op ρ).ev x=ρ.ev x:=fun x hx=>fu hx
 generalize loc op ρ=ρ' at h
 cases op with
 | call c=>
  obtain⟨cal,args,ats⟩:=c
  cases cal with
  | builtin b=>
   cases b<;>try rfl
   have ha:∀ x,x ∈ args.toList→ρ'.ev x=ρ.ev x:=fun x hx=>h x (by simp[Op.operands,Call.operands];simpa using hx)
   simp only[dU]
   exact⟨fun hc x hx=>by rw[← ha x hx];exact hc x hx,fun hc x hx=>by rw[ha x hx];exact hc x hx⟩
  | _=>rfl
 | load t a=>simp only[dU];rw[h a (by simp[Op.operands])]
 | fieldAddr t a f=>simp only[dU];rw[h a (by simp[Op.operands])]
 | nilCheck a=>simp only[dU];rw[h a (by simp[Op.operands])]
 | indexAddr t x i=>simp only[dU];rw[h x (by simp[Op.operands])]
 | store t a x=>simp only[dU];rw[h a (by simp[Op.operands])]
 | _=>rfl
section
variable (Ty:Types) (ops:Array Oper) (n0:Nat)
def DoN (o:Oper) (s:AS) (R:AS→Prop):Prop:=
 (gok ops o s.1=some false∧R (s.1.put o.dst skv,s.2)) ∨
 (gok ops o s.1=some true∧cm o.op ≠ 3∧dU n0 o.op s.1∧∃ v H',a6 Ty o.dst o.op s.1 s.2.1 s.2.2=some (v,H',s.2.2)∧R (s.1.put o.dst v,H',s.2.2)) ∨
 (gok ops o s.1=some true∧∃ t k i,o.op = .alloc t∧o.dst=some k∧Ty t=some i∧∀ a,n0≤a→(∀ j,s.2.1 (a,j)=none)→R (s.1.put (some k) (.ptr (a,k) 1 0 0),s.2.1.set (a,k) ⟨i.zero.length,[i.zero.map .v]⟩,max s.2.2 (a+1)))
def Bd (s:AS):Prop:=n0≤s.2.2∧∀ id o,s.2.1 id=some o→id.1<s.2.2
end
theorem set_comm {H:ak} {i j:Id} (o p:Ob) (h:i ≠ j):(H.set i o).set j p=(H.set j p).set i o:=by
 funext x
 simp only[ak.set]
 by_cases h1:x=i<;>by_cases h2:x=j<;>simp_all
section
variable {Ty:Types} {ops:Array Oper} {n0:Nat}
theorem DoN.mono {o:Oper} {s:AS} {R R':AS→Prop} (h:DoN Ty ops n0 o s R) (hR:∀ s,R s→R' s):DoN Ty ops n0 o s R':=by
 rcases h with ⟨h1,h2⟩ | ⟨h1,h2,h3,v,H',h4,h5⟩ | ⟨h1,t,k,i,h2,h3,h4,h5⟩
 ·exact .inl ⟨h1,hR _ h2⟩
 ·exact .inr (.inl ⟨h1,h2,h3,v,H',h4,hR _ h5⟩)
 ·exact .inr (.inr ⟨h1,t,k,i,h2,h3,h4,fun a ha hf=>hR _ (h5 a ha hf)⟩)
theorem fF {op:Op} {ρ:Env} (h3:cm op ≠ 3) (h:dU n0 op ρ):cm op=0∨cm op=1∨cm op=4:=by
 cases op with
 | call c=>
  obtain⟨cal,args,ats⟩:=c
  cases cal with
  | builtin b=>cases b<;>first | (simp[cm];done) | (simp[dU,cm] at h)
  | _=>simp[dU,cm] at h
 | buildSlice t len ps=>simp only[dU] at h;exact .inl h
 | _=>first | (simp[cm];done) | (simp[dU,cm] at h;done) | (simp[cm] at h3)
theorem yp {s:AS} (hb:Bd n0 s) (j:Nat):s.2.1 (s.2.2,j)=none:=by
 cases h:s.2.1 (s.2.2,j) with
 | none=>rfl
 | some o=>have:=hb.2 _ o h;simp at this
theorem DoN.bd {o:Oper} {s:AS} {R:AS→Prop} (hb:Bd n0 s) (h:DoN Ty ops n0 o s R):DoN Ty ops n0 o s fun s'=>Bd n0 s'∧R s':=by
 rcases h with ⟨h1,h2⟩ | ⟨h1,h2,h3,v,H',h4,h5⟩ | ⟨h1,t,k,i,h2,h3,h4,h5⟩
 ·exact .inl ⟨h1,hb,h2⟩
 ·refine .inr (.inl ⟨h1,h2,h3,v,H',h4,⟨hb.1,?_⟩,h5⟩)
  rcases fF h2 h3 with hk | hk | hk
  ·obtain⟨rfl,_⟩:=iP hk h4;exact hb.2
  ·obtain⟨rfl,_⟩:=eE (H2:=s.2.1) (n2:=s.2.2) hk h3 (fun _ _=>rfl) h4;exact hb.2
  ·obtain⟨id,ob,ob',_,_,e2,rfl,_⟩:=iE hk h3 h4
   intro id' o' ho'
   simp only at ho' ⊢
   by_cases he:id'=id
   ·rw[he];exact hb.2 _ _ e2
   ·rw[ak.aQ _ _ he] at ho';exact hb.2 _ _ ho'
 ·refine .inr (.inr ⟨h1,t,k,i,h2,h3,h4,fun a ha hf=>⟨⟨?_,?_⟩,h5 a ha hf⟩⟩)
  ·have:=hb.1;simp only;omega
  ·intro id' o' ho'
   simp only at ho' ⊢
   by_cases he:id'=(a,k)
   ·rw[he];simp only;omega
   ·rw[ak.aQ _ _ he] at ho'
    have:=hb.2 _ _ ho'
    omega
theorem DoN.swap {oi oj:Oper} (hap:oi.apart ops oj=true) (hc:oH (cm oi.op) (cm oj.op)=true) {s:AS} (hb:Bd n0 s) {R:AS→Prop} (h:DoN Ty ops n0 oi s fun si=>DoN Ty ops n0 oj si R) :
  DoN Ty ops n0 oj s fun sj=>DoN Ty ops n0 oi sj R:=by
 obtain⟨h1,h2,h3⟩:=Oper.apart_spec hap
 have sj:∀ v H n,a6 Ty oj.dst oj.op (s.1.put oi.dst v) H n=a6 Ty oj.dst oj.op s.1 H n:=fun v H n=>by rw[← aC,iY (ea h1),aC]
 have si:∀ v H n,a6 Ty oi.dst oi.op (s.1.put oj.dst v) H n=a6 Ty oi.dst oi.op s.1 H n:=fun v H n=>by rw[← aC,iY (ea h3),aC]
 have cj:∀ v,dU n0 oj.op (s.1.put oi.dst v)↔dU n0 oj.op s.1:=fun v=>by rw[← m8,iY (ea h1),m8]
 have ci:∀ v,dU n0 oi.op (s.1.put oj.dst v)↔dU n0 oi.op s.1:=fun v=>by rw[← m8,iY (ea h3),m8]
 have gj:∀ v,gok ops oj (s.1.put oi.dst v)=gok ops oj s.1:=fun v=>mM h1
 have gi:∀ v,gok ops oi (s.1.put oj.dst v)=gok ops oi s.1:=fun v=>mM h3
 have pc:∀ v u,(s.1.put oi.dst v).put oj.dst u=(s.1.put oj.dst u).put oi.dst v:=fun v u=>put_comm v u h2
 obtain⟨ρ,H,n⟩:=s
 simp only at sj si cj ci gj gi pc
 rcases h with ⟨hgi,h⟩ | ⟨hgi,hki,hci,v,Hi,hsi,h⟩ | ⟨hgi,t,k,i,hop,hd,hT,h⟩
 ·-- oi is A9
  rcases h with ⟨hgj,h⟩ | ⟨hgj,hkj,hcj,u,Hj,hsj,h⟩ | ⟨hgj,t',k',i',hop',hd',hT',h⟩
  ·simp only[gj] at hgj
   exact .inl ⟨hgj,.inl ⟨by simpa only [gi] using hgi,by simpa only [pc] using h⟩⟩
  ·simp only[gj,cj,sj] at hgj hcj hsj
   exact .inr (.inl ⟨hgj,hkj,hcj,u,Hj,hsj,.inl ⟨by simpa only [gi] using hgi,by simpa only [pc] using h⟩⟩)
  ·simp only[gj] at hgj
   rw[hd'] at pc gi
   exact .inr (.inr ⟨hgj,t',k',i',hop',hd',hT',fun a ha hf=>.inl ⟨by simpa only [gi] using hgi,by simpa only [pc] using h a ha hf⟩⟩)
 ·-- oi runs
  rcases h with ⟨hgj,h⟩ | ⟨hgj,hkj,hcj,u,Hj,hsj,h⟩ | ⟨hgj,t',k',i',hop',hd',hT',h⟩
  ·simp only[gj] at hgj
   exact .inl ⟨hgj,.inr (.inl ⟨by simpa only [gi] using hgi,hki,by simpa only [ci] using hci,v,Hi,by simpa only [si] using hsi,by simpa only [pc] using h⟩)⟩
  ·simp only[gj,cj,sj] at hgj hcj hsj
   simp only at hsi hci hgi h
   -- both run
   have key:∃ Hj',a6 Ty oj.dst oj.op ρ H n=some (u,Hj',n)∧a6 Ty oi.dst oi.op ρ Hj' n=some (v,Hj,n):=by
    rcases fF hki hci with ki | ki | ki
    ·obtain⟨rfl,_,hall⟩:=iP ki hsi
     exact⟨Hj,hsj,hall Hj n⟩
    ·obtain⟨rfl,_,_⟩:=eE (H2:=H) (n2:=n) ki hci (fun _ _=>rfl) hsi
     rcases fF hkj hcj with kj | kj | kj
     ·obtain⟨rfl,_,hall⟩:=iP kj hsj
      exact⟨_,hsj,hsi⟩
     ·obtain⟨rfl,_,_⟩:=eE (H2:=Hi) (n2:=n) kj hcj (fun _ _=>rfl) hsj
      exact⟨_,hsj,hsi⟩
     ·obtain⟨id,ob,ob',_,e1,e2,rfl,_,_⟩:=iE kj hcj hsj
      refine⟨_,hsj,?_⟩
      exact (eE ki hci (fun id' hid=>ak.aQ _ _ (by rintro rfl;omega)) hsi).2.2
    ·obtain⟨id,ob,ob',_,e1,e2,rfl,_,hall⟩:=iE ki hci hsi
     rcases fF hkj hcj with kj | kj | kj
     ·obtain⟨rfl,_,hall'⟩:=iP kj hsj
      exact⟨H,hall' H n,hsi⟩
     ·obtain⟨rfl,_,hst⟩:=eE (H2:=H) (n2:=n) kj hcj (fun id' hid=>(ak.aQ _ _ (by rintro rfl;omega)).symm) hsj
      exact⟨H,hst,hsi⟩
     ·rw[ki,kj] at hc;simp[oH] at hc
   obtain⟨Hj',k1,k2⟩:=key
   exact .inr (.inl ⟨hgj,hkj,hcj,u,Hj',k1,.inr (.inl ⟨by simpa only [gi] using hgi,hki,by simpa only [ci] using hci,v,Hj,by simpa only [si] using k2,by simpa only [pc] using h⟩)⟩)
  ·-- oj makes a variable
   simp only[gj] at hgj
   rw[hd'] at pc gi si ci
   refine .inr (.inr ⟨hgj,t',k',i',hop',hd',hT',fun a ha hf=>?_⟩)
   simp only at hsi hci hgi h hf
   rcases fF hki hci with ki | ki | ki
   ·obtain⟨rfl,_,hall⟩:=iP ki hsi
    exact .inr (.inl ⟨by simpa only [gi] using hgi,hki,by simpa only [ci] using hci,v,_,by simpa only [si] using hall _ _,by simpa only [pc] using h a ha hf⟩)
   ·obtain⟨rfl,_,_⟩:=eE (H2:=H) (n2:=n) ki hci (fun _ _=>rfl) hsi
    have hst:=(eE (n2:=max n (a+1)) ki hci (fun id' hid=>ak.aQ Hi ⟨i'.zero.length,[i'.zero.map .v]⟩ (i:=(a,k')) (by rintro rfl;simp only at hid;omega)) hsi).2.2
    exact .inr (.inl ⟨by simpa only [gi] using hgi,hki,by simpa only [ci] using hci,v,_,by simpa only [si] using hst,by simpa only [pc] using h a ha hf⟩)
   ·obtain⟨id,ob,ob',_,e1,e2,rfl,_,hall⟩:=iE ki hci hsi
    have hne:id ≠ (a,k'):=by rintro rfl;rw[hf k'] at e2;cases e2
    have hf':∀ j,(H.set id ob') (a,j)=none:=fun j=>by
     rw[ak.aQ _ _ (by rintro rfl;rw[hf j] at e2;cases e2)]
     exact hf j
    have hst:=hall (H.set (a,k') ⟨i'.zero.length,[i'.zero.map .v]⟩) (max n (a+1)) (by rw[ak.aQ _ _ hne];exact e2)
    have hfin:=h a ha hf'
    rw[set_comm _ _ hne] at hfin
    exact .inr (.inl ⟨by simpa only [gi] using hgi,hki,by simpa only [ci] using hci,v,_,by simpa only [si] using hst,by simpa only [pc] using hfin⟩)
 ·-- oi makes a variable
  simp only at hgi h
  rw[hd] at pc gj sj cj
  have hf0:∀ j,H (n,j)=none:=fun j=>yp hb j
  have hn0:n0≤n:=hb.1
  have hi3:cm oi.op=3:=by rw[hop];rfl
  rcases h n hn0 hf0 with ⟨hgj,_⟩ | ⟨hgj,hkj,hcj,u,Hj,hsj,_⟩ | ⟨hgj,t',k',i',hop',hd',hT',_⟩
  ·simp only[gj] at hgj
   refine .inl ⟨hgj,.inr (.inr ⟨by simpa only [gi] using hgi,t,k,i,hop,hd,hT,fun a ha hf=>?_⟩)⟩
   rcases h a ha hf with ⟨_,h⟩ | ⟨hg,_⟩ | ⟨hg,_⟩
   ·simpa only [pc] using h
   ·simp only[gj,hgj] at hg;cases hg
   ·simp only[gj,hgj] at hg;cases hg
  ·simp only[gj,cj,sj] at hgj hcj hsj
   have back:∀ a,n0≤a→(∀ j,H (a,j)=none)→∃ ua Ha,a6 Ty oj.dst oj.op ρ (H.set (a,k) ⟨i.zero.length,[i.zero.map .v]⟩) (max n (a+1))=some (ua,Ha,max n (a+1))∧R ((ρ.put (some k) (.ptr (a,k) 1 0 0)).put oj.dst ua,Ha,max n (a+1)):=by
    intro a ha hf
    rcases h a ha hf with ⟨hg,_⟩ | ⟨_,_,_,ua,Ha,hs,hR⟩ | ⟨_,t',_,_,hop',_⟩
    ·simp only[gj,hgj] at hg;cases hg
    ·simp only[sj] at hs
     exact⟨ua,Ha,hs,hR⟩
    ·exact absurd (by rw[hop'];rfl) hkj
   have hout:∀ (a:Nat) (id':Id),n0≤a→id'.1<n0→(H.set (a,k) ⟨i.zero.length,[i.zero.map .v]⟩) id'=H id':=fun a id' ha hid=>ak.aQ _ _ (by rintro rfl;simp only at hid;omega)
   rcases fF hkj hcj with kj | kj | kj
   ·obtain⟨rfl,_,hall⟩:=iP kj hsj
    refine .inr (.inl ⟨hgj,hkj,hcj,u,H,hall H n,.inr (.inr ⟨by simpa only [gi] using hgi,t,k,i,hop,hd,hT,fun a ha hf=>?_⟩)⟩)
    obtain⟨ua,Ha,hs,hR⟩:=back a ha hf
    rw[hall] at hs
    cases hs
    simpa only [pc] using hR
   ·have hst:=(eE (H2:=H) (n2:=n) kj hcj (fun id' hid=>(hout n id' hn0 hid).symm) hsj).2.2
    refine .inr (.inl ⟨hgj,hkj,hcj,u,H,hst,.inr (.inr ⟨by simpa only [gi] using hgi,t,k,i,hop,hd,hT,fun a ha hf=>?_⟩)⟩)
    obtain⟨ua,Ha,hs,hR⟩:=back a ha hf
    have hst2:=(eE (H2:=H.set (a,k) ⟨i.zero.length,[i.zero.map .v]⟩) (n2:=max n (a+1)) kj hcj (fun id' hid=>hout a id' ha hid) hst).2.2
    rw[hst2] at hs
    cases hs
    simpa only [pc] using hR
   ·obtain⟨id,o1,o1',t1,_,e2,rfl,_,hall⟩:=iE kj hcj hsj
    obtain⟨u2,H2,hs2,_⟩:=back (n+1) (by omega) (fun j=>by
     cases hx:H (n+1,j) with
     | none=>rfl
     | some o=>have:=hb.2 (n+1,j) o hx;simp only at this;omega)
    obtain⟨id2,o2,o2',t2,_,e2',_⟩:=iE kj hcj hs2
    rw[t1] at t2
    cases t2
    have hne:id ≠ (n,k):=by
     rintro rfl
     rw[ak.aQ _ _ (by intro he;have:=congrArg Prod.fst he;simp only at this;omega),hf0 k] at e2'
     cases e2'
    rw[ak.aQ _ _ hne] at e2
    refine .inr (.inl ⟨hgj,hkj,hcj,u,H.set id o1',hall H n e2,.inr (.inr ⟨by simpa only [gi] using hgi,t,k,i,hop,hd,hT,fun a ha hf=>?_⟩)⟩)
    simp only at hf ⊢
    have hf':∀ j,H (a,j)=none:=fun j=>by
     have:=hf j
     by_cases he:(a,j)=id
     ·rw[he,ak.bB] at this;cases this
     ·rwa [ak.aQ _ _ he] at this
    have hne':id ≠ (a,k):=by
     rintro rfl
     rw[hf' k] at e2
     cases e2
    obtain⟨ua,Ha,hs,hR⟩:=back a ha hf'
    rw[hall _ _ (by rw[ak.aQ _ _ hne'];exact e2)] at hs
    cases hs
    rw[set_comm _ _ hne',← pc]
    exact hR
  ·simp only[gj] at hgj
   rw[hd'] at pc gi
   refine .inr (.inr ⟨hgj,t',k',i',hop',hd',hT',fun b hb' hfb=>.inr (.inr ⟨by simpa only [gi] using hgi,t,k,i,hop,hd,hT,fun a ha hfa=>?_⟩)⟩)
   simp only at hfa ⊢
   have hab:a ≠ b:=by
    rintro rfl
    have:=hfa k'
    rw[ak.bB] at this
    cases this
   have hfa':∀ j,H (a,j)=none:=fun j=>by
    have:=hfa j
    rwa [ak.aQ _ _ (by intro he;exact hab (congrArg Prod.fst he))] at this
   rcases h a ha hfa' with ⟨hg,_⟩ | ⟨_,hk3,_⟩ | ⟨_,t2,k2,i2,hop2,hd2,hT2,h2'⟩
   ·simp only[gj,hgj] at hg;cases hg
   ·exact absurd (by rw[hop'];rfl) hk3
   ·rw[hop'] at hop2
    cases hop2
    rw[hd'] at hd2
    cases hd2
    rw[hT'] at hT2
    cases hT2
    have hfin:=h2' b hb' (fun j=>by simp only;rw[ak.aQ _ _ (by intro he;exact hab (congrArg Prod.fst he).symm)];exact hfb j)
    simp only at hfin
    rw[set_comm _ _ (by intro he;exact hab (congrArg Prod.fst he)),pc] at hfin
    have hm:max (max n (b+1)) (a+1)=max (max n (a+1)) (b+1):=by omega
    rw[hm]
    exact hfin
theorem DoN.some_ {o:Oper} {s:AS} {q:Prop} (hb:Bd n0 s) (h:DoN Ty ops n0 o s fun _=>q):q:=by
 rcases h with ⟨_,h⟩ | ⟨_,_,_,_,_,_,h⟩ | ⟨_,_,_,_,_,_,_,h⟩
 ·exact h
 ·exact h
 ·exact h s.2.2 hb.1 (fun j=>yp hb j)
variable (Ty ops n0) in
def nb (R:AS→Prop):Nat→Array Bool→AS→Prop
 | 0,listed,s=>Region.ready .any ops listed=[]∧R s
 | fuel+1,listed,s=>(Region.ready .any ops listed=[]→R s)∧∀ i ∈ Region.ready .any ops listed,∃ o,ops[i]?=some o∧DoN Ty ops n0 o s (nb R fuel (listed.setIfInBounds i true))
variable (Ty ops n0) in
def Fc (R:AS→Prop):List Oper→AS→Prop
 | [],s=>R s
 | o::l,s=>DoN Ty ops n0 o s (Fc R l)
theorem nb.first {R:AS→Prop} {i:Nat} {oi:Oper} (hi:ops[i]?=some oi) (D:List Nat) (hD:∀ j oj,ops[j]?=some oj→j ∈ D→j ≠ i→∃ e ∈ oj.after,Region.binds .any e=true∧e.on ∈ D):∀ (fuel:Nat) (listed:Array Bool) (s:AS),Bd n0 s →
  (∀ j ∈ D,listed.getD j true=false)→(∀ j oj,ops[j]?=some oj→j ≠ i→listed.getD j true=false→j ∉ D→oi.apart ops oj=true∧oH (cm oi.op) (cm oj.op)=true) →
  i ∈ Region.ready .any ops listed→DoN Ty ops n0 oi s (nb Ty ops n0 R fuel (listed.setIfInBounds i true))→nb Ty ops n0 R (fuel+1) listed s:=by
 intro fuel
 induction fuel with
 | zero=>
  intro listed s hb _ _ hr H
  refine⟨fun h=>(by rw[h] at hr;cases hr),fun j hj=>?_⟩
  by_cases hji:j=i
  ·subst hji;exact⟨oi,hi,H⟩
  ·have:=ready_mono hj hji
   have h0:Region.ready .any ops (listed.setIfInBounds i true)=[]:=DoN.some_ hb (H.mono fun s' h=>h.1)
   rw[h0] at this
   cases this
 | succ fuel ih=>
  intro listed s hb hinv hfree hr H
  refine⟨fun h=>(by rw[h] at hr;cases hr),fun j hj=>?_⟩
  by_cases hji:j=i
  ·subst hji;exact⟨oi,hi,H⟩
  ·obtain⟨hjun,oj,hoj,hall⟩:=mem_ready.1 hj
   have hnot:j ∉ D:=fun hd=>by
    obtain⟨e,he,hb',hed⟩:=hD j oj hoj hd hji
    have h1:=hall e he hb'
    have h0:=hinv e.on hed
    rcases Nat.lt_or_ge e.on listed.size with h' | h'
    ·simp[h'] at h0 h1;rw[h0] at h1;cases h1
    ·simp[Array.getElem?_eq_none h'] at h1
   obtain⟨hap,hco⟩:=hfree j oj hoj hji hjun hnot
   have H2:DoN Ty ops n0 oi s fun s'=>DoN Ty ops n0 oj s' (nb Ty ops n0 R fuel ((listed.setIfInBounds i true).setIfInBounds j true)):=H.mono fun s' h=>by
    obtain⟨oj',hoj',h'⟩:=h.2 j (ready_mono hj hji)
    rw[hoj] at hoj'
    cases hoj'
    exact h'
   refine⟨oj,hoj,(DoN.bd hb (DoN.swap hap hco hb H2)).mono fun sj ⟨hbj,hsj⟩=>ih (listed.setIfInBounds j true) sj hbj (fun k hk=>?_) (fun k ok hk hki hun hno=>?_) (ready_mono hr (Ne.symm hji)) ?_⟩
   ·have hjk:j ≠ k:=fun he=>hnot (he ▸ hk)
    rw[getD_set_ne true hjk]
    exact hinv k hk
   ·refine hfree k ok hk hki ?_ hno
    by_cases hjk:j=k
    ·subst hjk;exact hjun
    ·rw[getD_set_ne true hjk] at hun;exact hun
   ·rw[Array.setIfInBounds_comm _ _ hji]
    exact hsj
variable (ops) in
def en (listed:Array Bool) (i:Nat):Bool:=
 match ops[i]? with
 | none=>false
 | some oi=>((behind ops i).all fun j => !(listed.getD j true) && match ops[j]? with
   | none=>true
   | some oj=>j == i || oj.after.any (fun e=>Region.binds .any e && (behind ops i).contains e.on)) &&
  (List.range ops.size).all fun j=>match ops[j]? with
  | none=>true
  | some oj=>j == i || listed.getD j true || (behind ops i).contains j || (oi.apart ops oj && oH (cm oi.op) (cm oj.op))
variable (ops) in
def DI:Nat→Nat→Array Bool→Bool
 | 0,_,listed=>(Region.ready .any ops listed).isEmpty
 | fuel+1,k,listed=>(Region.ready .any ops listed).contains k && en ops listed k && DI fuel (k+1) (listed.setIfInBounds k true)
variable (ops) in
def xS:Bool:=DI ops ops.size 0 (Array.replicate ops.size false)
theorem zZ {listed:Array Bool} {i:Nat} {oi:Oper} (hi:ops[i]?=some oi) (h:en ops listed i=true) :
  (∀ j oj,ops[j]?=some oj→j ∈ behind ops i→j ≠ i→∃ e ∈ oj.after,Region.binds .any e=true∧e.on ∈ behind ops i)∧(∀ j ∈ behind ops i,listed.getD j true=false) ∧
  ∀ j oj,ops[j]?=some oj→j ≠ i→listed.getD j true=false→j ∉ behind ops i→oi.apart ops oj=true∧oH (cm oi.op) (cm oj.op)=true:=by
 unfold en at h
 simp only[hi,Bool.and_eq_true] at h
 obtain⟨h1,h2⟩:=h
 refine⟨fun j oj hj hd hji=>?_,fun j hd=>?_,fun j oj hj hji hun hno=>?_⟩
 ·have:=List.all_eq_true.1 h1 j hd
  simp only[hj,Bool.and_eq_true,Bool.or_eq_true,beq_iff_eq] at this
  rcases this.2 with h3 | h3
  ·exact absurd h3 hji
  ·obtain⟨e,he,hb⟩:=Array.any_eq_true'.1 h3
   simp only[Bool.and_eq_true,List.contains_iff_mem] at hb
   exact⟨e,he,hb.1,hb.2⟩
 ·have:=List.all_eq_true.1 h1 j hd
  simp only[Bool.and_eq_true,Bool.not_eq_true'] at this
  exact this.1
 ·have hlt:j<ops.size:=(Array.getElem?_eq_some_iff.1 hj).1
  have:=List.all_eq_true.1 h2 j (List.mem_range.2 hlt)
  simp only[hj,hun,Bool.or_false,Bool.or_eq_true,beq_iff_eq,Bool.and_eq_true,List.contains_iff_mem] at this
  rcases this with (h1 | h1) | h1
  ·exact absurd h1 hji
  ·exact absurd h1 hno
  ·exact h1
theorem nb.lex {R:AS→Prop}:∀ (l:List Oper) (k:Nat) (listed:Array Bool) (s:AS),Bd n0 s→(∀ j:Nat,l[j]?=ops[k+j]?)→DI ops l.length k listed=true→Fc Ty ops n0 R l s→nb Ty ops n0 R l.length listed s
 | [],_,_,_,_,_,hB,h=>⟨by simpa[DI] using hB,h⟩
 | o::l,k,listed,s,hb,hl,hB,h=>by
  have h0:ops[k]?=some o:=by simpa using (hl 0).symm
  simp only[List.length_cons,DI,Bool.and_eq_true] at hB
  obtain⟨⟨hr,hf⟩,hB'⟩:=hB
  obtain⟨f1,f2,f3⟩:=zZ h0 hf
  exact nb.first h0 (behind ops k) f1 l.length listed s hb f2 f3 (by simpa using hr)
   ((DoN.bd hb h).mono fun s' ⟨hb',h'⟩=>nb.lex l (k+1) _ s' hb' (fun j=>by have:=hl (j+1);simpa[Nat.add_assoc,Nat.add_comm 1 j] using this) hB' h')
end
section
variable {P:Program} {N:Nat} {Ty:Types} {ops:Array Oper} {n0:Nat}
theorem nb.sound (hT:aU P Ty) {R:AS→Prop} (hN:ops.toList.all (fun o=>dok N o.dst)=true) {Q:Exit→Act→World→Prop} {c0:Ctx} (hQ:∀ a c ρ,bm c0 c→Good c→cX N c ρ a→R (ρ,c.H,c.n)→Q .normal a c.w) :
  ∀ (fuel:Nat) (listed:Array Bool) (ρ:Env) (c:Ctx) (a:Act),n0≤c.n→bm c0 c→Good c→cX N c ρ a→nb Ty ops n0 R fuel listed (ρ,c.H,c.n)→wpAny P .any ops Q fuel listed a c.w
 | 0,_,_,_,_,_,hk,g,r,h=>⟨h.1,hQ _ _ _ hk g r h.2⟩
 | fuel+1,listed,ρ,c,a,hn0,hk,g,r,h=>by
  refine⟨fun h0=>hQ _ _ _ hk g r (h.1 h0),fun i hi=>?_⟩
  obtain⟨o,ho,hst⟩:=h.2 i hi
  have hd:dok N o.dst=true:=List.all_eq_true.1 hN o (by rw[← Array.getElem?_toList] at ho;exact List.mem_of_getElem? ho)
  unfold wpOp
  simp only[ho]
  rcases hst with ⟨hg,hrest⟩ | ⟨hg,hk3,hc,v,H',hs,hrest⟩ | ⟨hg,t,k,i',hop,hdst,hTy,hrest⟩
  ·rw[if_neg (by rw[cz r hN hg];simp)]
   exact nb.sound hT hN hQ fuel _ _ c _ hn0 hk g (r.put hd (.v _)) hrest
  ·rw[if_pos (cz r hN hg)]
   simp only at hs hrest
   refine .inl (aJ hT hs c a rfl rfl g r _ _ ?_)
   rintro v1 x c' ⟨rfl,hH,hn⟩ hrep hgood hkeep
   exact nb.sound hT hN hQ fuel _ _ c' _ (by rw[hn];exact hn0) (hk.trans hkeep) hgood ((r.keeps hkeep).put hd hrep) (by rw[hH,hn];exact hrest)
  ·rw[if_pos (cz r hN hg)]
   have hs:a6 Ty o.dst o.op ρ c.H c.n=some (.ptr (c.n,k) 1 0 0,c.H.set (c.n,k) ⟨i'.zero.length,[i'.zero.map .v]⟩,c.n+1):=by rw[hop,hdst];simp only[a6,hTy]
   refine .inl (aJ hT hs c a rfl rfl g r _ _ ?_)
   rintro v1 x c' ⟨rfl,hH,hn⟩ hrep hgood hkeep
   have hr:=hrest c.n hn0 (fun j=>by
    show c.H (c.n,j)=none
    cases hx:c.H (c.n,j) with
    | none=>rfl
    | some ob=>have:=g.stamp _ _ hx;simp only at this;omega)
   have hm:max c.n (c.n+1)=c.n+1:=by omega
   simp only[hm] at hr
   rw[← hdst] at hr
   exact nb.sound hT hN hQ fuel _ _ c' _ (by rw[hn];omega) (hk.trans hkeep) hgood ((r.keeps hkeep).put hd hrep) (by rw[hH,hn];exact hr)
end
section
variable {P:Program} {f:FuncId} {N:Nat} {k:List Item} {ρ:Env} {H:ak} {n:Nat} {Q:ag→ak→Nat→Prop} {Ty:Types}
theorem aa.xS (hT:aU P Ty) {id:Nat} {ops:List Oper} (hm:P.follows .mixedOrders=true) (hN:ops.all (fun o=>dok N o.dst)=true) (hB:xS ops.toArray=true)
  (h:Fc Ty ops.toArray n (fun s=>aa P f N k s.1 s.2.1 s.2.2 Q) ops (ρ,H,n)):aa P f N (.code (.region id ops.toArray true)::k) ρ H n Q:=by
 intro c a hH hn g r b cs hf hk
 subst hH
 subst hn
 obtain⟨d1,d2⟩:=kA g
 have hany:=nb.lex (Ty:=Ty) (ops:=ops.toArray) (n0:=c.n) ops 0 (Array.replicate ops.toArray.size false) (ρ,c.H,c.n) ⟨Nat.le_refl _,fun id o ho=>g.stamp id o ho⟩ (by simp) (by simpa[Ab.xS] using hB) h
 have hw:(Code.region id ops.toArray true).wp P (fun e a' w'=>e = .normal∧∃ c' ρ',c'.w=w'∧bm c c'∧Good c'∧cX N c' ρ' a'∧aa P f N k ρ' c'.H c'.n Q) a c.w:=by
  refine wp_region_any hm ?_
  have:=nb.sound (P:=P) (N:=N) (Ty:=Ty) (ops:=ops.toArray) (n0:=c.n) (c0:=c) hT (by simpa using hN) (Q:=fun e a' w'=>e = .normal∧∃ c' ρ',c'.w=w'∧bm c c'∧Good c'∧cX N c' ρ' a'∧aa P f N k ρ' c'.H c'.n Q)
   (R:=fun s=>aa P f N k s.1 s.2.1 s.2.2 Q) (fun a' c' ρ' hk' hg' hr' hR=>⟨rfl,c',ρ',rfl,hk',hg',hr',hR⟩) ops.length (Array.replicate ops.toArray.size false) ρ { c with w:={ c.w with drawn:=c.w.drawn+1 } } a (Nat.le_refl _) d1 d2 (r.keeps d1) hany
  simpa using this
 obtain⟨e,a',w',⟨rfl,c',ρ',rfl,hk',hg',hr',hR⟩,harr⟩:=hw b k cs
 obtain⟨x,v,c'',fr,q,hr,hg,hke,hst,rest⟩:=hR c' a' rfl rfl hg' hr' b cs hf hk
 exact⟨x,v,c'',fr,q,hr,hg,hk'.trans hke,Steps.trans harr hst,rest⟩
end
def C3 (Ty:Types) (d:Option Nat):Op→Option (Nat × Ob)
 | .alloc t=>match d,Ty t with
  | some k,some i=>some (k,⟨i.zero.length,[i.zero.map .v]⟩)
  | _,_=>none
 | _=>none
section
variable (P:Program) (f:FuncId) (N:Nat) (k:List Item) (Q:ag→ak→Nat→Prop) (Ty:Types) (ops:Array Oper) (n0:Nat)
def jS:List Oper→Env→ak→Nat→Prop
 | [],ρ,H,n=>aa P f N k ρ H n Q
 | o::l,ρ,H,n=>
  match gok ops o ρ with
  | some false=>jS l (ρ.put o.dst skv) H n
  | some true=>match C3 Ty o.dst o.op with
   | some (j,ob)=>∀ a,n0≤a→(∀ q,H (a,q)=none)→jS l (ρ.put (some j) (.ptr (a,j) 1 0 0)) (H.set (a,j) ob) (max n (a+1))
   | none=>match a6 Ty o.dst o.op ρ H n with
    | some (v,H',_)=>dU n0 o.op ρ∧jS l (ρ.put o.dst v) H' n
    | none=>False
  | none=>False
end
section
variable {P:Program} {f:FuncId} {N:Nat} {k:List Item} {ρ:Env} {H:ak} {n:Nat} {Q:ag→ak→Nat→Prop} {Ty:Types} {ops:Array Oper} {n0:Nat}
theorem BL {d:Option Nat} {op:Op} {v:ag} {H':ak} {n':Nat} (h:C3 Ty d op=none) (hs:a6 Ty d op ρ H n=some (v,H',n')):cm op ≠ 3:=by
 cases op with
 | alloc t=>
  simp only[a6] at hs
  split at hs
  ·rename_i k' i hi
   simp only[C3,hi] at h
   cases h
  ·cases hs
 | call c=>
  obtain⟨cal,args,ats⟩:=c
  cases cal with
  | builtin b=>cases b<;>simp[cm]
  | _=>simp[cm]
 | buildSlice t len ps=>
  unfold cm
  simp only
  by_cases h0:len=0<;>simp[h0]
 | _=>simp[cm]
theorem jj:∀ (l:List Oper) (ρ:Env) (H:ak) (n:Nat),jS P f N k Q Ty ops n0 l ρ H n→Fc Ty ops n0 (fun s=>aa P f N k s.1 s.2.1 s.2.2 Q) l (ρ,H,n)
 | [],_,_,_,h=>h
 | o::l,ρ,H,n,h=>by
  rw[jS] at h
  split at h
  ·rename_i hg
   exact .inl ⟨hg,jj l _ _ _ h⟩
  ·rename_i hg
   split at h
   ·rename_i j ob hnew
    unfold C3 at hnew
    split at hnew
    ·rename_i t hop
     split at hnew
     ·rename_i k' i hdst hTy
      cases hnew
      exact .inr (.inr ⟨hg,t,_,_,hop,hdst,hTy,fun a ha hf=>jj l _ _ _ (h a ha hf)⟩)
     ·cases hnew
    ·cases hnew
   ·rename_i hnew
    split at h
    ·rename_i v H' n' hs
     have hk3:=BL hnew hs
     obtain⟨hc,h⟩:=h
     have hn:n'=n:=by
      rcases fF hk3 hc with hk | hk | hk
      ·exact (iP hk hs).2.1
      ·exact (eE (H2:=H) (n2:=n) hk hc (fun _ _=>rfl) hs).2.1
      ·obtain⟨_,_,_,_,_,_,_,e,_⟩:=iE hk hc hs;exact e
     subst hn
     exact .inr (.inl ⟨hg,hk3,hc,v,H',hs,jj l _ _ _ h⟩)
    ·exact h.elim
  ·exact h.elim
@[simp] theorem GD : jS P f N k Q Ty ops n0 [] ρ H n = aa P f N k ρ H n Q := by rw [jS]
@[simp] theorem FN {o : Oper} {l : List Oper} : jS P f N k Q Ty ops n0 (o :: l) ρ H n = (match gok ops o ρ with
  | some false=>jS P f N k Q Ty ops n0 l (ρ.put o.dst skv) H n
  | some true=>match C3 Ty o.dst o.op with
   | some (j,ob)=>∀ a,n0≤a→(∀ q,H (a,q)=none)→jS P f N k Q Ty ops n0 l (ρ.put (some j) (.ptr (a,j) 1 0 0)) (H.set (a,j) ob) (max n (a+1))
   | none=>match a6 Ty o.dst o.op ρ H n with
    | some (v,H',_)=>dU n0 o.op ρ∧jS P f N k Q Ty ops n0 l (ρ.put o.dst v) H' n
    | none=>False
  | none=>False):=by rw[jS]
theorem aa.Ij (hT:aU P Ty) {id:Nat} {ops:List Oper} {y:Code} (hm:P.follows .mixedOrders=true) (hN:ops.all (fun o=>dok N o.dst)=true) (hB:Ab.xS ops.toArray=true)
  (h:∀ k':List Item,(∀ ρ H n,aa P f N (.code y::k) ρ H n Q→aa P f N k' ρ H n Q)→jS P f N k' Q Ty ops.toArray n ops ρ H n):aa P f N (.code (.seq (.region id ops.toArray true) y)::k) ρ H n Q:=
 aa.seq (aa.xS hT hm hN hB (jj ops _ _ _ (h (.code y::k) fun _ _ _ h=>h)))
end
attribute [simp] gok dU CP C3 cm
end Go.Ab
/- Walks by program for YtbikfokhjdjfpaaGreatDoorAbMb. -/
namespace Go.Ab.Vg
open Go.Proofs
set_option maxRecDepth 100000
set_option linter.unusedSimpArgs false
set_option linter.unusedVariables false
attribute [local simp] Control.cells aj.cells aA.cells al bO gp aL bC mC pA
theorem qB (l:List Int) (x:Int) (h:l.length≤1048576):aq Tryz.prog 47 [.list false (l.map al),int x] (fun r=>r=bool (k7 l x)):=xl l x h
theorem jW (l:List Int) (x:Int) (h:l.length≤1048576):aq Tryz.prog 118 [.list false (l.map al),int x] (fun r=>r=bool (k7 l x)):=Ec l x h
theorem GH:Ent Tryz.prog 166:=Ent.of Tryz.func166 (by kernel_rfl) rfl
theorem vO (b:Big) (place:Int) (nodes:List Int) (Z:Bool→Prop) (h:kO b place nodes Z):aq Tryz.prog 166 [.agg (bC false b),int place,.list false (nodes.map al)] (fun r=>∃ y:Bool,Z y∧r=bool y):=by
 unfold kO at h
 refine aq.of Tryz.func166 rfl Tryz.ntmps166 (by simp) fun Q hQ=>?_
 refine aa.cut (fun ρ H n=>(ρ 0 = .agg (bC false b)∧ρ 1=int place∧ρ 2 = .list false (nodes.map al))) (by simp) ?_
 rintro ρ H n1 hh
 refine zE fun k' hk'=>?_
 simp[hh]
 apply hk'
 refine aa.cut (fun ρ H n=>(ρ 1=int place∧ρ 2 = .list false (nodes.map al)∧ρ 3=pA n1 3)∧H (n1,3)=some ⟨6,[bC false b]⟩) (by refine⟨?_,?_⟩<;>simp[hh]) ?_
 clear hh
 rintro ρ H n3 ⟨hh,a⟩
 refine aa.seq ?_
 refine aa.block ?_
 refine aa.aw h (fun (sJ:Int) ρ H n=>match sJ with | placeV6=>(ρ 1=int placeV6∧ρ 2 = .list false (nodes.map al)∧ρ 3=pA n1 3)∧H (n1,3)=some ⟨6,[bC false b]⟩) (by refine⟨?_,?_⟩<;>simp[hh,a]) ?_
 clear hh a
 rintro placeV6 ρ H n7 K h ⟨hh,a⟩ IH8
 refine aa.seq ?_
 refine zE fun k' hk'=>?_
 obtain⟨e,g,h⟩:=atm h
 have f11:=jz (k:=.i64) g
 simp[hh,a,f11,-ai]
 apply hk'
 refine aa.ite (b:=e) (by simp[hh,a]) (fun c=>?_) (fun c=>?_)
 ·replace h:=h.1 c
  refine aa.skip ?_
  refine aa.seq ?_
  refine aa.block ?_
  refine zE fun k' hk'=>?_
  obtain⟨i,h⟩:=h
  obtain⟨j,l,h⟩:=atm h
  simp[hh,a,c]
  refine aG.aB ae (qB nodes placeV6 i) e47 (.cons (cY false nodes) (.cons (.v _ _ _) .nil)) (by decide) (by decide) rfl (by simp[hh,a,c]) ?_
  rintro _ rfl
  rw[← l]
  simp[hh,a,c]
  apply hk'
  refine aa.ite (b:=j) (by simp[hh,a,c]) (fun d=>?_) (fun d=>?_)
  ·replace h:=h.1 d
   refine zE fun k' hk'=>?_
   simp[hh,a,c,d]
   apply hk'
   exact aa.aV (v:=bool true) Tryz.func166 Tryz.results166 (by simp[hh,a,c,d]) (hQ _ _ _ _ (.of (.v _)) ⟨true,h,rfl⟩)
  replace h:=h.2 d
  refine aa.skip ?_
  refine aa.inBlock ?_
  refine zF fun k' hk'=>?_
  obtain⟨o,h⟩:=h
  obtain⟨p,q,h⟩:=atm h
  have f16:=fun H=>aE (H:=H) (fr:=false) (f:=(aj.cells false)) (k:=.i64) bj (fun _=>rfl) o q
  simp[hh,a,f16,c,d,-ah]
  apply hk'
  refine IH8 (p.parent) _ _ _ h (by refine⟨?_,?_⟩<;>simp[hh,a,c,d])
 replace h:=h.2 c
 refine aa.exit rfl ?_
 refine zE fun k' hk'=>?_
 simp[hh,a,c]
 apply hk'
 exact aa.aV (v:=bool false) Tryz.func166 Tryz.results166 (by simp[hh,a,c]) (hQ _ _ _ _ (.of (.v _)) ⟨false,h,rfl⟩)
theorem sm (b:Big) (place:Int) (nodes:List Int) (hp:iZ b place nodes):aq Tryz.prog 166 [.agg (bC false b),int place,.list false (nodes.map al)] (fun r=>r=bool (m6 b place nodes)):=(vO b place nodes _ (zU b place nodes hp)).mono (by rintro _ ⟨_,rfl,rfl⟩;rfl)
theorem GK:Ent Tryz.prog 135:=Ent.of Tryz.func135 (by kernel_rfl) rfl
theorem sZ (agent:Big) (m:Match) (place:Int) (Z:Bool→Prop) (h:jb agent m place Z):aq Tryz.prog 135 [.agg (bC false agent),.agg (mC false m),int place] (fun r=>∃ y:Bool,Z y∧r=bool y):=by
 unfold jb at h
 refine aq.of Tryz.func135 rfl Tryz.ntmps135 (by simp) fun Q hQ=>?_
 refine aa.cut (fun ρ H n=>(ρ 0 = .agg (bC false agent)∧ρ 1 = .agg (mC false m)∧ρ 2=int place)) (by simp) ?_
 rintro ρ H n1 hh
 refine zE fun k' hk'=>?_
 simp[hh]
 apply hk'
 refine aa.cut (fun ρ H n=>(ρ 2=int place∧ρ 3=pA n1 3∧ρ 4=pA (n1+1) 4)∧H (n1,3)=some ⟨6,[bC false agent]⟩∧H (n1+1,4)=some ⟨2,[mC false m]⟩) (by refine⟨?_,?_,?_⟩<;>simp[hh]) ?_
 clear hh
 rintro ρ H n4 ⟨hh,a,c⟩
 refine aa.seq ?_
 refine aa.block ?_
 refine aa.aw h (fun (sJ:Int) ρ H n=>match sJ with | placeV7=>(ρ 2=int placeV7∧ρ 3=pA n1 3∧ρ 4=pA (n1+1) 4)∧H (n1,3)=some ⟨6,[bC false agent]⟩∧H (n1+1,4)=some ⟨2,[mC false m]⟩) (by refine⟨?_,?_,?_⟩<;>simp[hh,a,c]) ?_
 clear hh a c
 rintro placeV7 ρ H n8 K h ⟨hh,a,c⟩ IH9
 refine aa.seq ?_
 refine zE fun k' hk'=>?_
 obtain⟨g,i,h⟩:=atm h
 have f12:=jz (k:=.i64) i
 simp[hh,a,c,f12,-ai]
 apply hk'
 refine aa.ite (b:=g) (by simp[hh,a,c]) (fun d=>?_) (fun d=>?_)
 ·replace h:=h.1 d
  refine aa.skip ?_
  refine aa.block ?_
  refine aa.seq ?_
  refine zE fun k' hk'=>?_
  obtain⟨j,h⟩:=h
  obtain⟨l,o,h⟩:=atm h
  simp[hh,a,c,d]
  refine aG.aB ae (jW m.nodes placeV7 j) Dz (.cons (cY false m.nodes) (.cons (.v _ _ _) .nil)) (by decide) (by decide) rfl (by simp[hh,a,c,d]) ?_
  rintro _ rfl
  rw[← o]
  simp[hh,a,c,d]
  apply hk'
  refine aa.ite (b:=l) (by simp[hh,a,c,d]) (fun e=>?_) (fun e=>?_)
  ·replace h:=h.1 e
   refine zE fun k' hk'=>?_
   simp[hh,a,c,d,e]
   apply hk'
   exact aa.aV (v:=bool true) Tryz.func135 Tryz.results135 (by simp[hh,a,c,d,e]) (hQ _ _ _ _ (.of (.v _)) ⟨true,h,rfl⟩)
  replace h:=h.2 e
  refine aa.skip ?_
  refine zF fun k' hk'=>?_
  obtain⟨p,h⟩:=h
  obtain⟨q,t,h⟩:=atm h
  have f17:=fun H=>aE (H:=H) (fr:=false) (f:=(aj.cells false)) (k:=.i64) bj (fun _=>rfl) p t
  simp[hh,a,c,f17,d,e,-ah]
  apply hk'
  refine aa.inBlock ?_
  refine IH9 (q.parent) _ _ _ h (by refine⟨?_,?_,?_⟩<;>simp[hh,a,c,d,e])
 replace h:=h.2 d
 refine aa.exit rfl ?_
 refine zE fun k' hk'=>?_
 simp[hh,a,c,d]
 apply hk'
 exact aa.aV (v:=bool false) Tryz.func135 Tryz.results135 (by simp[hh,a,c,d]) (hQ _ _ _ _ (.of (.v _)) ⟨false,h,rfl⟩)
theorem qj (agent:Big) (m:Match) (place:Int) (hp:gO agent m place):aq Tryz.prog 135 [.agg (bC false agent),.agg (mC false m),int place] (fun r=>r=bool (gh agent m place)):=(sZ agent m place _ (wK agent m place hp)).mono (by rintro _ ⟨_,rfl,rfl⟩;rfl)
theorem Jn:Ent Tryz.prog 209:=Ent.of Tryz.func209 (by kernel_rfl) rfl
theorem qy {H0:ak} {n0:Nat} {X1:Id} (c:Int) (v_:Match) (hX1:H0 X1=some ⟨2,[mC false v_]⟩) (Z:Bool→Prop) (h:fS c v_ Z):fA Tryz.prog H0 n0 (.fn (.func 209) [] [.ptr X1 1 0 0]) [int c] (fun r=>∃ y:Bool,Z y∧r=bool y):=by
 unfold fS at h
 refine⟨209,[],[.ptr X1 1 0 0],rfl,Jn,?_⟩
 refine cI.of Tryz.func209 rfl Tryz.ntmps209 (by simp) fun Q hB hQ=>?_
 have lX1:X1.1<n0:=(hB X1 _ hX1).1
 have neX1:∀ m d,n0≤m→(X1=(m,d))=False:=fun m d hm=>by simp only[eq_iff_iff,iff_false];rintro rfl;simp at lX1;omega
 have hfr:Frame n0 H0 H0:=Frame.refl _ _
 have hn0:n0≤n0:=Nat.le_refl _
 refine aa.cut (fun ρ H n=>(ρ 0=int c∧ρ 1 = .ptr X1 1 0 0)∧H X1=some ⟨2,[mC false v_]⟩∧n0≤n∧Frame n0 H0 H) (by refine⟨?_,?_,?_,?_⟩<;>first | ((repeat (first | exact hfr | refine Frame.set (by first | omega | (simp;omega)) ?_));done) | omega | simp[hX1]) ?_
 rintro ρ H n1 ⟨hh,mX1,hn0,hfr⟩
 have hn1:=Nat.le_succ_of_le hn0
 have hn2:=Nat.le_succ_of_le hn1
 refine zE fun k' hk'=>?_
 simp[hh,mX1,hn0,hn1,hn2,neX1]
 apply hk'
 refine zE fun k' hk'=>?_
 obtain⟨hb2,h⟩:=h
 obtain⟨r3,er3,h⟩:=atm h
 simp[hh,mX1,hn0,hn1,hn2,neX1]
 refine aG.aB ae (qB v_.nodes c hb2) e47 (.cons (cY false v_.nodes) (.cons (.v _ _ _) .nil)) (by decide) (by decide) rfl (by simp[hh,mX1,hn0,hn1,hn2,neX1]) ?_
 rintro _ rfl
 rw[← er3]
 simp[hh,mX1,hn0,hn1,hn2,neX1]
 apply hk'
 exact aa.aV (v:=bool (!r3)) Tryz.func209 Tryz.results209 (by simp[hh,mX1,hn0,hn1,hn2,neX1]) (hQ _ _ _ _ (.bnd (.v _)) (hfr) ⟨(!r3),h,rfl⟩)
theorem np {H0:ak} {n0:Nat} {X1:Id} (c:Int) (v_:Match) (hX1:H0 X1=some ⟨2,[mC false v_]⟩) (hp:dk c v_):fA Tryz.prog H0 n0 (.fn (.func 209) [] [.ptr X1 1 0 0]) [int c] (fun r=>r=bool (db c v_)):=(qy c v_ hX1 _ (sS c v_ hp)).mono (by rintro _ ⟨_,rfl,rfl⟩;rfl)
theorem IL:Ent Tryz.prog 167:=Ent.of Tryz.func167 (by kernel_rfl) rfl
theorem rh (redex:Big) (agent:Big) (m:Match) (Z:Bool→Prop) (h:gI redex agent m Z):aq Tryz.prog 167 [.agg (bC false redex),.agg (bC false agent),.agg (mC false m)] (fun r=>∃ y:Bool,Z y∧r=bool y):=by
 unfold gI at h
 refine aq.of Tryz.func167 rfl Tryz.ntmps167 (by simp) fun Q hQ=>?_
 refine aa.cut (fun ρ H n=>(ρ 0 = .agg (bC false redex)∧ρ 1 = .agg (bC false agent)∧ρ 2 = .agg (mC false m))) (by first | (simp ;done) | omega | (simp;omega)) ?_
 rintro ρ H n1 hh
 refine zE fun k' hk'=>?_
 simp[hh]
 apply hk'
 refine aa.cut (fun ρ H n=>(ρ 3=pA n1 3∧ρ 4=pA (n1+1) 4∧ρ 5=pA (n1+2) 5)∧H (n1,3)=some ⟨6,[bC false redex]⟩∧H (n1+1,4)=some ⟨6,[bC false agent]⟩∧H (n1+2,5)=some ⟨2,[mC false m]⟩∧n1<n∧n1+1<n∧n1+2<n) (by refine⟨?_,?_,?_,?_,?_,?_,?_⟩<;>first | (simp[hh];done) | omega | (simp;omega)) ?_
 clear hh
 rintro ρ H n5 ⟨hh,c,d,a,g3_1,g4_2,g5_3⟩
 refine aa.seq ?_
 refine zE fun k' hk'=>?_
 obtain⟨cK,elen6,h⟩:=atm h
 have f7:=fun H=>ax (H:=H) (fr:=false) (f:=(aj.cells false)) bj elen6
 simp[hh,c,d,a,g3_1,g4_2,g5_3,f7,-aH]
 apply hk'
 refine aa.block ?_
 refine aa.aw h (fun (sJ:Int) ρ H n=>match sJ with | v10=>(ρ 3=pA n1 3∧ρ 4=pA (n1+1) 4∧ρ 5=pA (n1+2) 5∧ρ 16 = .list false (redex.nodes.map (aj.cells false))∧ρ 17=int cK∧ρ 18=int v10)∧H (n1,3)=some ⟨6,[bC false redex]⟩∧H (n1+1,4)=some ⟨6,[bC false agent]⟩∧H (n1+2,5)=some ⟨2,[mC false m]⟩∧n1<n∧n1+1<n∧n1+2<n) (by refine⟨?_,?_,?_,?_,?_,?_,?_⟩<;>first | (simp[hh,c,d,a,g3_1,g4_2,g5_3];done) | omega | (simp;omega)) ?_
 clear hh c d a g3_1 g4_2 g5_3
 rintro v10 ρ H C K h ⟨hh,c,d,a,g3_1,g4_2,g5_3⟩ E
 refine zE fun k' hk'=>?_
 obtain⟨U,V,h⟩:=atm h
 have f15:=aT (k:=.i64) V
 simp[hh,c,d,a,g3_1,g4_2,g5_3,f15,-ai]
 apply hk'
 refine aa.seq ?_
 refine aa.ite (b:=U) (by simp[hh,c,d,a,g3_1,g4_2,g5_3]) (fun q=>?_) (fun q=>?_)
 ·replace h:=h.1 q
  refine aa.skip ?_
  refine aa.seq ?_
  refine aa.block ?_
  refine zE fun k' hk'=>?_
  obtain⟨W,h⟩:=h
  obtain⟨D,X,h⟩:=atm h
  have f18:=fun H=>aE (H:=H) (fr:=false) (f:=(aj.cells false)) (k:=.i64) bj (fun _=>rfl) W X
  simp[hh,c,d,a,g3_1,g4_2,g5_3,f18,q,-ah]
  apply hk'
  refine aa.cut (fun ρ H n=>(ρ 3=pA n1 3∧ρ 4=pA (n1+1) 4∧ρ 5=pA (n1+2) 5∧ρ 7=int v10∧ρ 8=pA C 8∧ρ 16 = .list false (redex.nodes.map (aj.cells false))∧ρ 17=int cK∧ρ 18=int v10)∧H (n1,3)=some ⟨6,[bC false redex]⟩∧H (n1+1,4)=some ⟨6,[bC false agent]⟩∧H (n1+2,5)=some ⟨2,[mC false m]⟩∧H (C,8)=some ⟨3,[[int D.control,int D.parent,.list false (D.links.map al)]]⟩∧n1<n∧n1+1<n∧n1+2<n∧C<n) (by refine⟨?_,?_,?_,?_,?_,?_,?_,?_,?_⟩<;>first | (simp[hh,c,d,a,g3_1,g4_2,g5_3,f18,q,-ah];done) | omega | (simp;omega)) ?_
  clear hh c d a g3_1 g4_2 g5_3
  rintro ρ H n20 ⟨hh,c,d,a,e,g3_1,g4_2,g5_3,g8_18⟩
  refine aa.Ij ae bU (by decide) (by kernel_rfl) fun k' hk'=>?_
  obtain⟨Y,h⟩:=h
  obtain⟨em,ab,h⟩:=atm h
  have f23:=fun H=>aE (H:=H) (fr:=false) (f:=al) (k:=.i64) aO (fun _=>rfl) Y ab
  obtain⟨ac,h⟩:=h
  obtain⟨F,ad,h⟩:=atm h
  have f26:=fun H=>aE (H:=H) (fr:=false) (f:=(aj.cells false)) (k:=.i64) bj (fun _=>rfl) ac ad
  simp[hh,c,d,a,e,g3_1,g4_2,g5_3,g8_18,f23,f26,-ah]
  intro G ha27 qa27;clear qa27
  refine⟨ha27,hk' _ _ _ ?_⟩
  refine aa.cut (fun ρ H n=>(ρ 3=pA n1 3∧ρ 4=pA (n1+1) 4∧ρ 5=pA (n1+2) 5∧ρ 7=int v10∧ρ 8=pA C 8∧ρ 9 = .ptr (G,9) 1 0 0∧ρ 16 = .list false (redex.nodes.map (aj.cells false))∧ρ 17=int cK∧ρ 18=int v10)∧H (n1,3)=some ⟨6,[bC false redex]⟩∧H (n1+1,4)=some ⟨6,[bC false agent]⟩∧H (n1+2,5)=some ⟨2,[mC false m]⟩∧H (C,8)=some ⟨3,[[int D.control,int D.parent,.list false (D.links.map al)]]⟩∧H (G,9)=some ⟨3,[[int F.control,int F.parent,.list false (F.links.map al)]]⟩∧n1<n∧n1+1<n∧n1+2<n∧C<n∧G<n) (by refine⟨?_,?_,?_,?_,?_,?_,?_,?_,?_,?_,?_⟩<;>first | (simp[hh,c,d,a,e,g3_1,g4_2,g5_3,g8_18,f23,f26,-ah];done) | omega | (simp;omega)) ?_
  clear hh c d a e g3_1 g4_2 g5_3 g8_18
  rintro ρ H n28 ⟨hh,c,d,a,e,j,g3_1,g4_2,g5_3,g8_18,g9_26⟩
  refine zE fun k' hk'=>?_
  simp[hh,c,d,a,e,j,g3_1,g4_2,g5_3,g8_18,g9_26]
  apply hk'
  refine aa.seq ?_
  refine zE fun k' hk'=>?_
  obtain⟨af,am,h⟩:=atm h
  have f30:=jz (k:=.i64) am
  simp[hh,c,d,a,e,j,g3_1,g4_2,g5_3,g8_18,g9_26,f30,-ai]
  apply hk'
  refine aa.ite (b:=af) (by simp[hh,c,d,a,e,j,g3_1,g4_2,g5_3,g8_18,g9_26]) (fun l=>?_) (fun l=>?_)
  ·replace h:=h.1 l
   refine zF fun k' hk'=>?_
   obtain⟨an,h⟩:=h
   obtain⟨es,ao,h⟩:=atm h
   have f33:=fun H=>aE (H:=H) (fr:=false) (f:=al) (k:=.i64) aO (fun _=>rfl) an ao
   simp[hh,c,d,a,e,j,g3_1,g4_2,g5_3,g8_18,g9_26,f33,l,-ah]
   apply hk'
   refine aa.seq ?_
   refine zE fun k' hk'=>?_
   obtain⟨ap,aM,a0⟩:=h
   have L:∀ (sJ:Bool) (ρ:Env) (H:ak) (n:Nat),ap sJ→(match sJ with | I=>(ρ 3=pA n1 3∧ρ 4=pA (n1+1) 4∧ρ 5=pA (n1+2) 5∧ρ 7=int v10∧ρ 16 = .list false (redex.nodes.map (aj.cells false))∧ρ 17=int cK∧ρ 18=int v10∧ρ 58=bool I)∧H (n1,3)=some ⟨6,[bC false redex]⟩∧H (n1+1,4)=some ⟨6,[bC false agent]⟩∧H (n1+2,5)=some ⟨2,[mC false m]⟩∧n1<n∧n1+1<n∧n1+2<n)→aa Tryz.prog 167 82 k' ρ H n Q:=by
    rintro I ρ H n39 h ⟨hh,c,d,a,g3_1,g4_2,g5_3⟩
    replace h:=a0 _ h
    apply hk'
    refine aa.ite (b:=I) (by simp[hh,c,d,a,g3_1,g4_2,g5_3]) (fun g=>?_) (fun g=>?_)
    ·replace h:=h.1 g
     refine zE fun k' hk'=>?_
     simp[hh,c,d,a,g3_1,g4_2,g5_3,g]
     apply hk'
     exact aa.aV (v:=bool false) Tryz.func167 Tryz.results167 (by simp[hh,c,d,a,g3_1,g4_2,g5_3,g]) (hQ _ _ _ _ (.of (.v _)) ⟨false,h,rfl⟩)
    replace h:=h.2 g
    refine aa.skip ?_
    refine aa.seq ?_
    refine zE fun k' hk'=>?_
    obtain⟨a1,h⟩:=h
    obtain⟨ev,a2,h⟩:=atm h
    simp[hh,c,d,a,g3_1,g4_2,g5_3,g]
    refine aG.aB ae ((ez redex v10 a1).pure) ES (.cons (bg false redex) (.cons (.v _ _ _) .nil)) (by decide) (by decide) rfl (by simp[hh,c,d,a,g3_1,g4_2,g5_3,g]) ?_
    rintro _ rfl
    rw[← a2]
    simp[hh,c,d,a,g3_1,g4_2,g5_3,g]
    apply hk'
    refine zE fun k' hk'=>?_
    obtain⟨ex,a3,h⟩:=atm h
    have f43:=fun H=>ax (H:=H) (fr:=true) (f:=al) aO a3
    obtain⟨a4,a5,h⟩:=atm h
    have f45:=iN (k:=.i64) a5
    simp[hh,c,d,a,g3_1,g4_2,g5_3,f43,f45,g,-ai,-aH]
    apply hk'
    refine aa.ite (b:=a4) (by simp[hh,c,d,a,g3_1,g4_2,g5_3,g]) (fun o=>?_) (fun o=>?_)
    ·replace h:=h.1 o
     refine aa.exit rfl ?_
     refine zF fun k' hk'=>?_
     obtain⟨a9,h⟩:=h
     obtain⟨bd,be,h⟩:=atm h
     have f48:=aI a9 be
     simp[hh,c,d,a,g3_1,g4_2,g5_3,f48,g,o,-ai]
     apply hk'
     refine E (bd) _ _ _ h (by refine⟨?_,?_,?_,?_,?_,?_,?_⟩<;>first | (simp[hh,c,d,a,g3_1,g4_2,g5_3,g,o];done) | omega | (simp;omega))
    replace h:=h.2 o
    refine aa.skip ?_
    refine aa.eo ae aD bU (by decide) (by kernel_rfl) fun k' hk'=>?_
    obtain⟨bi,h⟩:=h
    obtain⟨bk,bs,h⟩:=atm h
    have f51:=fun H=>aE (H:=H) (fr:=false) (f:=al) (k:=.i64) aO (fun _=>rfl) bi bs
    obtain⟨bv,h⟩:=h
    obtain⟨M,b0,h⟩:=atm h
    simp[hh,c,d,a,g3_1,g4_2,g5_3,f51,g,o,-ah]
    refine bn.aB ae aD ((ez agent bk bv).pure) ES (.cons (bg false agent) (.cons (.v _ _ _) .nil)) (by decide) rfl (by simp[hh,c,d,a,g3_1,g4_2,g5_3,f51,g,o,-ah]) ?_
    rw[← b0]
    simp[hh,c,d,a,g3_1,g4_2,g5_3,f51,g,o,-ah]
    apply hk'
    refine aa.cut (fun ρ H n=>(ρ 3=pA n1 3∧ρ 4=pA (n1+1) 4∧ρ 5=pA (n1+2) 5∧ρ 13 = .list true (M.1.map al)∧ρ 16 = .list false (redex.nodes.map (aj.cells false))∧ρ 17=int cK∧ρ 18=int v10)∧H (n1,3)=some ⟨6,[bC false redex]⟩∧H (n1+1,4)=some ⟨6,[bC false agent]⟩∧H (n1+2,5)=some ⟨2,[mC false m]⟩∧n1<n∧n1+1<n∧n1+2<n) (by refine⟨?_,?_,?_,?_,?_,?_,?_⟩<;>first | (simp[hh,c,d,a,g3_1,g4_2,g5_3,f51,g,o,-ah];done) | omega | (simp;omega)) ?_
    clear hh c d a g3_1 g4_2 g5_3
    rintro ρ H ey ⟨hh,c,d,a,g3_1,g4_2,g5_3⟩
    refine zE fun k' hk'=>?_
    obtain⟨N,h⟩:=h
    obtain⟨b1,b2,h⟩:=atm h
    simp[hh,c,d,a,g3_1,g4_2,g5_3]
    refine aG.lW ae (di true M.1 (fun z=>db z m) N.1 (fun z hz=>np z m a (N.2 z hz))) DQ (by decide) (by decide) rfl (by simp[hh,c,d,a,g3_1,g4_2,g5_3]) ?_
    rintro _ rfl
    rw[← b2]
    simp[hh,c,d,a,g3_1,g4_2,g5_3]
    apply hk'
    refine aa.ite (b:=b1) (by simp[hh,c,d,a,g3_1,g4_2,g5_3]) (fun t=>?_) (fun t=>?_)
    ·replace h:=h.1 t
     refine zE fun k' hk'=>?_
     simp[hh,c,d,a,g3_1,g4_2,g5_3,t]
     apply hk'
     exact aa.aV (v:=bool false) Tryz.func167 Tryz.results167 (by simp[hh,c,d,a,g3_1,g4_2,g5_3,t]) (hQ _ _ _ _ (.of (.v _)) ⟨false,h,rfl⟩)
    replace h:=h.2 t
    refine aa.skip ?_
    refine aa.inBlock ?_
    refine zF fun k' hk'=>?_
    obtain⟨b3,h⟩:=h
    obtain⟨b5,b7,h⟩:=atm h
    have f59:=aI b3 b7
    simp[hh,c,d,a,g3_1,g4_2,g5_3,f59,t,-ai]
    apply hk'
    refine E (b5) _ _ _ h (by refine⟨?_,?_,?_,?_,?_,?_,?_⟩<;>first | (simp[hh,c,d,a,g3_1,g4_2,g5_3,t];done) | omega | (simp;omega))
   replace h:=aM
   obtain⟨b8,b9,h⟩:=atm h
   have f61:=dz (k:=.i64) b9
   rcases Bool.eq_false_or_eq_true b8 with u | u
   ·replace h:=h.1 u
    simp[hh,c,d,a,e,j,g3_1,g4_2,g5_3,g8_18,g9_26,f61,l,u,-ai]
    exact L (true) _ _ _ h (by refine⟨?_,?_,?_,?_,?_,?_,?_⟩<;>first | (simp[hh,c,d,a,e,j,g3_1,g4_2,g5_3,g8_18,g9_26,f61,l,u,-ai];done) | omega | (simp;omega))
   replace h:=h.2 u
   obtain⟨cc,ce,h⟩:=atm h
   have f63:=dz (k:=.i64) ce
   simp[hh,c,d,a,e,j,g3_1,g4_2,g5_3,g8_18,g9_26,f61,f63,l,u,-ai]
   exact L (cc) _ _ _ h (by refine⟨?_,?_,?_,?_,?_,?_,?_⟩<;>first | (simp[hh,c,d,a,e,j,g3_1,g4_2,g5_3,g8_18,g9_26,f61,f63,l,u,-ai];done) | omega | (simp;omega))
  replace h:=h.2 l
  refine zF fun k' hk'=>?_
  obtain⟨ci,h⟩:=h
  obtain⟨e0,cj,h⟩:=atm h
  have f66:=lP ci cj
  obtain⟨cl,h⟩:=h
  obtain⟨e1,co,h⟩:=atm h
  have f69:=fun H=>aE (H:=H) (fr:=false) (f:=al) (k:=.i64) aO (fun _=>rfl) cl co
  simp[hh,c,d,a,e,j,g3_1,g4_2,g5_3,g8_18,g9_26,f66,f69,l,-ah,-ai]
  apply hk'
  refine aa.seq ?_
  refine zE fun k' hk'=>?_
  obtain⟨cs,c0,c1⟩:=h
  have O:∀ (sJ:Bool) (ρ:Env) (H:ak) (n:Nat),cs sJ→(match sJ with | J=>(ρ 3=pA n1 3∧ρ 4=pA (n1+1) 4∧ρ 5=pA (n1+2) 5∧ρ 7=int v10∧ρ 16 = .list false (redex.nodes.map (aj.cells false))∧ρ 17=int cK∧ρ 18=int v10∧ρ 58=bool J)∧H (n1,3)=some ⟨6,[bC false redex]⟩∧H (n1+1,4)=some ⟨6,[bC false agent]⟩∧H (n1+2,5)=some ⟨2,[mC false m]⟩∧n1<n∧n1+1<n∧n1+2<n)→aa Tryz.prog 167 82 k' ρ H n Q:=by
   rintro J ρ H e2 h ⟨hh,c,d,a,g3_1,g4_2,g5_3⟩
   replace h:=c1 _ h
   apply hk'
   refine aa.ite (b:=J) (by simp[hh,c,d,a,g3_1,g4_2,g5_3]) (fun i=>?_) (fun i=>?_)
   ·replace h:=h.1 i
    refine zE fun k' hk'=>?_
    simp[hh,c,d,a,g3_1,g4_2,g5_3,i]
    apply hk'
    exact aa.aV (v:=bool false) Tryz.func167 Tryz.results167 (by simp[hh,c,d,a,g3_1,g4_2,g5_3,i]) (hQ _ _ _ _ (.of (.v _)) ⟨false,h,rfl⟩)
   replace h:=h.2 i
   refine aa.skip ?_
   refine aa.seq ?_
   refine zE fun k' hk'=>?_
   obtain⟨c2,h⟩:=h
   obtain⟨e3,c3,h⟩:=atm h
   simp[hh,c,d,a,g3_1,g4_2,g5_3,i]
   refine aG.aB ae ((ez redex v10 c2).pure) ES (.cons (bg false redex) (.cons (.v _ _ _) .nil)) (by decide) (by decide) rfl (by simp[hh,c,d,a,g3_1,g4_2,g5_3,i]) ?_
   rintro _ rfl
   rw[← c3]
   simp[hh,c,d,a,g3_1,g4_2,g5_3,i]
   apply hk'
   refine zE fun k' hk'=>?_
   obtain⟨e4,c4,h⟩:=atm h
   have f79:=fun H=>ax (H:=H) (fr:=true) (f:=al) aO c4
   obtain⟨c6,c8,h⟩:=atm h
   have f81:=iN (k:=.i64) c8
   simp[hh,c,d,a,g3_1,g4_2,g5_3,f79,f81,i,-ai,-aH]
   apply hk'
   refine aa.ite (b:=c6) (by simp[hh,c,d,a,g3_1,g4_2,g5_3,i]) (fun p=>?_) (fun p=>?_)
   ·replace h:=h.1 p
    refine aa.exit rfl ?_
    refine zF fun k' hk'=>?_
    obtain⟨c9,h⟩:=h
    obtain⟨da,dc,h⟩:=atm h
    have f84:=aI c9 dc
    simp[hh,c,d,a,g3_1,g4_2,g5_3,f84,i,p,-ai]
    apply hk'
    refine E (da) _ _ _ h (by refine⟨?_,?_,?_,?_,?_,?_,?_⟩<;>first | (simp[hh,c,d,a,g3_1,g4_2,g5_3,i,p];done) | omega | (simp;omega))
   replace h:=h.2 p
   refine aa.skip ?_
   refine aa.eo ae aD bU (by decide) (by kernel_rfl) fun k' hk'=>?_
   obtain⟨dl,h⟩:=h
   obtain⟨dr,ds,h⟩:=atm h
   have f87:=fun H=>aE (H:=H) (fr:=false) (f:=al) (k:=.i64) aO (fun _=>rfl) dl ds
   obtain⟨d0,h⟩:=h
   obtain⟨R,d1,h⟩:=atm h
   simp[hh,c,d,a,g3_1,g4_2,g5_3,f87,i,p,-ah]
   refine bn.aB ae aD ((ez agent dr d0).pure) ES (.cons (bg false agent) (.cons (.v _ _ _) .nil)) (by decide) rfl (by simp[hh,c,d,a,g3_1,g4_2,g5_3,f87,i,p,-ah]) ?_
   rw[← d1]
   simp[hh,c,d,a,g3_1,g4_2,g5_3,f87,i,p,-ah]
   apply hk'
   refine aa.cut (fun ρ H n=>(ρ 3=pA n1 3∧ρ 4=pA (n1+1) 4∧ρ 5=pA (n1+2) 5∧ρ 13 = .list true (R.1.map al)∧ρ 16 = .list false (redex.nodes.map (aj.cells false))∧ρ 17=int cK∧ρ 18=int v10)∧H (n1,3)=some ⟨6,[bC false redex]⟩∧H (n1+1,4)=some ⟨6,[bC false agent]⟩∧H (n1+2,5)=some ⟨2,[mC false m]⟩∧n1<n∧n1+1<n∧n1+2<n) (by refine⟨?_,?_,?_,?_,?_,?_,?_⟩<;>first | (simp[hh,c,d,a,g3_1,g4_2,g5_3,f87,i,p,-ah];done) | omega | (simp;omega)) ?_
   clear hh c d a g3_1 g4_2 g5_3
   rintro ρ H e7 ⟨hh,c,d,a,g3_1,g4_2,g5_3⟩
   refine zE fun k' hk'=>?_
   obtain⟨T,h⟩:=h
   obtain⟨d2,d3,h⟩:=atm h
   simp[hh,c,d,a,g3_1,g4_2,g5_3]
   refine aG.lW ae (di true R.1 (fun z=>db z m) T.1 (fun z hz=>np z m a (T.2 z hz))) DQ (by decide) (by decide) rfl (by simp[hh,c,d,a,g3_1,g4_2,g5_3]) ?_
   rintro _ rfl
   rw[← d3]
   simp[hh,c,d,a,g3_1,g4_2,g5_3]
   apply hk'
   refine aa.ite (b:=d2) (by simp[hh,c,d,a,g3_1,g4_2,g5_3]) (fun A=>?_) (fun A=>?_)
   ·replace h:=h.1 A
    refine zE fun k' hk'=>?_
    simp[hh,c,d,a,g3_1,g4_2,g5_3,A]
    apply hk'
    exact aa.aV (v:=bool false) Tryz.func167 Tryz.results167 (by simp[hh,c,d,a,g3_1,g4_2,g5_3,A]) (hQ _ _ _ _ (.of (.v _)) ⟨false,h,rfl⟩)
   replace h:=h.2 A
   refine aa.skip ?_
   refine aa.inBlock ?_
   refine zF fun k' hk'=>?_
   obtain⟨d4,h⟩:=h
   obtain⟨d5,d6,h⟩:=atm h
   have f95:=aI d4 d6
   simp[hh,c,d,a,g3_1,g4_2,g5_3,f95,A,-ai]
   apply hk'
   refine E (d5) _ _ _ h (by refine⟨?_,?_,?_,?_,?_,?_,?_⟩<;>first | (simp[hh,c,d,a,g3_1,g4_2,g5_3,A];done) | omega | (simp;omega))
  replace h:=c0
  obtain⟨d7,d8,h⟩:=atm h
  have f97:=dz (k:=.i64) d8
  rcases Bool.eq_false_or_eq_true d7 with B | B
  ·replace h:=h.1 B
   simp[hh,c,d,a,e,j,g3_1,g4_2,g5_3,g8_18,g9_26,f97,l,B,-ai]
   exact O (true) _ _ _ h (by refine⟨?_,?_,?_,?_,?_,?_,?_⟩<;>first | (simp[hh,c,d,a,e,j,g3_1,g4_2,g5_3,g8_18,g9_26,f97,l,B,-ai];done) | omega | (simp;omega))
  replace h:=h.2 B
  obtain⟨d9,el,h⟩:=atm h
  have f99:=dz (k:=.i64) el
  simp[hh,c,d,a,e,j,g3_1,g4_2,g5_3,g8_18,g9_26,f97,f99,l,B,-ai]
  exact O (d9) _ _ _ h (by refine⟨?_,?_,?_,?_,?_,?_,?_⟩<;>first | (simp[hh,c,d,a,e,j,g3_1,g4_2,g5_3,g8_18,g9_26,f97,f99,l,B,-ai];done) | omega | (simp;omega))
 replace h:=h.2 q
 refine aa.exit rfl ?_
 refine zE fun k' hk'=>?_
 simp[hh,c,d,a,g3_1,g4_2,g5_3,q]
 apply hk'
 exact aa.aV (v:=bool true) Tryz.func167 Tryz.results167 (by simp[hh,c,d,a,g3_1,g4_2,g5_3,q]) (hQ _ _ _ _ (.of (.v _)) ⟨true,h,rfl⟩)
theorem uJ (redex:Big) (agent:Big) (m:Match) (hp:jN redex agent m):aq Tryz.prog 167 [.agg (bC false redex),.agg (bC false agent),.agg (mC false m)] (fun r=>r=bool (ek redex agent m)):=(rh redex agent m _ (vl redex agent m hp)).mono (by rintro _ ⟨_,rfl,rfl⟩;rfl)
theorem I0:Ent Tryz.prog 138:=Ent.of Tryz.func138 (by kernel_rfl) rfl
theorem qu (redex:Big) (agent:Big) (nodes:List Int) (Z:((List Int) × Bool)→Prop) (h:fU redex agent nodes Z):a7 Tryz.prog 138 [.agg (bC false redex),.agg (bC false agent),.list false (nodes.map al)] (.t [.s [.c],.c]) (fun r=>∃ y:(List Int) × Bool,Z y∧r = .tup [.list true (y.1.map al),bool y.2]):=by
 unfold fU at h
 have sp:Sep bc 0 [] []:=Sep.nil (by simp)
 refine a7.of Tryz.func138 rfl Tryz.ntmps138 (by simp) fun Q hQ=>?_
 refine aa.cut (fun ρ H n=>(ρ 0 = .agg (bC false redex)∧ρ 1 = .agg (bC false agent)∧ρ 2 = .list false (nodes.map al))∧Sep H n [] []) (by refine⟨by simp ,sp⟩) ?_
 rintro ρ H n1 ⟨hh,sp⟩
 refine zE fun k' hk'=>?_
 simp[hh]
 apply hk'
 refine aa.cut (fun ρ H n=>((ρ 2 = .list false (nodes.map al)∧ρ 3=pA n1 3∧ρ 4=pA (n1+1) 4)∧H (n1,3)=some ⟨6,[bC false redex]⟩∧H (n1+1,4)=some ⟨6,[bC false agent]⟩)∧Sep H n [] [(n1+1,4),(n1,3)]) (by refine⟨by simp[hh],sp.var.var⟩) ?_
 clear hh
 rintro ρ H n4 ⟨⟨hh,a,d⟩,sp⟩
 refine zE fun k' hk'=>?_
 obtain⟨uI,elen5,h⟩:=atm h
 have f6:=fun H=>ax (H:=H) (fr:=false) (f:=aL) cy elen5
 obtain⟨hb7,h⟩:=h
 obtain⟨v8,ev8,h⟩:=atm h
 have f9:=aI hb7 ev8
 obtain⟨bk,h⟩:=h
 obtain⟨bs,bv,h⟩:=atm h
 simp[hh,a,d,f6,f9,-ai,-aH]
 refine aG.cd ae (Ak [(-1)] v8 bk) IT (.cons (aF.uv (fr:=true) (els:=[(-1)].map al) (by simp)) (.cons (.v _ _ _) .nil)) sp (by decide) (by decide) rfl (by simp[hh,a,d,f6,f9,-ai,-aH]) ?_
 rintro v12 gc gd _ sp rfl gg a3
 rw[← bv] at sp
 have a:=(a3 _ (by simp)).trans a
 have d:=(a3 _ (by simp)).trans d
 simp[hh,a,d,f6,f9,-ai,-aH]
 apply hk'
 refine aa.cut (fun ρ H n=>∃ (O:ag),((ρ 2 = .list false (nodes.map al)∧ρ 3=pA n1 3∧ρ 4=pA (n1+1) 4∧ρ 8=O)∧H (n1,3)=some ⟨6,[bC false redex]⟩∧H (n1+1,4)=some ⟨6,[bC false agent]⟩)∧Sep H n [oI O bs] [(n1+1,4),(n1,3)]) (by refine⟨v12,by simp[hh,a,d,f6,f9,-ai,-aH],sp⟩) ?_
 clear hh a d
 rintro ρ H n20 ⟨O,⟨hh,a,d⟩,sp⟩
 refine aa.seq ?_
 refine zE fun k' hk'=>?_
 obtain⟨F,b0,h⟩:=atm h
 have f22:=fun H=>ax (H:=H) (fr:=false) (f:=(aj.cells false)) bj b0
 simp[hh,a,d,f22,-aH]
 apply hk'
 refine aa.block ?_
 refine aa.aw h (fun (sJ:Int × (List Int)) ρ H n=>match sJ with | (v30,i)=>∃ (I:ag),((ρ 2 = .list false (nodes.map al)∧ρ 3=pA n1 3∧ρ 4=pA (n1+1) 4∧ρ 8=I∧ρ 28 = .list false (redex.nodes.map (aj.cells false))∧ρ 29=int F∧ρ 30=int v30)∧H (n1,3)=some ⟨6,[bC false redex]⟩∧H (n1+1,4)=some ⟨6,[bC false agent]⟩)∧Sep H n [oI I i] [(n1+1,4),(n1,3)]) (by refine⟨O,by simp[hh,a,d],sp⟩) ?_
 clear hh a d
 rintro⟨v30,i⟩ ρ H n33 K h ⟨I,⟨hh,a,d⟩,sp⟩ b1
 refine zE fun k' hk'=>?_
 obtain⟨b2,b3,h⟩:=atm h
 have f37:=aT (k:=.i64) b3
 simp[hh,a,d,f37,-ai]
 apply hk'
 refine aa.seq ?_
 refine aa.ite (b:=b2) (by simp[hh,a,d]) (fun A=>?_) (fun A=>?_)
 ·replace h:=h.1 A
  refine aa.skip ?_
  refine aa.seq ?_
  refine aa.block ?_
  refine zE fun k' hk'=>?_
  obtain⟨b5,h⟩:=h
  obtain⟨B,b7,h⟩:=atm h
  have f40:=fun H=>aE (H:=H) (fr:=false) (f:=(aj.cells false)) (k:=.i64) bj (fun _=>rfl) b5 b7
  simp[hh,a,d,f40,A,-ah]
  apply hk'
  refine aa.cut (fun ρ H n=>∃ (R:ag),((ρ 2 = .list false (nodes.map al)∧ρ 3=pA n1 3∧ρ 4=pA (n1+1) 4∧ρ 8=R∧ρ 9=int v30∧ρ 10=pA n33 10∧ρ 28 = .list false (redex.nodes.map (aj.cells false))∧ρ 29=int F∧ρ 30=int v30)∧H (n1,3)=some ⟨6,[bC false redex]⟩∧H (n1+1,4)=some ⟨6,[bC false agent]⟩∧H (n33,10)=some ⟨3,[[int B.control,int B.parent,.list false (B.links.map al)]]⟩)∧Sep H n [oI R i] [(n33,10),(n1+1,4),(n1,3)]) (by refine⟨I,by simp[hh,a,d,f40,A,-ah],sp.var⟩) ?_
  clear hh a d
  rintro ρ H gi ⟨R,⟨hh,a,d,Y⟩,sp⟩
  refine zE fun k' hk'=>?_
  obtain⟨T,b8,h⟩:=atm h
  have f45:=fun H=>ax (H:=H) (fr:=false) (f:=al) aO b8
  simp[hh,a,d,Y,f45,-aH]
  apply hk'
  refine aa.block ?_
  refine aa.aw h (fun (sJ:Int × (List Int)) ρ H n=>match sJ with | (v53,e)=>∃ (J:ag),((ρ 2 = .list false (nodes.map al)∧ρ 3=pA n1 3∧ρ 4=pA (n1+1) 4∧ρ 8=J∧ρ 9=int v30∧ρ 28 = .list false (redex.nodes.map (aj.cells false))∧ρ 29=int F∧ρ 30=int v30∧ρ 36 = .list false (B.links.map al)∧ρ 37=int T∧ρ 38=int v53)∧H (n1,3)=some ⟨6,[bC false redex]⟩∧H (n1+1,4)=some ⟨6,[bC false agent]⟩)∧Sep H n [oI J e] [(n1+1,4),(n1,3)]) (by refine⟨R,by simp[hh,a,d,Y],(Sep.sub sp (by simp +contextual))⟩) ?_
  clear hh a d Y
  rintro⟨v53,e⟩ ρ H gj K h ⟨J,⟨hh,a,d⟩,sp⟩ b9
  refine zE fun k' hk'=>?_
  obtain⟨cc,ce,h⟩:=atm h
  have f60:=aT (k:=.i64) ce
  simp[hh,a,d,f60,-ai]
  apply hk'
  refine aa.seq ?_
  refine aa.ite (b:=cc) (by simp[hh,a,d]) (fun o=>?_) (fun o=>?_)
  ·replace h:=h.1 o
   refine aa.skip ?_
   refine aa.seq ?_
   refine aa.block ?_
   refine zE fun k' hk'=>?_
   obtain⟨ci,h⟩:=h
   obtain⟨G,cj,h⟩:=atm h
   have f63:=fun H=>aE (H:=H) (fr:=false) (f:=al) (k:=.i64) aO (fun _=>rfl) ci cj
   simp[hh,a,d,f63,o,-ah]
   apply hk'
   refine aa.eo ae aD bU (by decide) (by kernel_rfl) fun k' hk'=>?_
   obtain⟨cl,h⟩:=h
   obtain⟨go,co,h⟩:=atm h
   have f66:=fun H=>aE (H:=H) (fr:=false) (f:=al) (k:=.i64) aO (fun _=>rfl) cl co
   obtain⟨cs,h⟩:=h
   obtain⟨gs,c0,h⟩:=atm h
   have f69:=fun H=>aE (H:=H) (fr:=false) (f:=(aj.cells false)) (k:=.i64) bj (fun _=>rfl) cs c0
   obtain⟨c1,h⟩:=h
   obtain⟨ab,c2,h⟩:=atm h
   have f72:=fun H=>aE (H:=H) (fr:=false) (f:=al) (k:=.i64) aO (fun _=>rfl) c1 c2
   simp[hh,a,d,f66,f69,f72,o,-ah]
   apply hk'
   refine aa.cut (fun ρ H n=>∃ (ac:ag),((ρ 2 = .list false (nodes.map al)∧ρ 3=pA n1 3∧ρ 4=pA (n1+1) 4∧ρ 8=ac∧ρ 9=int v30∧ρ 12=int G∧ρ 13=int ab∧ρ 28 = .list false (redex.nodes.map (aj.cells false))∧ρ 29=int F∧ρ 30=int v30∧ρ 36 = .list false (B.links.map al)∧ρ 37=int T∧ρ 38=int v53)∧H (n1,3)=some ⟨6,[bC false redex]⟩∧H (n1+1,4)=some ⟨6,[bC false agent]⟩)∧Sep H n [oI ac e] [(n1+1,4),(n1,3)]) (by refine⟨J,by simp[hh,a,d,f66,f69,f72,o,-ah],sp⟩) ?_
   clear hh a d
   rintro ρ H gu ⟨ac,⟨hh,a,d⟩,sp⟩
   refine aa.seq ?_
   refine zE fun k' hk'=>?_
   obtain⟨c3,c4,c6⟩:=h
   have a4:∀ (sJ:Bool) (ρ:Env) (H:ak) (n:Nat),c3 sJ→(match sJ with | ad=>∃ (af:ag),((ρ 2 = .list false (nodes.map al)∧ρ 3=pA n1 3∧ρ 4=pA (n1+1) 4∧ρ 8=af∧ρ 9=int v30∧ρ 12=int G∧ρ 13=int ab∧ρ 28 = .list false (redex.nodes.map (aj.cells false))∧ρ 29=int F∧ρ 30=int v30∧ρ 36 = .list false (B.links.map al)∧ρ 37=int T∧ρ 38=int v53∧ρ 67=bool ad)∧H (n1,3)=some ⟨6,[bC false redex]⟩∧H (n1+1,4)=some ⟨6,[bC false agent]⟩)∧Sep H n [oI af e] [(n1+1,4),(n1,3)])→aa Tryz.prog 138 110 k' ρ H n Q:=by
    rintro ad ρ H c8 h ⟨af,⟨hh,a,d⟩,sp⟩
    replace h:=c6 _ h
    apply hk'
    refine aa.ite (b:=ad) (by simp[hh,a,d]) (fun l=>?_) (fun l=>?_)
    ·replace h:=h.1 l
     refine zE fun k' hk'=>?_
     simp[hh,a,d,l]
     apply hk'
     exact aa.ta (v:=.v (.slice none 0 0)) (w:=bool false) Tryz.func138 Tryz.results138 (by simp[hh,a,d,l]) (by simp[hh,a,d,l]) (hQ _ _ _ _ (Sep.sub (ids':=[]) (Sep.hd (Sep.fy (az.own (az.v _ az.nil)) (Sep.cu sp))) (by simp)) ⟨([],false),h,rfl⟩)
    replace h:=h.2 l
    refine aa.skip ?_
    refine zF fun k' hk'=>?_
    obtain⟨am,h⟩:=h
    obtain⟨an,hv,c9,gv,L⟩:=Sep.fC sp (by simp) am
    subst hv
    simp at L
    obtain⟨gw,da,h⟩:=atm h
    have f90:=fun H (hm:H an=some ⟨1,e.map al⟩)=>cF (H:=H) (k:=.i64) (off:=0) (len:=e.length) (g:=e.length) aO hm (by simp) rfl am
    have f91:=cH (q:=G.toNat) am da rfl
    obtain⟨ao,dc,h⟩:=atm h
    simp[hh,a,d,c9,L,f90,f91,l,-ah,-bG]
    refine dv (q:=G.toNat) (news:=al ab) [] [] sp (by simp) (by simp;omega) (by simp) (by simp[-ay,o1x]) (az.v _ az.nil) ?_
    rintro dl sp a5
    replace sp:Sep dl c8 [oI (.arr an e.length 0 e.length) ao] [(n1+1,4),(n1,3)]:=Sep.st dc sp
    have a:=(a5 _ (by simp)).trans a
    have d:=(a5 _ (by simp)).trans d
    simp[hh,a,d,L,f90,f91,l,-ah]
    apply hk'
    refine aa.cut (fun ρ H n=>∃ (U:ag),((ρ 2 = .list false (nodes.map al)∧ρ 3=pA n1 3∧ρ 4=pA (n1+1) 4∧ρ 8=U∧ρ 9=int v30∧ρ 28 = .list false (redex.nodes.map (aj.cells false))∧ρ 29=int F∧ρ 30=int v30∧ρ 36 = .list false (B.links.map al)∧ρ 37=int T∧ρ 38=int v53)∧H (n1,3)=some ⟨6,[bC false redex]⟩∧H (n1+1,4)=some ⟨6,[bC false agent]⟩)∧Sep H n [oI U ao] [(n1+1,4),(n1,3)]) (by refine⟨.arr an e.length 0 e.length,by simp[hh,a,d,L,f90,f91,l,-ah],sp⟩) ?_
    clear hh a d L
    rintro ρ H g0 ⟨U,⟨hh,a,d⟩,sp⟩
    refine aa.inBlock ?_
    refine zF fun k' hk'=>?_
    obtain⟨ds,h⟩:=h
    obtain⟨d0,d1,h⟩:=atm h
    have f100:=aI ds d1
    simp[hh,a,d,f100,-ai]
    apply hk'
    refine b9 (d0,ao) _ _ _ h (by refine⟨U,by simp[hh,a,d],sp⟩)
   replace h:=c4
   obtain⟨ap,h⟩:=h
   obtain⟨V,hv,W,g1,M⟩:=Sep.fC sp (by simp) ap
   subst hv
   simp at M
   obtain⟨g2,aM,h⟩:=atm h
   have f107:=fun H (hm:H V=some ⟨1,e.map al⟩)=>cF (H:=H) (k:=.i64) (off:=0) (len:=e.length) (g:=e.length) aO hm (by simp) rfl ap
   have f108:=cH (q:=G.toNat) ap aM rfl
   obtain⟨d2,d3,h⟩:=atm h
   have f110:=jz (k:=.i64) d3
   rcases Bool.eq_false_or_eq_true d2 with C | C
   ·replace h:=h.1 C
    obtain⟨a9,h⟩:=h
    obtain⟨g3,d4,h⟩:=atm h
    have d5:=aM.trans d4.symm
    subst d5
    have f114:=fun H (hm:H V=some ⟨1,e.map al⟩)=>cF (H:=H) (k:=.i64) (off:=0) (len:=e.length) (g:=e.length) aO hm (by simp) rfl a9
    have f115:=cH (q:=G.toNat) a9 aM rfl
    obtain⟨d6,d7,h⟩:=atm h
    have f117:=dz (k:=.i64) d7
    simp[hh,a,d,W,M,f107,f108,f110,f114,f115,f117,C,-ah,-ai]
    exact a4 (d6) _ _ _ h (by refine⟨.arr V e.length 0 e.length,by simp[hh,a,d,W,M,f107,f108,f110,f114,f115,f117,C,-ah,-ai],sp⟩)
   replace h:=h.2 C
   simp[hh,a,d,W,M,f107,f108,f110,C,-ah,-ai]
   exact a4 (false) _ _ _ h (by refine⟨.arr V e.length 0 e.length,by simp[hh,a,d,W,M,f107,f108,f110,C,-ah,-ai],sp⟩)
  replace h:=h.2 o
  refine aa.exit rfl ?_
  refine aa.inBlock ?_
  refine zF fun k' hk'=>?_
  obtain⟨d8,h⟩:=h
  obtain⟨d9,el,h⟩:=atm h
  have f120:=aI d8 el
  simp[hh,a,d,f120,o,-ai]
  apply hk'
  refine b1 (d9,e) _ _ _ h (by refine⟨J,by simp[hh,a,d,o],sp⟩)
 replace h:=h.2 A
 refine aa.exit rfl ?_
 refine aa.seq ?_
 refine zE fun k' hk'=>?_
 simp[hh,a,d,A]
 apply hk'
 refine aa.block ?_
 refine aa.aw h (fun (sJ:Int) ρ H n=>match sJ with | v124=>∃ (N:ag),((ρ 3=pA n1 3∧ρ 4=pA (n1+1) 4∧ρ 8=N∧ρ 75=int redex.edges∧ρ 76=int v124)∧H (n1,3)=some ⟨6,[bC false redex]⟩∧H (n1+1,4)=some ⟨6,[bC false agent]⟩)∧Sep H n [oI N i] [(n1+1,4),(n1,3)]) (by refine⟨I,by simp[hh,a,d,A],sp⟩) ?_
 clear hh a d
 rintro v124 ρ H n126 K h ⟨N,⟨hh,a,d⟩,sp⟩ em
 refine zE fun k' hk'=>?_
 obtain⟨es,ev,h⟩:=atm h
 have f130:=aT (k:=.i64) ev
 simp[hh,a,d,f130,-ai]
 apply hk'
 refine aa.seq ?_
 refine aa.ite (b:=es) (by simp[hh,a,d]) (fun j=>?_) (fun j=>?_)
 ·replace h:=h.1 j
  refine aa.skip ?_
  refine aa.seq ?_
  refine aa.block ?_
  refine zE fun k' hk'=>?_
  simp[hh,a,d,j]
  apply hk'
  refine zE fun k' hk'=>?_
  obtain⟨ex,h⟩:=h
  obtain⟨ey,e0,h⟩:=atm h
  simp[hh,a,d,j]
  refine aG.cd ae (lJ redex v124 ex) e49 (.cons (bg false redex) (.cons (.v _ _ _) .nil)) sp (by decide) (by decide) rfl (by simp[hh,a,d,j]) ?_
  rintro g4 g5 n135 _ sp rfl g6 bd
  rw[← e0] at sp
  have a:=(bd _ (by simp)).trans a
  have d:=(bd _ (by simp)).trans d
  replace sp:=Sep.ku sp
  obtain⟨L141,hv,e1,sp⟩:=sp
  subst hv
  obtain⟨v139,g7,hv⟩:=cf (by simpa using e1)
  subst hv
  simp only[dp,List.cons_append,List.nil_append] at sp
  replace sp:=Sep.rot sp
  try simp only[List.cons_append,List.nil_append,List.append_assoc] at sp
  replace sp:=Sep.rot sp
  try simp only[List.cons_append,List.nil_append,List.append_assoc] at sp
  simp[hh,a,d,j]
  apply hk'
  refine aa.cut (fun ρ H n=>∃ (v145 v146:ag),((ρ 3=pA n1 3∧ρ 4=pA (n1+1) 4∧ρ 8=v145∧ρ 14=int v124∧ρ 15=v146∧ρ 75=int redex.edges∧ρ 76=int v124)∧H (n1,3)=some ⟨6,[bC false redex]⟩∧H (n1+1,4)=some ⟨6,[bC false agent]⟩)∧Sep H n [oI v145 i,oE [.c,.c] bO v146 ey.1] [(n1+1,4),(n1,3)]) (by refine⟨N,v139,by simp[hh,a,d,j],sp.f2.dr⟩) ?_
  clear hh a d
  rintro ρ H n147 ⟨v145,v146,⟨hh,a,d⟩,sp⟩
  refine aa.eo ae aD bU (by decide) (by kernel_rfl) fun k' hk'=>?_
  obtain⟨a0,h⟩:=h
  obtain⟨X,hv,D,g8,p⟩:=Sep.fC sp (by simp) a0
  subst hv
  simp at p
  obtain⟨e2,a1,h⟩:=atm h
  have f154:=fun H (hm:H X=some ⟨1,i.map al⟩)=>cF (H:=H) (k:=.i64) (off:=0) (len:=i.length) (g:=i.length) aO hm (by simp) rfl a0
  have f155:=cH (q:=v124.toNat) a0 a1 rfl
  obtain⟨e3,h⟩:=h
  obtain⟨g9,e4,h⟩:=atm h
  simp[hh,a,d,D,p,f154,f155,-ah]
  refine bn.aB ae aD ((lJ agent e2 e3).pure) e49 (.cons (bg false agent) (.cons (.v _ _ _) .nil)) (by decide) rfl (by simp[hh,a,d,D,p,f154,f155,-ah]) ?_
  rw[← e4]
  simp[hh,a,d,D,p,f154,f155,-ah]
  apply hk'
  refine aa.eo ae aD bU (by decide) (by kernel_rfl) fun k' hk'=>?_
  obtain⟨e7,e8,fd⟩:=h
  have be:∀ (sJ:Bool) (ρ:Env) (H:ak) (n:Nat),e7 sJ→(match sJ with | a2=>∃ (v162:ag),((ρ 3=pA n1 3∧ρ 4=pA (n1+1) 4∧ρ 8=v162∧ρ 75=int redex.edges∧ρ 76=int v124∧ρ 107=bool a2)∧H (n1,3)=some ⟨6,[bC false redex]⟩∧H (n1+1,4)=some ⟨6,[bC false agent]⟩)∧Sep H n [oI v162 i] [(n1+1,4),(n1,3)])→aa Tryz.prog 138 110 k' ρ H n Q:=by
   rintro a2 ρ H n164 h ⟨v162,⟨hh,a,d⟩,sp⟩
   replace h:=fd _ h
   apply hk'
   refine aa.ite (b:=a2) (by simp[hh,a,d]) (fun u=>?_) (fun u=>?_)
   ·replace h:=h.1 u
    refine zE fun k' hk'=>?_
    simp[hh,a,d,u]
    apply hk'
    exact aa.ta (v:=.v (.slice none 0 0)) (w:=bool false) Tryz.func138 Tryz.results138 (by simp[hh,a,d,u]) (by simp[hh,a,d,u]) (hQ _ _ _ _ (Sep.sub (ids':=[]) (Sep.hd (Sep.fy (az.own (az.v _ az.nil)) (Sep.cu sp))) (by simp)) ⟨([],false),h,rfl⟩)
   replace h:=h.2 u
   refine aa.skip ?_
   refine aa.inBlock ?_
   refine zF fun k' hk'=>?_
   obtain⟨fl,h⟩:=h
   obtain⟨v168,fn,h⟩:=atm h
   have f169:=aI fl fn
   simp[hh,a,d,f169,u,-ai]
   apply hk'
   refine em (v168) _ _ _ h (by refine⟨v162,by simp[hh,a,d,u],sp⟩)
  replace h:=e8
  obtain⟨bi,h⟩:=h
  obtain⟨ha,fo,h⟩:=atm h
  have fs:=a1.trans fo.symm
  subst fs
  have f173:=fun H (hm:H X=some ⟨1,i.map al⟩)=>cF (H:=H) (k:=.i64) (off:=0) (len:=i.length) (g:=i.length) aO hm (by simp) rfl bi
  have f174:=cH (q:=v124.toNat) bi a1 rfl
  obtain⟨fz,f0,h⟩:=atm h
  have f176:=jz (k:=.i64) f0
  rcases Bool.eq_false_or_eq_true fz with E | E
  ·replace h:=h.1 E
   simp[hh,a,d,D,p,f173,f174,f176,E,-ah,-ai]
   exact be (true) _ _ _ h (by refine⟨.arr X i.length 0 i.length,by simp[hh,a,d,D,p,f173,f174,f176,E,-ah,-ai],sp.f1.dr⟩)
  replace h:=h.2 E
  obtain⟨hb,f3,h⟩:=atm h
  have f178:=fun H=>ax (H:=H) (fr:=true) (f:=bO) gC f3
  obtain⟨f4,f5,h⟩:=atm h
  have f180:=dT (Sep.len (m:=f4) sp.f1 gC (by rw[f5,List.length_map]))
  obtain⟨f7,f8,h⟩:=atm h
  have f182:=dz (k:=.i64) f8
  simp[hh,a,d,D,p,f173,f174,f176,f178,f180,f182,E,-ah,-ai,-aH]
  exact be (f7) _ _ _ h (by refine⟨.arr X i.length 0 i.length,by simp[hh,a,d,D,p,f173,f174,f176,f178,f180,f182,E,-ah,-ai,-aH],sp.f1.dr⟩)
 replace h:=h.2 j
 refine aa.exit rfl ?_
 refine zE fun k' hk'=>?_
 simp[hh,a,d,j]
 apply hk'
 exact aa.ta (v:=N) (w:=bool true) Tryz.func138 Tryz.results138 (by simp[hh,a,d,j]) (by simp[hh,a,d,j]) (hQ _ _ _ _ (Sep.sub (ids':=[]) (Sep.fy (az.own (az.v _ az.nil)) sp) (by simp)) ⟨(i,true),h,rfl⟩)
theorem sN (redex:Big) (agent:Big) (nodes:List Int) (hp:dn redex agent nodes):a7 Tryz.prog 138 [.agg (bC false redex),.agg (bC false agent),.list false (nodes.map al)] (.t [.s [.c],.c]) (fun r=>r = .tup [.list true (((eQ redex agent nodes).1).map al),bool ((eQ redex agent nodes).2)]):=(qu redex agent nodes _ (sR redex agent nodes hp)).mono (by rintro _ ⟨_,rfl,rfl⟩;rfl)
theorem IF:Ent Tryz.prog 165:=Ent.of Tryz.func165 (by kernel_rfl) rfl
theorem tC {H0:ak} {n0:Nat} {X1:Id} {X2:Id} (p:Int) (v_:Big) (v_':Match) (hX1:H0 X1=some ⟨6,[bC false v_]⟩) (hX2:H0 X2=some ⟨2,[mC false v_']⟩) (Z:Bool→Prop) (h:jo p v_ v_' Z):fA Tryz.prog H0 n0 (.fn (.func 165) [] [.ptr X1 1 0 0,.ptr X2 1 0 0]) [int p] (fun r=>∃ y:Bool,Z y∧r=bool y):=by
 unfold jo at h
 refine⟨165,[],[.ptr X1 1 0 0,.ptr X2 1 0 0],rfl,IF,?_⟩
 refine cI.of Tryz.func165 rfl Tryz.ntmps165 (by simp) fun Q hB hQ=>?_
 have lX1:X1.1<n0:=(hB X1 _ hX1).1
 have lX2:X2.1<n0:=(hB X2 _ hX2).1
 have neX1:∀ m d,n0≤m→(X1=(m,d))=False:=fun m d hm=>by simp only[eq_iff_iff,iff_false];rintro rfl;simp at lX1;omega
 have neX2:∀ m d,n0≤m→(X2=(m,d))=False:=fun m d hm=>by simp only[eq_iff_iff,iff_false];rintro rfl;simp at lX2;omega
 have hfr:Frame n0 H0 H0:=Frame.refl _ _
 have hn0:n0≤n0:=Nat.le_refl _
 refine aa.cut (fun ρ H n=>(ρ 0=int p∧ρ 1 = .ptr X1 1 0 0∧ρ 2 = .ptr X2 1 0 0)∧H X1=some ⟨6,[bC false v_]⟩∧H X2=some ⟨2,[mC false v_']⟩∧n0≤n∧Frame n0 H0 H) (by refine⟨?_,?_,?_,?_,?_⟩<;>first | ((repeat (first | exact hfr | refine Frame.set (by first | omega | (simp;omega)) ?_));done) | omega | simp[hX1,hX2]) ?_
 rintro ρ H n1 ⟨hh,mX1,mX2,hn0,hfr⟩
 have hn1:=Nat.le_succ_of_le hn0
 have hn2:=Nat.le_succ_of_le hn1
 refine zE fun k' hk'=>?_
 simp[hh,mX1,mX2,hn0,hn1,hn2,neX1,neX2]
 apply hk'
 refine zE fun k' hk'=>?_
 obtain⟨J2,hJ3,hr4⟩:=h
 have fin6:∀ (sJ:Bool) (ρ:Env) (H:ak) (n:Nat),J2 sJ→(match sJ with | b5=>ρ 4=bool b5∧H X1=some ⟨6,[bC false v_]⟩∧H X2=some ⟨2,[mC false v_']⟩∧n0≤n∧Frame n0 H0 H)→aa Tryz.prog 165 22 k' ρ H n Q:=by
  rintro b5 ρ H n7 h ⟨hh,mX1,mX2,hn0,hfr⟩
  have hn1:=Nat.le_succ_of_le hn0
  have hn2:=Nat.le_succ_of_le hn1
  replace h:=hr4 _ h
  apply hk'
  exact aa.aV (v:=bool b5) Tryz.func165 Tryz.results165 (by simp[hh,mX1,mX2,hn0,hn1,hn2,neX1,neX2]) (hQ _ _ _ _ (.bnd (.v _)) (hfr) ⟨b5,h,rfl⟩)
 replace h:=hJ3
 obtain⟨hb8,h⟩:=h
 obtain⟨v9,ev9,h⟩:=atm h
 have f10:=zL hb8 ev9
 obtain⟨ot,b,h⟩:=atm h
 have f12:=fun H=>ax (H:=H) (fr:=false) (f:=(aj.cells false)) bj b
 obtain⟨c,h⟩:=h
 obtain⟨e,g,h⟩:=atm h
 have f15:=lP c g
 obtain⟨i,j,h⟩:=atm h
 simp[hh,mX1,mX2,hn0,hn1,hn2,neX1,neX2,f10,f12,f15,-ai,-aH,-unF,eH]
 refine aG.aB ae (dL p v9 e ) tx (.cons (.v _ _ _) (.cons (.v _ _ _) (.cons (.v _ _ _) .nil))) (by decide) (by decide) rfl (by simp[hh,mX1,mX2,hn0,hn1,hn2,neX1,neX2,f10,f12,f15,-ai,-aH,-unF,eH]) ?_
 rintro _ rfl
 rw[← j]
 rcases Bool.eq_false_or_eq_true i with a | a
 ·replace h:=h.1 a
  obtain⟨l,h⟩:=h
  obtain⟨o,q,h⟩:=atm h
  simp[hh,mX1,mX2,hn0,hn1,hn2,neX1,neX2,f10,f12,f15,a,-ai,-aH,-unF,eH]
  refine aG.aB ae (sm v_ p v_'.nodes l) GH (.cons (bg false v_) (.cons (.v _ _ _) (.cons (cY false v_'.nodes) .nil))) (by decide) (by decide) rfl (by simp[hh,mX1,mX2,hn0,hn1,hn2,neX1,neX2,f10,f12,f15,a,-ai,-aH,-unF,eH]) ?_
  rintro _ rfl
  rw[← q]
  simp[hh,mX1,mX2,hn0,hn1,hn2,neX1,neX2,f10,f12,f15,a,-ai,-aH,-unF,eH]
  exact fin6 (o) _ _ _ h (by refine⟨?_,?_,?_,?_,?_⟩<;>first | ((repeat (first | exact hfr | refine Frame.set (by first | omega | (simp;omega)) ?_));done) | omega | simp[hh,mX1,mX2,hn0,hn1,hn2,neX1,neX2,f10,f12,f15,a,-ai,-aH,-unF,eH])
 replace h:=h.2 a
 simp[hh,mX1,mX2,hn0,hn1,hn2,neX1,neX2,f10,f12,f15,a,-ai,-aH,-unF,eH]
 exact fin6 (true) _ _ _ h (by refine⟨?_,?_,?_,?_,?_⟩<;>first | ((repeat (first | exact hfr | refine Frame.set (by first | omega | (simp;omega)) ?_));done) | omega | simp[hh,mX1,mX2,hn0,hn1,hn2,neX1,neX2,f10,f12,f15,a,-ai,-aH,-unF,eH])
theorem xb {H0:ak} {n0:Nat} {X1:Id} {X2:Id} (p:Int) (v_:Big) (v_':Match) (hX1:H0 X1=some ⟨6,[bC false v_]⟩) (hX2:H0 X2=some ⟨2,[mC false v_']⟩) (hp:kH p v_ v_'):fA Tryz.prog H0 n0 (.fn (.func 165) [] [.ptr X1 1 0 0,.ptr X2 1 0 0]) [int p] (fun r=>r=bool (fc p v_ v_')):=(tC p v_ v_' hX1 hX2 _ (yi p v_ v_' hp)).mono (by rintro _ ⟨_,rfl,rfl⟩;rfl)
theorem Ic:Ent Tryz.prog 121:=Ent.of Tryz.func121 (by kernel_rfl) rfl
theorem u0 (redex:Big) (agent:Big) (m:Match) (Z:Bool→Prop) (h:kl redex agent m Z):aq Tryz.prog 121 [.agg (bC false redex),.agg (bC false agent),.agg (mC false m)] (fun r=>∃ y:Bool,Z y∧r=bool y):=by
 unfold kl at h
 refine aq.of Tryz.func121 rfl Tryz.ntmps121 (by simp) fun Q hQ=>?_
 refine aa.cut (fun ρ H n=>(ρ 0 = .agg (bC false redex)∧ρ 1 = .agg (bC false agent)∧ρ 2 = .agg (mC false m))) (by simp) ?_
 rintro ρ H n1 hh
 refine zE fun k' hk'=>?_
 simp[hh]
 apply hk'
 refine aa.cut (fun ρ H n=>(ρ 3=pA n1 3∧ρ 4=pA (n1+1) 4∧ρ 5=pA (n1+2) 5)∧H (n1,3)=some ⟨6,[bC false redex]⟩∧H (n1+1,4)=some ⟨6,[bC false agent]⟩∧H (n1+2,5)=some ⟨2,[mC false m]⟩) (by refine⟨?_,?_,?_,?_⟩<;>simp[hh]) ?_
 clear hh
 rintro ρ H n5 ⟨hh,e,c,d⟩
 refine aa.seq ?_
 refine zE fun k' hk'=>?_
 obtain⟨J6,hJ7,hr8⟩:=h
 have B:∀ (sJ:Bool) (ρ:Env) (H:ak) (n:Nat),J6 sJ→(match sJ with | b9=>(ρ 3=pA n1 3∧ρ 4=pA (n1+1) 4∧ρ 5=pA (n1+2) 5∧ρ 25=bool b9)∧H (n1,3)=some ⟨6,[bC false redex]⟩∧H (n1+1,4)=some ⟨6,[bC false agent]⟩∧H (n1+2,5)=some ⟨2,[mC false m]⟩)→aa Tryz.prog 121 65 k' ρ H n Q:=by
  rintro b9 ρ H bk h ⟨hh,e,c,d⟩
  replace h:=hr8 _ h
  apply hk'
  refine aa.ite (b:=b9) (by simp[hh,e,c,d]) (fun db9=>?_) (fun db9=>?_)
  ·replace h:=h.1 db9
   refine zE fun k' hk'=>?_
   simp[hh,e,c,d,db9]
   apply hk'
   exact aa.aV (v:=bool false) Tryz.func121 Tryz.results121 (by simp[hh,e,c,d,db9]) (hQ _ _ _ _ (.of (.v _)) ⟨false,h,rfl⟩)
  replace h:=h.2 db9
  refine aa.skip ?_
  refine aa.seq ?_
  refine zE fun k' hk'=>?_
  obtain⟨dq,G,h⟩:=atm h
  have f13:=fun H=>ax (H:=H) (fr:=false) (f:=al) aO G
  simp[hh,e,c,d,f13,db9,-aH]
  apply hk'
  refine aa.block ?_
  refine aa.aw h (fun (sJ:Int) ρ H n=>match sJ with | q=>(ρ 3=pA n1 3∧ρ 4=pA (n1+1) 4∧ρ 5=pA (n1+2) 5∧ρ 27 = .list false (m.nodes.map al)∧ρ 28=int dq∧ρ 29=int q)∧H (n1,3)=some ⟨6,[bC false redex]⟩∧H (n1+1,4)=some ⟨6,[bC false agent]⟩∧H (n1+2,5)=some ⟨2,[mC false m]⟩) (by refine⟨?_,?_,?_,?_⟩<;>simp[hh,e,c,d,db9]) ?_
  clear hh e c d
  rintro q ρ H n17 K h ⟨hh,e,c,d⟩ I
  refine zE fun k' hk'=>?_
  obtain⟨J,L,h⟩:=atm h
  have f21:=aT (k:=.i64) L
  simp[hh,e,c,d,f21,-ai]
  apply hk'
  refine aa.seq ?_
  refine aa.ite (b:=J) (by simp[hh,e,c,d]) (fun g=>?_) (fun g=>?_)
  ·replace h:=h.1 g
   refine aa.skip ?_
   refine aa.seq ?_
   refine aa.block ?_
   refine zE fun k' hk'=>?_
   obtain⟨M,h⟩:=h
   obtain⟨C,N,h⟩:=atm h
   have f24:=fun H=>aE (H:=H) (fr:=false) (f:=al) (k:=.i64) aO (fun _=>rfl) M N
   simp[hh,e,c,d,f24,g,-ah]
   apply hk'
   refine zE fun k' hk'=>?_
   obtain⟨O,R,T⟩:=h
   have D:∀ (sJ:Bool) (ρ:Env) (H:ak) (n:Nat),O sJ→(match sJ with | t=>(ρ 3=pA n1 3∧ρ 4=pA (n1+1) 4∧ρ 5=pA (n1+2) 5∧ρ 27 = .list false (m.nodes.map al)∧ρ 28=int dq∧ρ 29=int q∧ρ 45=bool t)∧H (n1,3)=some ⟨6,[bC false redex]⟩∧H (n1+1,4)=some ⟨6,[bC false agent]⟩∧H (n1+2,5)=some ⟨2,[mC false m]⟩)→aa Tryz.prog 121 65 k' ρ H n Q:=by
    rintro t ρ H n30 h ⟨hh,e,c,d⟩
    replace h:=T _ h
    apply hk'
    refine aa.ite (b:=t) (by simp[hh,e,c,d]) (fun o=>?_) (fun o=>?_)
    ·replace h:=h.1 o
     refine zE fun k' hk'=>?_
     simp[hh,e,c,d,o]
     apply hk'
     exact aa.aV (v:=bool false) Tryz.func121 Tryz.results121 (by simp[hh,e,c,d,o]) (hQ _ _ _ _ (.of (.v _)) ⟨false,h,rfl⟩)
    replace h:=h.2 o
    refine aa.skip ?_
    refine aa.inBlock ?_
    refine zF fun k' hk'=>?_
    obtain⟨U,h⟩:=h
    obtain⟨V,W,h⟩:=atm h
    have f33:=aI U W
    simp[hh,e,c,d,f33,o,-ai]
    apply hk'
    refine I (V) _ _ _ h (by refine⟨?_,?_,?_,?_⟩<;>simp[hh,e,c,d,o])
   replace h:=R
   obtain⟨X,h⟩:=h
   obtain⟨Y,ab,h⟩:=atm h
   simp[hh,e,c,d,g]
   refine aG.aB ae (zD agent C X) e46 (.cons (bg false agent) (.cons (.v _ _ _) .nil)) (by decide) (by decide) rfl (by simp[hh,e,c,d,g]) ?_
   rintro _ rfl
   rw[← ab]
   rcases Bool.eq_false_or_eq_true Y with l | l
   ·replace h:=h.1 l
    obtain⟨ac,h⟩:=h
    obtain⟨E,ad,h⟩:=atm h
    have f38:=fun H=>AR (H:=H) (fr:=false) (f:=al) (lo:=none) (hi:=some (int q)) (a:=0) (b:=q) (by simp[ch]) (by simp[ch]) aO (fun _=>rfl) ac ad
    obtain⟨af,h⟩:=h
    obtain⟨am,an,h⟩:=atm h
    simp[hh,e,c,d,f38,g,l,-dB]
    refine aG.aB ae (qB E C af) e47 (.cons (cY false E) (.cons (.v _ _ _) .nil)) (by decide) (by decide) rfl (by simp[hh,e,c,d,f38,g,l,-dB]) ?_
    rintro _ rfl
    rw[← an]
    simp[hh,e,c,d,f38,g,l,-dB]
    exact D (am) _ _ _ h (by refine⟨?_,?_,?_,?_⟩<;>simp[hh,e,c,d,f38,g,l,-dB])
   replace h:=h.2 l
   simp[hh,e,c,d,g,l]
   exact D (true) _ _ _ h (by refine⟨?_,?_,?_,?_⟩<;>simp[hh,e,c,d,g,l])
  replace h:=h.2 g
  refine aa.exit rfl ?_
  refine aa.seq ?_
  refine zE fun k' hk'=>?_
  obtain⟨F,h⟩:=h
  obtain⟨ao,ap,h⟩:=atm h
  simp[hh,e,c,d,g]
  refine aG.lW ae (di false m.roots (fun z=>fc z agent m) F.1 (fun z hz=>xb z agent m c d (F.2 z hz))) DQ (by decide) (by decide) rfl (by simp[hh,e,c,d,g]) ?_
  rintro _ rfl
  rw[← ap]
  simp[hh,e,c,d,g]
  apply hk'
  refine aa.ite (b:=ao) (by simp[hh,e,c,d,g]) (fun i=>?_) (fun i=>?_)
  ·replace h:=h.1 i
   refine zE fun k' hk'=>?_
   simp[hh,e,c,d,g,i]
   apply hk'
   exact aa.aV (v:=bool false) Tryz.func121 Tryz.results121 (by simp[hh,e,c,d,g,i]) (hQ _ _ _ _ (.of (.v _)) ⟨false,h,rfl⟩)
  replace h:=h.2 i
  refine aa.skip ?_
  refine aa.seq ?_
  refine zE fun k' hk'=>?_
  obtain⟨aM,h⟩:=h
  obtain⟨u,a0,h⟩:=atm h
  simp[hh,e,c,d,g,i]
  refine aG.aB ae (uJ redex agent m aM) IL (.cons (bg false redex) (.cons (bg false agent) (.cons (eY false m) .nil))) (by decide) (by decide) rfl (by simp[hh,e,c,d,g,i]) ?_
  rintro _ rfl
  rw[← a0]
  simp[hh,e,c,d,g,i]
  apply hk'
  refine aa.ite (b:=(!u)) (by simp[hh,e,c,d,g,i]) (fun j=>?_) (fun j=>?_)
  ·have j:u=false:=by simpa using j
   replace h:=h.2 j
   refine zE fun k' hk'=>?_
   simp[hh,e,c,d,g,i,j]
   apply hk'
   exact aa.aV (v:=bool false) Tryz.func121 Tryz.results121 (by simp[hh,e,c,d,g,i,j]) (hQ _ _ _ _ (.of (.v _)) ⟨false,h,rfl⟩)
  have j:u=true:=by simpa using j
  replace h:=h.1 j
  refine aa.skip ?_
  refine zE fun k' hk'=>?_
  obtain⟨a1,h⟩:=h
  obtain⟨A,a2,h⟩:=atm h
  simp[hh,e,c,d,g,i,j]
  refine aG.aB ae ((sN redex agent m.nodes a1).pure) I0 (.cons (bg false redex) (.cons (bg false agent) (.cons (cY false m.nodes) .nil))) (by decide) (by decide) rfl (by simp[hh,e,c,d,g,i,j]) ?_
  rintro _ rfl
  rw[← a2]
  simp[hh,e,c,d,g,i,j]
  apply hk'
  refine aa.cut (fun ρ H n=>ρ 10=bool A.2) (by simp[hh,e,c,d,g,i,j]) ?_
  clear hh e c d
  rintro ρ H bs hh
  refine zE fun k' hk'=>?_
  simp[hh]
  apply hk'
  exact aa.aV (v:=bool A.2) Tryz.func121 Tryz.results121 (by simp[hh]) (hQ _ _ _ _ (.of (.v _)) ⟨A.2,h,rfl⟩)
 replace h:=hJ7
 obtain⟨bv,a3,h⟩:=atm h
 have f49:=fun H=>ax (H:=H) (fr:=false) (f:=al) aO a3
 obtain⟨b0,a4,h⟩:=atm h
 have f51:=fun H=>ax (H:=H) (fr:=false) (f:=(aj.cells false)) bj a4
 obtain⟨a5,a9,h⟩:=atm h
 have f53:=dz (k:=.i64) a9
 rcases Bool.eq_false_or_eq_true a5 with p | p
 ·replace h:=h.1 p
  simp[hh,e,c,d,f49,f51,f53,p,-ai,-aH]
  exact B (true) _ _ _ h (by refine⟨?_,?_,?_,?_⟩<;>simp[hh,e,c,d,f49,f51,f53,p,-ai,-aH])
 replace h:=h.2 p
 obtain⟨b1,bd,h⟩:=atm h
 have f55:=fun H=>ax (H:=H) (fr:=false) (f:=al) aO bd
 obtain⟨be,bi,h⟩:=atm h
 have f57:=dz (k:=.i64) bi
 simp[hh,e,c,d,f49,f51,f53,f55,f57,p,-ai,-aH]
 exact B (be) _ _ _ h (by refine⟨?_,?_,?_,?_⟩<;>simp[hh,e,c,d,f49,f51,f53,f55,f57,p,-ai,-aH])
theorem Af (redex:Big) (agent:Big) (m:Match) (hp:jr redex agent m):aq Tryz.prog 121 [.agg (bC false redex),.agg (bC false agent),.agg (mC false m)] (fun r=>r=bool (isMatch redex agent m)):=(u0 redex agent m _ (zj redex agent m hp)).mono (by rintro _ ⟨_,rfl,rfl⟩;rfl)
theorem I1:Ent Tryz.prog 120:=Ent.of Tryz.func120 (by kernel_rfl) rfl
theorem ql (sig:List Control) (redex:Big) (agent:Big) (Z:Bool→Prop) (h:fO sig redex agent Z):aq Tryz.prog 120 [.list false (sig.map Control.cells),.agg (bC false redex),.agg (bC false agent)] (fun r=>∃ y:Bool,Z y∧r=bool y):=by
 unfold fO at h
 refine aq.of Tryz.func120 rfl Tryz.ntmps120 (by simp) fun Q hQ=>?_
 refine aa.cut (fun ρ H n=>(ρ 0 = .list false (sig.map Control.cells)∧ρ 1 = .agg (bC false redex)∧ρ 2 = .agg (bC false agent))) (by simp) ?_
 rintro ρ H n1 hh
 refine zE fun k' hk'=>?_
 simp[hh]
 apply hk'
 refine aa.cut (fun ρ H n=>(ρ 0 = .list false (sig.map Control.cells)∧ρ 4=pA n1 4∧ρ 5=pA (n1+1) 5)∧H (n1,4)=some ⟨6,[bC false redex]⟩∧H (n1+1,5)=some ⟨6,[bC false agent]⟩) (by refine⟨?_,?_,?_⟩<;>simp[hh]) ?_
 clear hh
 rintro ρ H n4 ⟨hh,b,c⟩
 refine zE fun k' hk'=>?_
 obtain⟨J5,hJ6,hr7⟩:=h
 have fin9:∀ (sJ:Bool) (ρ:Env) (H:ak) (n:Nat),J5 sJ→(match sJ with | b8=>ρ 6=bool b8)→aa Tryz.prog 120 19 k' ρ H n Q:=by
  rintro b8 ρ H u h hh
  replace h:=hr7 _ h
  apply hk'
  exact aa.aV (v:=bool b8) Tryz.func120 Tryz.results120 (by simp[hh]) (hQ _ _ _ _ (.of (.v _)) ⟨b8,h,rfl⟩)
 replace h:=hJ6
 obtain⟨e,h⟩:=h
 obtain⟨g,i,h⟩:=atm h
 simp[hh,b,c]
 refine aG.aB ae (kv sig redex e) Gs (.cons (iR false sig) (.cons (bg false redex) .nil)) (by decide) (by decide) rfl (by simp[hh,b,c]) ?_
 rintro _ rfl
 rw[← i]
 rcases Bool.eq_false_or_eq_true g with a | a
 ·replace h:=h.1 a
  obtain⟨j,h⟩:=h
  obtain⟨l,o,h⟩:=atm h
  simp[hh,b,c,a]
  refine aG.aB ae (AE redex j) IJ (.cons (bg false redex) .nil) (by decide) (by decide) rfl (by simp[hh,b,c,a]) ?_
  rintro _ rfl
  rw[← o]
  rcases Bool.eq_false_or_eq_true l with d | d
  ·replace h:=h.1 d
   obtain⟨p,h⟩:=h
   obtain⟨q,t,h⟩:=atm h
   simp[hh,b,c,a,d]
   refine aG.aB ae (C6 sig agent p) e45 (.cons (iR false sig) (.cons (bg false agent) .nil)) (by decide) (by decide) rfl (by simp[hh,b,c,a,d]) ?_
   rintro _ rfl
   rw[← t]
   simp[hh,b,c,a,d]
   exact fin9 (q) _ _ _ h (by simp[hh,b,c,a,d])
  replace h:=h.2 d
  simp[hh,b,c,a,d]
  exact fin9 (false) _ _ _ h (by simp[hh,b,c,a,d])
 replace h:=h.2 a
 simp[hh,b,c,a]
 exact fin9 (false) _ _ _ h (by simp[hh,b,c,a])
theorem sT (sig:List Control) (redex:Big) (agent:Big) (hp:iD sig redex agent):aq Tryz.prog 120 [.list false (sig.map Control.cells),.agg (bC false redex),.agg (bC false agent)] (fun r=>r=bool (nw sig redex agent)):=(ql sig redex agent _ (sU sig redex agent hp)).mono (by rintro _ ⟨_,rfl,rfl⟩;rfl)
theorem e74:Ent Tryz.prog 74:=Ent.of Tryz.func74 (by kernel_rfl) rfl
theorem rv (sig:List Control) (redex:Big) (agent:Big) (m:Match) (Z:Bool→Prop) (h:gG sig redex agent m Z):aq Tryz.prog 74 [.list false (sig.map Control.cells),.agg (bC false redex),.agg (bC false agent),.agg (mC false m)] (fun r=>∃ y:Bool,Z y∧r=bool y):=by
 unfold gG at h
 refine aq.of Tryz.func74 rfl Tryz.ntmps74 (by simp) fun Q hQ=>?_
 refine aa.cut (fun ρ H n=>(ρ 0 = .list false (sig.map Control.cells)∧ρ 1 = .agg (bC false redex)∧ρ 2 = .agg (bC false agent)∧ρ 3 = .agg (mC false m))) (by simp) ?_
 rintro ρ H n1 hh
 refine zE fun k' hk'=>?_
 simp[hh]
 apply hk'
 refine aa.cut (fun ρ H n=>(ρ 0 = .list false (sig.map Control.cells)∧ρ 5=pA n1 5∧ρ 6=pA (n1+1) 6∧ρ 7=pA (n1+2) 7)∧H (n1,5)=some ⟨6,[bC false redex]⟩∧H (n1+1,6)=some ⟨6,[bC false agent]⟩∧H (n1+2,7)=some ⟨2,[mC false m]⟩) (by refine⟨?_,?_,?_,?_⟩<;>simp[hh]) ?_
 clear hh
 rintro ρ H n5 ⟨hh,b,c,d⟩
 refine zE fun k' hk'=>?_
 obtain⟨J6,hJ7,hr8⟩:=h
 have e:∀ (sJ:Bool) (ρ:Env) (H:ak) (n:Nat),J6 sJ→(match sJ with | b9=>ρ 8=bool b9)→aa Tryz.prog 74 19 k' ρ H n Q:=by
  rintro b9 ρ H q h hh
  replace h:=hr8 _ h
  apply hk'
  exact aa.aV (v:=bool b9) Tryz.func74 Tryz.results74 (by simp[hh]) (hQ _ _ _ _ (.of (.v _)) ⟨b9,h,rfl⟩)
 replace h:=hJ7
 obtain⟨g,h⟩:=h
 obtain⟨i,j,h⟩:=atm h
 simp[hh,b,c,d]
 refine aG.aB ae (sT sig redex agent g) I1 (.cons (iR false sig) (.cons (bg false redex) (.cons (bg false agent) .nil))) (by decide) (by decide) rfl (by simp[hh,b,c,d]) ?_
 rintro _ rfl
 rw[← j]
 rcases Bool.eq_false_or_eq_true i with a | a
 ·replace h:=h.1 a
  obtain⟨l,h⟩:=h
  obtain⟨o,p,h⟩:=atm h
  simp[hh,b,c,d,a]
  refine aG.aB ae (Af redex agent m l) Ic (.cons (bg false redex) (.cons (bg false agent) (.cons (eY false m) .nil))) (by decide) (by decide) rfl (by simp[hh,b,c,d,a]) ?_
  rintro _ rfl
  rw[← p]
  simp[hh,b,c,d,a]
  exact e (o) _ _ _ h (by simp[hh,b,c,d,a])
 replace h:=h.2 a
 simp[hh,b,c,d,a]
 exact e (false) _ _ _ h (by simp[hh,b,c,d,a])
theorem vF (sig:List Control) (redex:Big) (agent:Big) (m:Match) (hp:jA sig redex agent m):aq Tryz.prog 74 [.list false (sig.map Control.cells),.agg (bC false redex),.agg (bC false agent),.agg (mC false m)] (fun r=>r=bool (ig sig redex agent m)):=(rv sig redex agent m _ (uZ sig redex agent m hp)).mono (by rintro _ ⟨_,rfl,rfl⟩;rfl)
end Go.Ab.Vg
