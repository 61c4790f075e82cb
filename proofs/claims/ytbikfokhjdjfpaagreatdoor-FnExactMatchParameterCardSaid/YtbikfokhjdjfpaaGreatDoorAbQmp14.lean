/- Merged texts (14 of 17) of the proof that ends in Mpy: Naw Sh. -/
import Derived.Test.YtbikfokhjdjfpaaGreatDoorAbQmp13
/- Walks by program for YtbikfokhjdjfpaaGreatDoorAbNa. -/
namespace Go.Ab.Vg
open Go.Proofs
set_option maxRecDepth 100000
set_option linter.unusedSimpArgs false
set_option linter.unusedVariables false
attribute [local simp] Control.cells aj.cells aA.cells al bO gp aL bC mC pA
theorem e82:Ent Tryz.prog 82:=Ent.of Tryz.func82 (by kernel_rfl) rfl
theorem zo (l:List Int) (h:l.length≤1073741824):eb Tryz.prog 82 (fun v=>[v]) (.s [.c]) (.list true (l.map al)) (fun e r=>e = .list true ((j9 l).1.map al)∧r = .tup []):=eb.Hq (by omega) (fun blk off cap w hH hb=>Tryz.slices_Sort_int blk off cap l w hH hb (by omega)) (fun w=>(Tryz.slices_Sort_int_none none 0 w).mono (by rintro e w' ⟨h1,h2⟩;exact⟨h1,h2 ▸ Go.RowKit.Below.refl _ _⟩))
theorem IN:Ent Tryz.prog 168:=Ent.of Tryz.func168 (by kernel_rfl) rfl
theorem sY (l:List Int) (h:l.length≤1073741824):o8 Tryz.prog 168 (fun v=>[v]) (.s [.c]) (.list true (l.map al)) (.s [.c]) (fun e=>e = .list true ((fg l).map al)):=o8.ED (qh l) (fun blk off cap w hH hc=>Tryz.slices_Compact_int blk off cap l w hH (by omega) hc) (fun _ w=>Tryz.slices_Compact_int_empty none 0 w)
theorem IP:Ent Tryz.prog 169:=Ent.of Tryz.func169 (by kernel_rfl) rfl
theorem xu (s:List Str) (v_:Str) (Z:Bool→Prop) (h:mD s v_ Z):aq Tryz.prog 169 [.list false (s.map aL),str v_] (fun r=>∃ y:Bool,Z y∧r=bool y):=by
 unfold mD at h
 refine aq.of Tryz.func169 rfl Tryz.ntmps169 (by simp) fun Q hQ=>?_
 refine aa.cut (fun ρ H n=>(ρ 0 = .list false (s.map aL)∧ρ 1=str v_)) (by simp) ?_
 rintro ρ H n1 hh
 refine zE fun k' hk'=>?_
 simp[hh]
 apply hk'
 refine zE fun k' hk'=>?_
 obtain⟨hb2,h⟩:=h
 obtain⟨r3,er3,h⟩:=atm h
 simp[hh]
 refine aG.aB ae (tN s v_ hb2) Hl (.cons (o6 false s) (.cons (.v _ _ _) .nil)) (by decide) (by decide) rfl (by simp[hh]) ?_
 rintro _ rfl
 rw[← er3]
 obtain⟨c4,ec4,h⟩:=atm h
 have f5:=jz (k:=.i64) ec4
 simp[hh,f5,-ai]
 apply hk'
 exact aa.aV (v:=bool c4) Tryz.func169 Tryz.results169 (by simp[hh]) (hQ _ _ _ _ (.of (.v _)) ⟨c4,h,rfl⟩)
theorem Bj (s:List Str) (v_:Str) (hp:la s v_):aq Tryz.prog 169 [.list false (s.map aL),str v_] (fun r=>r=bool (ve s v_)):=(xu s v_ _ (BJ s v_ hp)).mono (by rintro _ ⟨_,rfl,rfl⟩;rfl)
theorem IX:Ent Tryz.prog 122:=Ent.of Tryz.func122 (by kernel_rfl) rfl
theorem pL (redex:Big) (agent:Big) (m:Match) (Z:((List Int) × (List Str) × Bool)→Prop) (h:fh redex agent m Z):a7 Tryz.prog 122 [.agg (bC false redex),.agg (bC false agent),.agg (mC false m)] (.t [.s [.c],.s [.c],.c]) (fun r=>∃ y:(List Int) × (List Str) × Bool,Z y∧r = .tup [.list true (y.1.map al),.list true (y.2.1.map aL),bool y.2.2]):=by
 unfold fh at h
 have sp:Sep bc 0 [] []:=Sep.nil (by simp)
 refine a7.of Tryz.func122 rfl Tryz.ntmps122 (by simp) fun Q hQ=>?_
 refine aa.cut (fun ρ H n=>(ρ 0 = .agg (bC false redex)∧ρ 1 = .agg (bC false agent)∧ρ 2 = .agg (mC false m))∧Sep H n [] []) (by refine⟨by simp ,sp⟩) ?_
 rintro ρ H n1 ⟨hh,sp⟩
 refine zE fun k' hk'=>?_
 simp[hh]
 apply hk'
 refine aa.cut (fun ρ H n=>((ρ 3=pA n1 3∧ρ 4=pA (n1+1) 4∧ρ 5=pA (n1+2) 5)∧H (n1,3)=some ⟨6,[bC false redex]⟩∧H (n1+1,4)=some ⟨6,[bC false agent]⟩∧H (n1+2,5)=some ⟨2,[mC false m]⟩)∧Sep H n [] [(n1+2,5),(n1+1,4),(n1,3)]) (by refine⟨by simp[hh],sp.var.var.var⟩) ?_
 clear hh
 rintro ρ H n5 ⟨⟨hh,d,e,p⟩,sp⟩
 refine zE fun k' hk'=>?_
 simp[hh,d,e,p]
 apply hk'
 refine aa.cut (fun ρ H n=>∃ (v8 v9:ag),((ρ 3=pA n1 3∧ρ 4=pA (n1+1) 4∧ρ 5=pA (n1+2) 5∧ρ 9=v9∧ρ 10=v8)∧H (n1,3)=some ⟨6,[bC false redex]⟩∧H (n1+1,4)=some ⟨6,[bC false agent]⟩∧H (n1+2,5)=some ⟨2,[mC false m]⟩)∧Sep H n [oS v8 ([]:List Str),oI v9 ([]:List Int)] [(n1+2,5),(n1+1,4),(n1,3)]) (by refine⟨.arr (n5+1,16) 0 0 0,.arr (n5,15) 0 0 0,by simp[hh,d,e,p],(Sep.addEmpty (l:=[.c]) (Sep.addEmpty (l:=[.c]) sp))⟩) ?_
 clear hh d e p
 rintro ρ H e7 ⟨v8,v9,⟨hh,d,e,p⟩,sp⟩
 refine aa.seq ?_
 refine zE fun k' hk'=>?_
 obtain⟨be,h⟩:=h
 obtain⟨j,bi,h⟩:=atm h
 simp[hh,d,e,p]
 refine aG.cd ae (lD agent m be) HO (.cons (bg false agent) (.cons (eY false m) .nil)) sp (by decide) (by decide) rfl (by simp[hh,d,e,p]) ?_
 rintro bk e8 n15 _ sp rfl fd Y
 rw[← bi] at sp
 have d:=(Y _ (by simp)).trans d
 have e:=(Y _ (by simp)).trans e
 have p:=(Y _ (by simp)).trans p
 obtain⟨G,bs,h⟩:=atm h
 have f21:=dT (Sep.len (m:=G) sp aO (by rw[bs,List.length_map]))
 simp[hh,d,e,p,f21,-aH]
 apply hk'
 refine aa.cut (fun ρ H n=>∃ (v22 I v24:ag),((ρ 3=pA n1 3∧ρ 4=pA (n1+1) 4∧ρ 9=v24∧ρ 10=I∧ρ 19=v22∧ρ 20=int G∧ρ 21=int 0)∧H (n1,3)=some ⟨6,[bC false redex]⟩∧H (n1+1,4)=some ⟨6,[bC false agent]⟩)∧Sep H n [oI v22 j,oS I ([]:List Str),oI v24 ([]:List Int)] [(n1+1,4),(n1,3)]) (by refine⟨bk,v8,v9,by simp[hh,d,e,p,f21,-aH],(Sep.sub sp (by simp +contextual))⟩) ?_
 clear hh d e p
 rintro ρ H n25 ⟨v22,I,v24,⟨hh,d,e⟩,sp⟩
 refine aa.block ?_
 refine aa.aw h (fun (sJ:Int × (List Int)) ρ H n=>match sJ with | (v37,ab)=>∃ (J v40 B:ag),((ρ 3=pA n1 3∧ρ 4=pA (n1+1) 4∧ρ 9=B∧ρ 10=v40∧ρ 19=J∧ρ 20=int G∧ρ 21=int v37)∧H (n1,3)=some ⟨6,[bC false redex]⟩∧H (n1+1,4)=some ⟨6,[bC false agent]⟩)∧Sep H n [oI J j,oS v40 ([]:List Str),oI B ab] [(n1+1,4),(n1,3)]) (by refine⟨v22,I,v24,by simp[hh,d,e],sp⟩) ?_
 clear hh d e
 rintro⟨v37,ab⟩ ρ H fl K h ⟨J,v40,B,⟨hh,d,e⟩,sp⟩ bv
 refine zE fun k' hk'=>?_
 obtain⟨b0,b1,h⟩:=atm h
 have f46:=aT (k:=.i64) b1
 simp[hh,d,e,f46,-ai]
 apply hk'
 refine aa.seq ?_
 refine aa.ite (b:=b0) (by simp[hh,d,e]) (fun u=>?_) (fun u=>?_)
 ·replace h:=h.1 u
  refine aa.skip ?_
  refine aa.seq ?_
  refine aa.block ?_
  refine zE fun k' hk'=>?_
  obtain⟨ac,h⟩:=h
  obtain⟨ad,hv,a1,fn,C⟩:=Sep.fC sp (by simp) ac
  subst hv
  simp at C
  obtain⟨fo,b2,h⟩:=atm h
  have f53:=fun H (hm:H ad=some ⟨1,j.map al⟩)=>cF (H:=H) (k:=.i64) (off:=0) (len:=j.length) (g:=j.length) aO hm (by simp) rfl ac
  have f54:=cH (q:=v37.toNat) ac b2 rfl
  simp[hh,d,e,a1,C,f53,f54,u,-ah]
  apply hk'
  refine zF fun k' hk'=>?_
  obtain⟨b3,h⟩:=h
  obtain⟨b5,b7,h⟩:=atm h
  have f57:=fun H=>aE (H:=H) (fr:=false) (f:=(aj.cells false)) (k:=.i64) bj (fun _=>rfl) b3 b7
  obtain⟨b8,h⟩:=h
  obtain⟨af,b9,h⟩:=atm h
  simp[hh,d,e,a1,C,f57,u,-ah,-ba]
  refine gU (b5.links.map al) sp.f2 (by simp) aO (by simp) (by simp) (by simp[dE]) (by simp[-ay,o1x]) (by simpa using b8) ?_
  rintro a2 cc ce sp a3 fs
  replace sp:Sep cc ce [oI a2 af,oI (.arr ad j.length 0 j.length) j,oS v40 ([]:List Str)] [(n1+1,4),(n1,3)]:=by refine Sep.ap b9 ?_;exact sp
  have d:=(a3 _ (by simp)).trans d
  have e:=(a3 _ (by simp)).trans e
  simp[hh,d,e,C,f57,u,-ah]
  apply hk'
  refine aa.cut (fun ρ H n=>∃ (L M N:ag),((ρ 3=pA n1 3∧ρ 4=pA (n1+1) 4∧ρ 9=L∧ρ 10=N∧ρ 19=M∧ρ 20=int G∧ρ 21=int v37)∧H (n1,3)=some ⟨6,[bC false redex]⟩∧H (n1+1,4)=some ⟨6,[bC false agent]⟩)∧Sep H n [oI L af,oI M j,oS N ([]:List Str)] [(n1+1,4),(n1,3)]) (by refine⟨a2,.arr ad j.length 0 j.length,v40,by simp[hh,d,e,C,f57,u,-ah],sp⟩) ?_
  clear hh d e C
  rintro ρ H fz ⟨L,M,N,⟨hh,d,e⟩,sp⟩
  refine aa.inBlock ?_
  refine zF fun k' hk'=>?_
  obtain⟨ci,h⟩:=h
  obtain⟨cj,cl,h⟩:=atm h
  have f72:=aI ci cl
  simp[hh,d,e,f72,-ai]
  apply hk'
  refine bv (cj,af) _ _ _ h (by refine⟨M,N,L,by simp[hh,d,e],sp.f2.f2⟩)
 replace h:=h.2 u
 refine aa.exit rfl ?_
 refine zE fun k' hk'=>?_
 obtain⟨co,h⟩:=h
 obtain⟨am,cs,h⟩:=atm h
 have f75:=Sep.oc sp.f2
 simp[hh,d,e,f75,u,-ar,-ay,cAx,o1x]
 refine aG.jh (v:=B) ae (zo ab co) e82 sp.f2 (by decide) (by decide) rfl (by simp[hh,d,e,f75,u,-ar,-ay,cAx,o1x]) ?_
 rintro _ c0 c1 _ ⟨rfl,rfl⟩ sp f0 a4
 rw[← cs] at sp
 replace sp:Sep c0 c1 [oI B am.1,oI J j,oS v40 ([]:List Str)] [(n1+1,4),(n1,3)]:=sp
 have d:=(a4 _ (by simp)).trans d
 have e:=(a4 _ (by simp)).trans e
 simp[hh,d,e,f75,u,-ar,-ay,cAx,o1x]
 apply hk'
 refine aa.cut (fun ρ H n=>∃ (O E:ag),((ρ 3=pA n1 3∧ρ 9=O∧ρ 10=E)∧H (n1,3)=some ⟨6,[bC false redex]⟩)∧Sep H n [oI O am.1,oS E ([]:List Str)] [(n1,3)]) (by refine⟨B,v40,by simp[hh,d,e,f75,u,-ar,-ay,cAx,o1x],(Sep.sub sp.f1.dr (by simp +contextual))⟩) ?_
 clear hh d e
 rintro ρ H f3 ⟨O,E,⟨hh,d⟩,sp⟩
 refine zE fun k' hk'=>?_
 obtain⟨c2,h⟩:=h
 obtain⟨A,c3,h⟩:=atm h
 simp[hh,d]
 refine aG.EO (v:=O) ae (sY am.1 c2) IN sp (by decide) (by decide) rfl (by simp[hh,d]) ?_
 rintro a5 c4 c6 _ rfl sp f4 c8
 rw[← c3] at sp
 replace sp:Sep c4 c6 [oI a5 A,oS E ([]:List Str)] [(n1,3)]:=sp
 have d:=(c8 _ (by simp)).trans d
 simp[hh,d]
 apply hk'
 refine aa.cut (fun ρ H n=>∃ (v93 R:ag),((ρ 3=pA n1 3∧ρ 9=v93∧ρ 10=R)∧H (n1,3)=some ⟨6,[bC false redex]⟩)∧Sep H n [oI v93 A,oS R ([]:List Str)] [(n1,3)]) (by refine⟨a5,E,by simp[hh,d],sp⟩) ?_
 clear hh d
 rintro ρ H f5 ⟨v93,R,⟨hh,d⟩,sp⟩
 refine aa.seq ?_
 refine zE fun k' hk'=>?_
 simp[hh,d]
 apply hk'
 refine aa.block ?_
 refine aa.aw h (fun (sJ:Int × (List Str)) ρ H n=>match sJ with | (T,D)=>∃ (v107 F:ag),((ρ 3=pA n1 3∧ρ 9=v107∧ρ 10=F∧ρ 13 = .v (.int .i32 T))∧H (n1,3)=some ⟨6,[bC false redex]⟩)∧Sep H n [oI v107 A,oS F D] [(n1,3)]) (by refine⟨v93,R,by simp[hh,d],sp⟩) ?_
 clear hh d
 rintro⟨T,D⟩ ρ H n109 K h ⟨v107,F,⟨hh,d⟩,sp⟩ a9
 refine aa.seq ?_
 refine zE fun k' hk'=>?_
 obtain⟨c9,da,h⟩:=atm h
 have f113:=dT (Sep.len (m:=c9) sp.f1 cy (by rw[da,List.length_map]))
 obtain⟨dc,dl,h⟩:=atm h
 have f115:=dT (Sep.len (m:=dc) sp aO (by rw[dl,List.length_map]))
 obtain⟨ds,d0,h⟩:=atm h
 have f117:=aT (k:=.i64) d0
 simp[hh,d,f113,f115,f117,-ai,-aH]
 apply hk'
 refine aa.ite (b:=ds) (by simp[hh,d]) (fun i=>?_) (fun i=>?_)
 ·replace h:=h.1 i
  refine aa.skip ?_
  refine aa.seq ?_
  refine aa.block ?_
  refine zE fun k' hk'=>?_
  simp[hh,d,i]
  refine aG.fB (k1:=.i32) (a:=T) ae (by decide) (by decide) FG Fs (by simp[hh,d,i]) ?_
  obtain⟨f6,d1,h⟩:=atm h
  rw[← d1]
  obtain⟨d2,h⟩:=h
  obtain⟨an,d3,h⟩:=atm h
  have f121:=Dm d2 d3
  simp[hh,d,f121,i,-et]
  apply hk'
  refine zE fun k' hk'=>?_
  obtain⟨d4,h⟩:=h
  obtain⟨ao,d5,h⟩:=atm h
  simp[hh,d,i]
  refine aG.aB ae (Bj redex.outer an d4) IP (.cons (o6 false redex.outer) (.cons (.v _ _ _) .nil)) (by decide) (by decide) rfl (by simp[hh,d,i]) ?_
  rintro _ rfl
  rw[← d5]
  simp[hh,d,i]
  apply hk'
  refine aa.ite (b:=(!ao)) (by simp[hh,d,i]) (fun o=>?_) (fun o=>?_)
  ·have o:ao=false:=by simpa using o
   replace h:=h.2 o
   refine zF fun k' hk'=>?_
   obtain⟨d6,h⟩:=h
   obtain⟨aM,d7,h⟩:=atm h
   simp[hh,d,i,o,-ba]
   refine a8 [] [oI v107 A] [[str an]] [aL an] sp.f1 cy (by simp) (by simp) (by simp) (by simp[-ay,o1x]) (bz (az.v _ az.nil)) (by simp) (by simpa using d6) ?_
   rintro bd d8 n128 sp d9 f7
   replace sp:Sep d8 n128 [oS bd aM,oI v107 A] [(n1,3)]:=Sep.ap d7 sp
   have d:=(d9 _ (by simp)).trans d
   simp[hh,d,i,o]
   apply hk'
   refine aa.cut (fun ρ H n=>∃ (U V:ag),((ρ 3=pA n1 3∧ρ 9=V∧ρ 10=U∧ρ 13 = .v (.int .i32 T))∧H (n1,3)=some ⟨6,[bC false redex]⟩)∧Sep H n [oS U aM,oI V A] [(n1,3)]) (by refine⟨bd,v107,by simp[hh,d,i,o],sp⟩) ?_
   clear hh d
   rintro ρ H n134 ⟨U,V,⟨hh,d⟩,sp⟩
   refine aa.inBlock ?_
   refine zF fun k' hk'=>?_
   obtain⟨el,h⟩:=h
   obtain⟨em,es,h⟩:=atm h
   have f137:=w6 el es
   simp[hh,d,f137,-ai]
   apply hk'
   refine a9 (em,aM) _ _ _ h (by refine⟨V,U,by simp[hh,d],sp.f1⟩)
  have o:ao=true:=by simpa using o
  replace h:=h.1 o
  refine aa.skip ?_
  refine aa.inBlock ?_
  refine zF fun k' hk'=>?_
  obtain⟨ev,h⟩:=h
  obtain⟨v139,ex,h⟩:=atm h
  have f140:=w6 ev ex
  simp[hh,d,f140,i,o,-ai]
  apply hk'
  refine aa.cut (fun ρ H n=>∃ (v141 W:ag),((ρ 3=pA n1 3∧ρ 9=v141∧ρ 10=W∧ρ 13 = .v (.int .i32 v139))∧H (n1,3)=some ⟨6,[bC false redex]⟩)∧Sep H n [oI v141 A,oS W D] [(n1,3)]) (by refine⟨v107,F,by simp[hh,d,f140,i,o,-ai],sp⟩) ?_
  clear hh d
  rintro ρ H n143 ⟨v141,W,⟨hh,d⟩,sp⟩
  refine a9 (v139,D) _ _ _ h (by refine⟨v141,W,by simp[hh,d],sp⟩)
 replace h:=h.2 i
 refine aa.exit rfl ?_
 refine aa.eo ae aD bU (by decide) (by kernel_rfl) fun k' hk'=>?_
 obtain⟨ey,e0,h⟩:=atm h
 have f145:=dT (Sep.len (m:=ey) sp aO (by rw[e0,List.length_map]))
 obtain⟨f8,e1,h⟩:=atm h
 have f147:=fun H=>ax (H:=H) (fr:=false) (f:=aL) cy e1
 obtain⟨e2,h⟩:=h
 obtain⟨f9,e3,h⟩:=atm h
 have f150:=aI e2 e3
 obtain⟨a0,e4,h⟩:=atm h
 have f152:=FX (k:=.i64) e4
 simp[hh,d,f145,f147,f150,f152,i,-ai,-aH]
 apply hk'
 refine aa.cut (fun ρ H n=>∃ (X v154:ag),(ρ 6=X∧ρ 7=v154∧ρ 8=bool a0)∧Sep H n [oI X A,oS v154 D] []) (by refine⟨v107,F,by simp[hh,d,f145,f147,f150,f152,i,-ai,-aH],(Sep.sub sp (by simp +contextual))⟩) ?_
 clear hh d
 rintro ρ H n155 ⟨X,v154,hh,sp⟩
 exact aa.DW (v:=X) (w:=v154) (z:=bool a0) Tryz.func122 Tryz.results122 (by simp[hh]) (by simp[hh]) (by simp[hh]) (hQ _ _ _ _ (Sep.sub (ids':=[]) (Sep.fy (az.own (az.own (az.v _ az.nil))) sp) (by simp)) ⟨(A,D,a0),h,rfl⟩)
theorem rq (redex:Big) (agent:Big) (m:Match) (hp:dI redex agent m):a7 Tryz.prog 122 [.agg (bC false redex),.agg (bC false agent),.agg (mC false m)] (.t [.s [.c],.s [.c],.c]) (fun r=>r = .tup [.list true (((eg redex agent m).1).map al),.list true (((eg redex agent m).2.1).map aL),bool ((eg redex agent m).2.2)]):=(pL redex agent m _ (rr redex agent m hp)).mono (by rintro _ ⟨_,rfl,rfl⟩;rfl)
theorem G5:Ent Tryz.prog 117:=Ent.of Tryz.func117 (by kernel_rfl) rfl
theorem pq (agent:Big) (m:Match) (Z:(List Bool)→Prop) (h:ff agent m Z):a7 Tryz.prog 117 [.agg (bC false agent),.agg (mC false m)] (.s [.c]) (fun r=>∃ y:List Bool,Z y∧r = .list true (y.map av)):=by
 unfold ff at h
 have sp:Sep bc 0 [] []:=Sep.nil (by simp)
 refine a7.of Tryz.func117 rfl Tryz.ntmps117 (by simp) fun Q hQ=>?_
 refine aa.cut (fun ρ H n=>(ρ 0 = .agg (bC false agent)∧ρ 1 = .agg (mC false m))∧Sep H n [] []) (by refine⟨by simp ,sp⟩) ?_
 rintro ρ H n1 ⟨hh,sp⟩
 refine zE fun k' hk'=>?_
 simp[hh]
 apply hk'
 refine aa.cut (fun ρ H n=>((ρ 2=pA n1 2∧ρ 3=pA (n1+1) 3)∧H (n1,2)=some ⟨6,[bC false agent]⟩∧H (n1+1,3)=some ⟨2,[mC false m]⟩)∧Sep H n [] [(n1+1,3),(n1,2)]) (by refine⟨by simp[hh],sp.var.var⟩) ?_
 clear hh
 rintro ρ H n4 ⟨⟨hh,a,d⟩,sp⟩
 refine zE fun k' hk'=>?_
 simp[hh,a,d,av]
 apply hk'
 refine aa.cut (fun ρ H n=>∃ (v6:ag),((ρ 2=pA n1 2∧ρ 3=pA (n1+1) 3∧ρ 5=v6)∧H (n1,2)=some ⟨6,[bC false agent]⟩∧H (n1+1,3)=some ⟨2,[mC false m]⟩)∧Sep H n [oE [.c] av v6 ([]:List Bool)] [(n1+1,3),(n1,2)]) (by refine⟨.arr (n4,7) 0 0 0,by simp[hh,a,d,av],(Sep.addEmpty (l:=[.c]) sp)⟩) ?_
 clear hh a d
 rintro ρ H n7 ⟨v6,⟨hh,a,d⟩,sp⟩
 refine aa.seq ?_
 refine zE fun k' hk'=>?_
 simp[hh,a,d,av]
 apply hk'
 refine aa.block ?_
 refine aa.aw h (fun (sJ:Int × (List Bool)) ρ H n=>match sJ with | (i15,p)=>∃ (i:ag),((ρ 2=pA n1 2∧ρ 3=pA (n1+1) 3∧ρ 5=i∧ρ 6=int i15)∧H (n1,2)=some ⟨6,[bC false agent]⟩∧H (n1+1,3)=some ⟨2,[mC false m]⟩)∧Sep H n [oE [.c] av i p] [(n1+1,3),(n1,2)]) (by refine⟨v6,by simp[hh,a,d,av],sp⟩) ?_
 clear hh a d
 rintro⟨i15,p⟩ ρ H n18 K h ⟨i,⟨hh,a,d⟩,sp⟩ u
 refine aa.seq ?_
 refine zE fun k' hk'=>?_
 obtain⟨an,F,h⟩:=atm h
 have f22:=fun H=>ax (H:=H) (fr:=false) (f:=(aj.cells false)) bj F
 obtain⟨G,I,h⟩:=atm h
 have f24:=aT (k:=.i64) I
 simp[hh,a,d,f22,f24,av,-ai,-aH]
 apply hk'
 refine aa.ite (b:=G) (by simp[hh,a,d,av]) (fun e=>?_) (fun e=>?_)
 ·replace h:=h.1 e
  refine aa.skip ?_
  refine aa.seq ?_
  refine aa.block ?_
  refine zF fun k' hk'=>?_
  obtain⟨J,h⟩:=h
  obtain⟨L,M,h⟩:=atm h
  simp[hh,a,d,e,av]
  refine aG.aB ae (jW m.nodes i15 J) Dz (.cons (cY false m.nodes) (.cons (.v _ _ _) .nil)) (by decide) (by decide) rfl (by simp[hh,a,d,e,av]) ?_
  rintro _ rfl
  rw[← M]
  rcases Bool.eq_false_or_eq_true L with g | g
  ·replace h:=h.1 g
   obtain⟨N,h⟩:=h
   obtain⟨q,O,h⟩:=atm h
   simp[hh,a,d,e,g,av,-ba]
   refine a8 [] [] [[bool false]] [av false] sp nt (by simp) (by simp) (by simp[av]) (by simp[-ay,o1x]) (bz (az.v _ az.nil)) (by simp) (by simpa using N) ?_
   rintro A R n31 sp B ao
   replace sp:Sep R n31 [oE [.c] av A q] [(n1+1,3),(n1,2)]:=Sep.ap O sp
   have a:=(B _ (by simp)).trans a
   have d:=(B _ (by simp)).trans d
   simp[hh,a,d,e,g,av]
   apply hk'
   refine aa.cut (fun ρ H n=>∃ (j:ag),((ρ 2=pA n1 2∧ρ 3=pA (n1+1) 3∧ρ 5=j∧ρ 6=int i15)∧H (n1,2)=some ⟨6,[bC false agent]⟩∧H (n1+1,3)=some ⟨2,[mC false m]⟩)∧Sep H n [oE [.c] av j q] [(n1+1,3),(n1,2)]) (by refine⟨A,by simp[hh,a,d,e,g,av],sp⟩) ?_
   clear hh a d
   rintro ρ H n36 ⟨j,⟨hh,a,d⟩,sp⟩
   refine aa.inBlock ?_
   refine zF fun k' hk'=>?_
   obtain⟨T,h⟩:=h
   obtain⟨U,V,h⟩:=atm h
   have f39:=aI T V
   simp[hh,a,d,f39,av,-ai]
   apply hk'
   refine u (U,q) _ _ _ h (by refine⟨j,by simp[hh,a,d,av],sp⟩)
  replace h:=h.2 g
  obtain⟨W,h⟩:=h
  obtain⟨C,X,h⟩:=atm h
  simp[hh,a,d,e,g,av]
  refine aG.aB ae (qj agent m i15 W) GK (.cons (bg false agent) (.cons (eY false m) (.cons (.v _ _ _) .nil))) (by decide) (by decide) rfl (by simp[hh,a,d,e,g,av]) ?_
  rintro _ rfl
  rw[← X]
  obtain⟨Y,h⟩:=h
  obtain⟨t,ab,h⟩:=atm h
  simp[hh,a,d,e,g,av,-ba]
  refine a8 [] [] [[bool C]] [av C] sp nt (by simp) (by simp) (by simp[av]) (by simp[-ay,o1x]) (bz (az.v _ az.nil)) (by simp) (by simpa using Y) ?_
  rintro D ac ad sp E aM
  replace sp:Sep ac ad [oE [.c] av D t] [(n1+1,3),(n1,2)]:=Sep.ap ab sp
  have a:=(E _ (by simp)).trans a
  have d:=(E _ (by simp)).trans d
  simp[hh,a,d,e,g,av]
  apply hk'
  refine aa.cut (fun ρ H n=>∃ (o:ag),((ρ 2=pA n1 2∧ρ 3=pA (n1+1) 3∧ρ 5=o∧ρ 6=int i15)∧H (n1,2)=some ⟨6,[bC false agent]⟩∧H (n1+1,3)=some ⟨2,[mC false m]⟩)∧Sep H n [oE [.c] av o t] [(n1+1,3),(n1,2)]) (by refine⟨D,by simp[hh,a,d,e,g,av],sp⟩) ?_
  clear hh a d
  rintro ρ H a0 ⟨o,⟨hh,a,d⟩,sp⟩
  refine aa.inBlock ?_
  refine zF fun k' hk'=>?_
  obtain⟨af,h⟩:=h
  obtain⟨v53,am,h⟩:=atm h
  have f54:=aI af am
  simp[hh,a,d,f54,av,-ai]
  apply hk'
  refine u (v53,t) _ _ _ h (by refine⟨o,by simp[hh,a,d,av],sp⟩)
 replace h:=h.2 e
 refine aa.exit rfl ?_
 refine zE fun k' hk'=>?_
 simp[hh,a,d,e,av]
 apply hk'
 exact aa.aV (v:=i) Tryz.func117 Tryz.results117 (by simp[hh,a,d,e,av]) (hQ _ _ _ _ (Sep.sub (ids':=[]) sp (by simp)) ⟨p,h,rfl⟩)
theorem mi (agent:Big) (m:Match) (hp:eG agent m):a7 Tryz.prog 117 [.agg (bC false agent),.agg (mC false m)] (.s [.c]) (fun r=>r = .list true ((bM agent m).map av)):=(pq agent m _ (rb agent m hp)).mono (by rintro _ ⟨_,rfl,rfl⟩;rfl)
theorem e95:Ent Tryz.prog 95:=Ent.of Tryz.func95 (by kernel_rfl) rfl
theorem wZ (b:Big) (link:Int) (kind:List Bool) (is:Bool) (Z:Int→Prop) (h:m0 b link kind is Z):aq Tryz.prog 95 [.agg (bC false b),int link,.list false (kind.map av),bool is] (fun r=>∃ y:Int,Z y∧r=int y):=by
 unfold m0 at h
 refine aq.of Tryz.func95 rfl Tryz.ntmps95 (by simp) fun Q hQ=>?_
 refine aa.cut (fun ρ H n=>(ρ 0 = .agg (bC false b)∧ρ 1=int link∧ρ 2 = .list false (kind.map av)∧ρ 3=bool is)) (by simp[av]) ?_
 rintro ρ H n1 hh
 refine zE fun k' hk'=>?_
 simp[hh,av]
 apply hk'
 refine aa.cut (fun ρ H n=>(ρ 1=int link∧ρ 2 = .list false (kind.map av)∧ρ 3=bool is∧ρ 4=pA n1 4)∧H (n1,4)=some ⟨6,[bC false b]⟩) (by refine⟨?_,?_⟩<;>simp[hh,av]) ?_
 clear hh
 rintro ρ H n3 ⟨hh,d⟩
 refine zE fun k' hk'=>?_
 obtain⟨hb4,h⟩:=h
 obtain⟨r5,er5,h⟩:=atm h
 simp[hh,d,av]
 refine aG.aB ae ((kP b link hb4).pure) Fv (.cons (bg false b) (.cons (.v _ _ _) .nil)) (by decide) (by decide) rfl (by simp[hh,d,av]) ?_
 rintro _ rfl
 rw[← er5]
 simp[hh,d,av]
 apply hk'
 refine aa.seq ?_
 refine zE fun k' hk'=>?_
 simp[hh,d,av]
 apply hk'
 refine aa.block ?_
 refine aa.aw h (fun (sJ:Int × Int) ρ H n=>match sJ with | (count9,i10)=>(ρ 2 = .list false (kind.map av)∧ρ 3=bool is∧ρ 9 = .list true (r5.map bO)∧ρ 10=int count9∧ρ 11=int i10)) (by simp[hh,d,av]) ?_
 clear hh d
 rintro⟨count9,i10⟩ ρ H M K h hh e
 refine aa.seq ?_
 refine zE fun k' hk'=>?_
 obtain⟨N,l,h⟩:=atm h
 have f15:=fun H=>ax (H:=H) (fr:=true) (f:=bO) gC l
 obtain⟨o,p,h⟩:=atm h
 have f17:=aT (k:=.i64) p
 simp[hh,f15,f17,av,-ai,-aH]
 apply hk'
 refine aa.ite (b:=o) (by simp[hh,av]) (fun a=>?_) (fun a=>?_)
 ·replace h:=h.1 a
  refine aa.skip ?_
  refine aa.seq ?_
  refine aa.block ?_
  refine zE fun k' hk'=>?_
  obtain⟨q,h⟩:=h
  obtain⟨g,t,h⟩:=atm h
  have f20:=fun H=>aE (H:=H) (fr:=true) (f:=bO) (k:=.i64) gC (fun _=>rfl) q t
  have f21:=fun H=>wW (H:=H) (k:=.i64) (i:=0) (fr:=true) (cs:=[int g.1,int g.2]) uh (by decide)
  obtain⟨u,h⟩:=h
  obtain⟨O,A,h⟩:=atm h
  have f24:=fun H=>aE (H:=H) (fr:=false) (f:=av) (k:=.i64) nt (fun _=>rfl) u A
  obtain⟨B,C,h⟩:=atm h
  have f26:=D7 C
  simp[hh,f20,f21,f24,f26,a,av,-dC,-ah]
  apply hk'
  refine aa.ite (b:=B) (by simp[hh,a,av]) (fun c=>?_) (fun c=>?_)
  ·replace h:=h.1 c
   refine zF fun k' hk'=>?_
   obtain⟨D,h⟩:=h
   obtain⟨v28,E,h⟩:=atm h
   have f29:=aI D E
   simp[hh,f29,a,c,av,-ai]
   apply hk'
   refine aa.cut (fun ρ H n=>(ρ 2 = .list false (kind.map av)∧ρ 3=bool is∧ρ 9 = .list true (r5.map bO)∧ρ 10=int v28∧ρ 11=int i10)) (by simp[hh,f29,a,c,av,-ai]) ?_
   clear hh
   rintro ρ H n30 hh
   refine aa.inBlock ?_
   refine zF fun k' hk'=>?_
   obtain⟨F,h⟩:=h
   obtain⟨G,I,h⟩:=atm h
   have f33:=aI F I
   simp[hh,f33,av,-ai]
   apply hk'
   refine e (v28,G) _ _ _ h (by simp[hh,av])
  replace h:=h.2 c
  refine aa.skip ?_
  refine aa.inBlock ?_
  refine zF fun k' hk'=>?_
  obtain⟨J,h⟩:=h
  obtain⟨j,L,h⟩:=atm h
  have f36:=aI J L
  simp[hh,f36,a,c,av,-ai]
  apply hk'
  refine aa.cut (fun ρ H n=>(ρ 2 = .list false (kind.map av)∧ρ 3=bool is∧ρ 9 = .list true (r5.map bO)∧ρ 10=int count9∧ρ 11=int j)) (by simp[hh,f36,a,c,av,-ai]) ?_
  clear hh
  rintro ρ H n37 hh
  refine e (count9,j) _ _ _ h (by simp[hh,av])
 replace h:=h.2 a
 refine aa.exit rfl ?_
 refine zE fun k' hk'=>?_
 simp[hh,a,av]
 apply hk'
 exact aa.aV (v:=int count9) Tryz.func95 Tryz.results95 (by simp[hh,a,av]) (hQ _ _ _ _ (.of (.v _)) ⟨count9,h,rfl⟩)
theorem Bz (b:Big) (link:Int) (kind:List Bool) (is:Bool) (hp:nz b link kind is):aq Tryz.prog 95 [.agg (bC false b),int link,.list false (kind.map av),bool is] (fun r=>r=int (jJ b link kind is)):=(wZ b link kind is _ (De b link kind is hp)).mono (by rintro _ ⟨_,rfl,rfl⟩;rfl)
theorem e96:Ent Tryz.prog 96:=Ent.of Tryz.func96 (by kernel_rfl) rfl
theorem tm (link:Int) (Z:Str→Prop) (h:js link Z):aq Tryz.prog 96 [int link] (fun r=>∃ y:Str,Z y∧r=str y):=by
 unfold js at h
 refine aq.of Tryz.func96 rfl Tryz.ntmps96 (by simp) fun Q hQ=>?_
 refine aa.cut (fun ρ H n=>ρ 0=int link) (by simp[]) ?_
 rintro ρ H n1 hh
 refine zE fun k' hk'=>?_
 simp[hh]
 apply hk'
 refine zE fun k' hk'=>?_
 obtain⟨hb2,h⟩:=h
 obtain⟨v3,ev3,h⟩:=atm h
 have f4:=aI hb2 ev3
 obtain⟨hb5,h⟩:=h
 obtain⟨s6,es6,h⟩:=atm h
 have f7:=fun H=>FR (H:=H) (lo:=some (int link)) (hi:=some (int v3)) (a:=link) (b:=v3) (by simp[ch]) (by simp[ch]) Fs hb5 es6
 simp[hh,f4,f7,-ai,-dB]
 apply hk'
 exact aa.aV (v:=str s6) Tryz.func96 Tryz.results96 (by simp[hh]) (hQ _ _ _ _ (.of (.v _)) ⟨s6,h,rfl⟩)
theorem wS (link:Int) (hp:kM link):aq Tryz.prog 96 [int link] (fun r=>r=str (lR link)):=(tm link _ (xn link hp)).mono (by rintro _ ⟨_,rfl,rfl⟩;rfl)
theorem Ir:Ent Tryz.prog 116:=Ent.of Tryz.func116 (by kernel_rfl) rfl
theorem tc (redex:Big) (agent:Big) (m:Match) (Z:((List Int) × (List Str) × Bool)→Prop) (h:ji redex agent m Z):a7 Tryz.prog 116 [.agg (bC false redex),.agg (bC false agent),.agg (mC false m)] (.t [.s [.c],.s [.c],.c]) (fun r=>∃ y:(List Int) × (List Str) × Bool,Z y∧r = .tup [.list true (y.1.map al),.list true (y.2.1.map aL),bool y.2.2]):=by
 unfold ji at h
 have sp:Sep bc 0 [] []:=Sep.nil (by simp)
 refine a7.of Tryz.func116 rfl Tryz.ntmps116 (by simp) fun Q hQ=>?_
 refine aa.cut (fun ρ H n=>(ρ 0 = .agg (bC false redex)∧ρ 1 = .agg (bC false agent)∧ρ 2 = .agg (mC false m))∧Sep H n [] []) (by refine⟨by simp ,sp⟩) ?_
 rintro ρ H n1 ⟨hh,sp⟩
 refine zE fun k' hk'=>?_
 simp[hh]
 apply hk'
 refine aa.cut (fun ρ H n=>((ρ 3=pA n1 3∧ρ 4=pA (n1+1) 4∧ρ 5=pA (n1+2) 5)∧H (n1,3)=some ⟨6,[bC false redex]⟩∧H (n1+1,4)=some ⟨6,[bC false agent]⟩∧H (n1+2,5)=some ⟨2,[mC false m]⟩)∧Sep H n [] [(n1+2,5),(n1+1,4),(n1,3)]) (by refine⟨by simp[hh],sp.var.var.var⟩) ?_
 clear hh
 rintro ρ H n5 ⟨⟨hh,a,d,j⟩,sp⟩
 refine zE fun k' hk'=>?_
 obtain⟨hb8,h⟩:=h
 obtain⟨r9,er9,h⟩:=atm h
 simp[hh,a,d,j]
 refine aG.cd ae (mi agent m hb8) G5 (.cons (bg false agent) (.cons (eY false m) .nil)) (Sep.addEmpty (l:=[.c]) (Sep.addEmpty (l:=[.c]) sp)) (by decide) (by decide) rfl (by simp[hh,a,d,j]) ?_
 rintro v10 V d7 _ sp rfl d8 W
 rw[← er9] at sp
 have a:V (n1,3)=some ⟨6,[bC false redex]⟩:=(W _ (by simp)).trans (by simp[hh,a,d,j,ak.aP])
 have d:V (n1+1,4)=some ⟨6,[bC false agent]⟩:=(W _ (by simp)).trans (by simp[hh,a,d,j,ak.aP])
 have j:V (n1+2,5)=some ⟨2,[mC false m]⟩:=(W _ (by simp)).trans (by simp[hh,a,d,j,ak.aP])
 simp[hh,a,d,j]
 apply hk'
 refine aa.cut (fun ρ H n=>∃ (F G I:ag),((ρ 3=pA n1 3∧ρ 4=pA (n1+1) 4∧ρ 9=I∧ρ 10=G∧ρ 11=F)∧H (n1,3)=some ⟨6,[bC false redex]⟩∧H (n1+1,4)=some ⟨6,[bC false agent]⟩)∧Sep H n [oE [.c] av F r9,oS G ([]:List Str),oI I ([]:List Int)] [(n1+1,4),(n1,3)]) (by refine⟨v10,.arr (n5+1,16) 0 0 0,.arr (n5,15) 0 0 0,by simp[hh,a,d,j],(Sep.sub sp (by simp +contextual))⟩) ?_
 clear hh a d j
 rintro ρ H n20 ⟨F,G,I,⟨hh,a,d⟩,sp⟩
 refine aa.seq ?_
 refine zE fun k' hk'=>?_
 simp[hh,a,d]
 apply hk'
 refine aa.block ?_
 refine aa.aw h (fun (sJ:Int × (List Int)) ρ H n=>match sJ with | (link32,i)=>∃ (A o C:ag),((ρ 3=pA n1 3∧ρ 4=pA (n1+1) 4∧ρ 9=C∧ρ 10=o∧ρ 11=A∧ρ 12=int link32)∧H (n1,3)=some ⟨6,[bC false redex]⟩∧H (n1+1,4)=some ⟨6,[bC false agent]⟩)∧Sep H n [oE [.c] av A r9,oS o ([]:List Str),oI C i] [(n1+1,4),(n1,3)]) (by refine⟨F,G,I,by simp[hh,a,d],sp⟩) ?_
 clear hh a d
 rintro⟨link32,i⟩ ρ H n37 K h ⟨A,o,C,⟨hh,a,d⟩,sp⟩ ac
 refine aa.seq ?_
 refine zE fun k' hk'=>?_
 obtain⟨d9,a0,h⟩:=atm h
 have f41:=fun H=>ax (H:=H) (fr:=false) (f:=aL) cy a0
 obtain⟨a1,h⟩:=h
 obtain⟨el,a2,h⟩:=atm h
 have f44:=aI a1 a2
 obtain⟨a3,a4,h⟩:=atm h
 have f46:=aT (k:=.i64) a4
 simp[hh,a,d,f41,f44,f46,-ai,-aH]
 apply hk'
 refine aa.ite (b:=a3) (by simp[hh,a,d]) (fun g=>?_) (fun g=>?_)
 ·replace h:=h.1 g
  refine aa.skip ?_
  refine aa.seq ?_
  refine aa.block ?_
  refine zE fun k' hk'=>?_
  obtain⟨a5,h⟩:=h
  obtain⟨em,a9,h⟩:=atm h
  simp[hh,a,d,g]
  refine aG.aB ae (Bz agent link32 r9 true a5) e95 (.cons (bg false agent) (.cons (.v _ _ _) (.cons (Sep.bb sp (aS (FE _))) (.cons (.v _ _ _) .nil)))) (by decide) (by decide) rfl (by simp[hh,a,d,g]) ?_
  rintro _ rfl
  rw[← a9]
  obtain⟨bd,be,h⟩:=atm h
  have f50:=iN (k:=.i64) be
  simp[hh,a,d,f50,g,-ai]
  apply hk'
  refine aa.ite (b:=bd) (by simp[hh,a,d,g]) (fun p=>?_) (fun p=>?_)
  ·replace h:=h.1 p
   refine zF fun k' hk'=>?_
   obtain⟨bi,h⟩:=h
   obtain⟨X,bk,h⟩:=atm h
   simp[hh,a,d,g,p,-ba]
   refine a8 [] [oE [.c] av A r9,oS o ([]:List Str)] [[int link32]] [al link32] sp.f2 aO (by simp) (by simp) (by simp) (by simp[-ay,o1x]) (bz (az.v _ az.nil)) (by simp) (by simpa using bi) ?_
   rintro v53 bs bv sp ad es
   replace sp:Sep bs bv [oI v53 X,oE [.c] av A r9,oS o ([]:List Str)] [(n1+1,4),(n1,3)]:=Sep.ap bk sp
   have a:=(ad _ (by simp)).trans a
   have d:=(ad _ (by simp)).trans d
   simp[hh,a,d,g,p]
   apply hk'
   refine aa.cut (fun ρ H n=>∃ (v59 J L:ag),((ρ 3=pA n1 3∧ρ 4=pA (n1+1) 4∧ρ 9=v59∧ρ 10=L∧ρ 11=J∧ρ 12=int link32)∧H (n1,3)=some ⟨6,[bC false redex]⟩∧H (n1+1,4)=some ⟨6,[bC false agent]⟩)∧Sep H n [oI v59 X,oE [.c] av J r9,oS L ([]:List Str)] [(n1+1,4),(n1,3)]) (by refine⟨v53,A,o,by simp[hh,a,d,g,p],sp⟩) ?_
   clear hh a d
   rintro ρ H ev ⟨v59,J,L,⟨hh,a,d⟩,sp⟩
   refine aa.inBlock ?_
   refine zF fun k' hk'=>?_
   obtain⟨b0,h⟩:=h
   obtain⟨b1,b2,h⟩:=atm h
   have f65:=aI b0 b2
   simp[hh,a,d,f65,-ai]
   apply hk'
   refine ac (b1,X) _ _ _ h (by refine⟨J,L,v59,by simp[hh,a,d],sp.f2.f2⟩)
  replace h:=h.2 p
  refine aa.skip ?_
  refine aa.inBlock ?_
  refine zF fun k' hk'=>?_
  obtain⟨b3,h⟩:=h
  obtain⟨af,b5,h⟩:=atm h
  have f68:=aI b3 b5
  simp[hh,a,d,f68,g,p,-ai]
  apply hk'
  refine aa.cut (fun ρ H n=>∃ (M v70 N:ag),((ρ 3=pA n1 3∧ρ 4=pA (n1+1) 4∧ρ 9=N∧ρ 10=v70∧ρ 11=M∧ρ 12=int af)∧H (n1,3)=some ⟨6,[bC false redex]⟩∧H (n1+1,4)=some ⟨6,[bC false agent]⟩)∧Sep H n [oE [.c] av M r9,oS v70 ([]:List Str),oI N i] [(n1+1,4),(n1,3)]) (by refine⟨A,o,C,by simp[hh,a,d,f68,g,p,-ai],sp⟩) ?_
  clear hh a d
  rintro ρ H ex ⟨M,v70,N,⟨hh,a,d⟩,sp⟩
  refine ac (af,i) _ _ _ h (by refine⟨M,v70,N,by simp[hh,a,d],sp⟩)
 replace h:=h.2 g
 refine aa.exit rfl ?_
 refine aa.seq ?_
 refine zE fun k' hk'=>?_
 obtain⟨b7,b8,h⟩:=atm h
 have f74:=dT (Sep.len (m:=b7) sp.f2 aO (by rw[b8,List.length_map]))
 obtain⟨ey,b9,h⟩:=atm h
 have f76:=fun H=>ax (H:=H) (fr:=false) (f:=aL) cy b9
 obtain⟨cc,h⟩:=h
 obtain⟨e0,ce,h⟩:=atm h
 have f79:=aI cc ce
 obtain⟨am,ci,h⟩:=atm h
 have f81:=iN (k:=.i64) ci
 simp[hh,a,d,f74,f76,f79,f81,g,-ai,-aH]
 apply hk'
 refine aa.cut (fun ρ H n=>∃ (O R:ag),((ρ 3=pA n1 3∧ρ 9=R∧ρ 10=O∧ρ 45=bool am)∧H (n1,3)=some ⟨6,[bC false redex]⟩)∧Sep H n [oS O ([]:List Str),oI R i] [(n1,3)]) (by refine⟨o,C,by simp[hh,a,d,f74,f76,f79,f81,g,-ai,-aH],(Sep.sub sp.dr (by simp +contextual))⟩) ?_
 clear hh a d
 rintro ρ H an ⟨O,R,⟨hh,a⟩,sp⟩
 refine aa.ite (b:=am) (by simp[hh,a]) (fun B=>?_) (fun B=>?_)
 ·replace h:=h.1 B
  refine zE fun k' hk'=>?_
  simp[hh,a,B]
  apply hk'
  refine aa.cut (fun ρ H n=>∃ (v87 T:ag),(ρ 6=T∧ρ 7=v87∧ρ 8=bool false)∧Sep H n [oS v87 ([]:List Str),oI T ([]:List Int)] []) (by refine⟨.arr (an+1,47) 0 0 0,.arr (an,46) 0 0 0,by simp[hh,a,B],(Sep.sub (Sep.dr (Sep.f2 (Sep.dr (Sep.f2 (Sep.addEmpty (l:=[.c]) (Sep.addEmpty (l:=[.c]) sp)))))) (by simp +contextual))⟩) ?_
  clear hh a
  rintro ρ H e1 ⟨v87,T,hh,sp⟩
  exact aa.DW (v:=T) (w:=v87) (z:=bool false) Tryz.func116 Tryz.results116 (by simp[hh]) (by simp[hh]) (by simp[hh]) (hQ _ _ _ _ (Sep.sub (ids':=[]) (Sep.fy (az.own (az.own (az.v _ az.nil))) sp.f1) (by simp)) ⟨(([]:List Int),([]:List Str),false),h,rfl⟩)
 replace h:=h.2 B
 refine aa.skip ?_
 refine aa.seq ?_
 refine zE fun k' hk'=>?_
 simp[hh,a,B]
 apply hk'
 refine aa.block ?_
 refine aa.aw h (fun (sJ:Int × (List Str)) ρ H n=>match sJ with | (i100,D)=>∃ (E q:ag),((ρ 3=pA n1 3∧ρ 9=q∧ρ 10=E∧ρ 13=int i100)∧H (n1,3)=some ⟨6,[bC false redex]⟩)∧Sep H n [oS E D,oI q i] [(n1,3)]) (by refine⟨O,R,by simp[hh,a,B],sp⟩) ?_
 clear hh a
 rintro⟨i100,D⟩ ρ H n104 K h ⟨E,q,⟨hh,a⟩,sp⟩ ao
 refine aa.seq ?_
 refine zE fun k' hk'=>?_
 obtain⟨cj,cl,h⟩:=atm h
 have f108:=dT (Sep.len (m:=cj) sp cy (by rw[cl,List.length_map]))
 obtain⟨co,cs,h⟩:=atm h
 have f110:=dT (Sep.len (m:=co) sp.f1 aO (by rw[cs,List.length_map]))
 obtain⟨c0,c1,h⟩:=atm h
 have f112:=aT (k:=.i64) c1
 simp[hh,a,f108,f110,f112,-ai,-aH]
 apply hk'
 refine aa.ite (b:=c0) (by simp[hh,a]) (fun e=>?_) (fun e=>?_)
 ·replace h:=h.1 e
  refine aa.skip ?_
  refine aa.seq ?_
  refine aa.block ?_
  refine zE fun k' hk'=>?_
  obtain⟨c2,h⟩:=h
  obtain⟨e2,c3,h⟩:=atm h
  simp[hh,a,e]
  refine aG.aB ae (wS i100 c2) e96 (.cons (.v _ _ _) .nil) (by decide) (by decide) rfl (by simp[hh,a,e]) ?_
  rintro _ rfl
  rw[← c3]
  obtain⟨c4,h⟩:=h
  obtain⟨Y,c6,h⟩:=atm h
  have f117:=Dm c4 c6
  simp[hh,a,f117,e,-et]
  apply hk'
  refine zE fun k' hk'=>?_
  obtain⟨c8,h⟩:=h
  obtain⟨e3,c9,h⟩:=atm h
  simp[hh,a,e]
  refine aG.aB ae (Fy redex.outer Y c8) e97 (.cons (o6 false redex.outer) (.cons (.v _ _ _) .nil)) (by decide) (by decide) rfl (by simp[hh,a,e]) ?_
  rintro _ rfl
  rw[← c9]
  obtain⟨da,dc,h⟩:=atm h
  have f121:=aT (k:=.i64) dc
  simp[hh,a,f121,e,-ai]
  apply hk'
  refine aa.ite (b:=da) (by simp[hh,a,e]) (fun u=>?_) (fun u=>?_)
  ·replace h:=h.1 u
   refine zF fun k' hk'=>?_
   obtain⟨dl,h⟩:=h
   obtain⟨ab,ds,h⟩:=atm h
   simp[hh,a,e,u,-ba]
   refine a8 [] [oI q i] [[str Y]] [aL Y] sp cy (by simp) (by simp) (by simp) (by simp[-ay,o1x]) (bz (az.v _ az.nil)) (by simp) (by simpa using dl) ?_
   rintro v124 d0 n126 sp d1 e4
   replace sp:Sep d0 n126 [oS v124 ab,oI q i] [(n1,3)]:=Sep.ap ds sp
   have a:=(d1 _ (by simp)).trans a
   simp[hh,a,e,u]
   apply hk'
   refine aa.cut (fun ρ H n=>∃ (v130 v131:ag),((ρ 3=pA n1 3∧ρ 9=v131∧ρ 10=v130∧ρ 13=int i100)∧H (n1,3)=some ⟨6,[bC false redex]⟩)∧Sep H n [oS v130 ab,oI v131 i] [(n1,3)]) (by refine⟨v124,q,by simp[hh,a,e,u],sp⟩) ?_
   clear hh a
   rintro ρ H n132 ⟨v130,v131,⟨hh,a⟩,sp⟩
   refine aa.inBlock ?_
   refine zF fun k' hk'=>?_
   obtain⟨d2,h⟩:=h
   obtain⟨d3,d4,h⟩:=atm h
   have f135:=aI d2 d4
   simp[hh,a,f135,-ai]
   apply hk'
   refine ao (d3,ab) _ _ _ h (by refine⟨v130,v131,by simp[hh,a],sp⟩)
  replace h:=h.2 u
  refine aa.skip ?_
  refine aa.inBlock ?_
  refine zF fun k' hk'=>?_
  obtain⟨d5,h⟩:=h
  obtain⟨aM,d6,h⟩:=atm h
  have f138:=aI d5 d6
  simp[hh,a,f138,e,u,-ai]
  apply hk'
  refine aa.cut (fun ρ H n=>∃ (v139 U:ag),((ρ 3=pA n1 3∧ρ 9=U∧ρ 10=v139∧ρ 13=int aM)∧H (n1,3)=some ⟨6,[bC false redex]⟩)∧Sep H n [oS v139 D,oI U i] [(n1,3)]) (by refine⟨E,q,by simp[hh,a,f138,e,u,-ai],sp⟩) ?_
  clear hh a
  rintro ρ H n141 ⟨v139,U,⟨hh,a⟩,sp⟩
  refine ao (aM,D) _ _ _ h (by refine⟨v139,U,by simp[hh,a],sp⟩)
 replace h:=h.2 e
 refine aa.exit rfl ?_
 refine zE fun k' hk'=>?_
 simp[hh,a,e]
 apply hk'
 exact aa.DW (v:=q) (w:=E) (z:=bool true) Tryz.func116 Tryz.results116 (by simp[hh,a,e]) (by simp[hh,a,e]) (by simp[hh,a,e]) (hQ _ _ _ _ (Sep.sub (ids':=[]) (Sep.fy (az.own (az.own (az.v _ az.nil))) sp.f1) (by simp)) ⟨(i,D,true),h,rfl⟩)
theorem wA (redex:Big) (agent:Big) (m:Match) (hp:km redex agent m):a7 Tryz.prog 116 [.agg (bC false redex),.agg (bC false agent),.agg (mC false m)] (.t [.s [.c],.s [.c],.c]) (fun r=>r = .tup [.list true (((iw redex agent m).1).map al),.list true (((iw redex agent m).2.1).map aL),bool ((iw redex agent m).2.2)]):=(tc redex agent m _ (wM redex agent m hp)).mono (by rintro _ ⟨_,rfl,rfl⟩;rfl)
theorem e71:Ent Tryz.prog 71:=Ent.of Tryz.func71 (by kernel_rfl) rfl
theorem oF (sig:List Control) (redex:Big) (agent:Big) (m:Match) (Z:((List Int) × (List Str) × Bool)→Prop) (h:eF sig redex agent m Z):a7 Tryz.prog 71 [.list false (sig.map Control.cells),.agg (bC false redex),.agg (bC false agent),.agg (mC false m)] (.t [.s [.c],.s [.c],.c]) (fun r=>∃ y:(List Int) × (List Str) × Bool,Z y∧r = .tup [.list true (y.1.map al),.list true (y.2.1.map aL),bool y.2.2]):=by
 unfold eF at h
 have sp:Sep bc 0 [] []:=Sep.nil (by simp)
 refine a7.of Tryz.func71 rfl Tryz.ntmps71 (by simp) fun Q hQ=>?_
 refine aa.cut (fun ρ H n=>(ρ 0 = .list false (sig.map Control.cells)∧ρ 1 = .agg (bC false redex)∧ρ 2 = .agg (bC false agent)∧ρ 3 = .agg (mC false m))∧Sep H n [] []) (by refine⟨by simp ,sp⟩) ?_
 rintro ρ H n1 ⟨hh,sp⟩
 refine zE fun k' hk'=>?_
 simp[hh]
 apply hk'
 refine aa.cut (fun ρ H n=>((ρ 0 = .list false (sig.map Control.cells)∧ρ 5=pA n1 5∧ρ 6=pA (n1+1) 6∧ρ 7=pA (n1+2) 7)∧H (n1,5)=some ⟨6,[bC false redex]⟩∧H (n1+1,6)=some ⟨6,[bC false agent]⟩∧H (n1+2,7)=some ⟨2,[mC false m]⟩)∧Sep H n [] [(n1+2,7),(n1+1,6),(n1,5)]) (by refine⟨by simp[hh],sp.var.var.var⟩) ?_
 clear hh
 rintro ρ H n5 ⟨⟨hh,a,d,e⟩,sp⟩
 refine aa.seq ?_
 refine zE fun k' hk'=>?_
 obtain⟨hb6,h⟩:=h
 obtain⟨r7,er7,h⟩:=atm h
 simp[hh,a,d,e]
 refine aG.aB ae (yW sig redex agent m hb6) ID (.cons (iR false sig) (.cons (bg false redex) (.cons (bg false agent) (.cons (eY false m) .nil)))) (by decide) (by decide) rfl (by simp[hh,a,d,e]) ?_
 rintro _ rfl
 rw[← er7]
 simp[hh,a,d,e]
 apply hk'
 refine aa.ite (b:=(!r7)) (by simp[hh,a,d,e]) (fun dr7=>?_) (fun dr7=>?_)
 ·have dr7:r7=false:=by simpa using dr7
  replace h:=h.2 dr7
  refine zE fun k' hk'=>?_
  simp[hh,a,d,e,dr7]
  apply hk'
  refine aa.cut (fun ρ H n=>∃ (v10 v11:ag),(ρ 8=v11∧ρ 9=v10∧ρ 10=bool false)∧Sep H n [oS v10 ([]:List Str),oI v11 ([]:List Int)] []) (by refine⟨.arr (n5+1,18) 0 0 0,.arr (n5,17) 0 0 0,by simp[hh,a,d,e,dr7],(Sep.sub (Sep.addEmpty (l:=[.c]) (Sep.addEmpty (l:=[.c]) sp)) (by simp +contextual))⟩) ?_
  clear hh a d e
  rintro ρ H A ⟨v10,v11,hh,sp⟩
  exact aa.DW (v:=v11) (w:=v10) (z:=bool false) Tryz.func71 Tryz.results71 (by simp[hh]) (by simp[hh]) (by simp[hh]) (hQ _ _ _ _ (Sep.sub (ids':=[]) (Sep.fy (az.own (az.own (az.v _ az.nil))) sp.f1) (by simp)) ⟨(([]:List Int),([]:List Str),false),h,rfl⟩)
 have dr7:r7=true:=by simpa using dr7
 replace h:=h.1 dr7
 refine aa.skip ?_
 refine zE fun k' hk'=>?_
 obtain⟨o,h⟩:=h
 obtain⟨g,p,h⟩:=atm h
 simp[hh,a,d,e,dr7]
 refine aG.cd ae (wA redex agent m o) Ir (.cons (bg false redex) (.cons (bg false agent) (.cons (eY false m) .nil))) sp (by decide) (by decide) rfl (by simp[hh,a,d,e,dr7]) ?_
 rintro B C n18 _ sp rfl D j
 rw[← p] at sp
 have a:=(j _ (by simp)).trans a
 have d:=(j _ (by simp)).trans d
 have e:=(j _ (by simp)).trans e
 replace sp:=Sep.ku sp
 obtain⟨L25,hv,q,sp⟩:=sp
 subst hv
 obtain⟨v22,u,v24,hv⟩:=xq (by simpa using q)
 subst hv
 simp only[dp,List.cons_append,List.nil_append] at sp
 replace sp:=Sep.rot sp
 try simp only[List.cons_append,List.nil_append,List.append_assoc] at sp
 replace sp:=Sep.rot sp
 try simp only[List.cons_append,List.nil_append,List.append_assoc] at sp
 replace sp:=Sep.scalar sp
 obtain⟨hv,sp⟩:=sp
 subst hv
 simp[hh,a,d,e,dr7]
 apply hk'
 refine aa.cut (fun ρ H n=>∃ (i v30:ag),(ρ 8=i∧ρ 9=v30∧ρ 10=bool g.2.2)∧Sep H n [oI i g.1,oS v30 g.2.1] []) (by refine⟨v22,u,by simp[hh,a,d,e,dr7],(Sep.sub sp (by simp +contextual))⟩) ?_
 clear hh a d e
 rintro ρ H n31 ⟨i,v30,hh,sp⟩
 exact aa.DW (v:=i) (w:=v30) (z:=bool g.2.2) Tryz.func71 Tryz.results71 (by simp[hh]) (by simp[hh]) (by simp[hh]) (hQ _ _ _ _ (Sep.sub (ids':=[]) (Sep.fy (az.own (az.own (az.v _ az.nil))) sp) (by simp)) ⟨(g.1,g.2.1,g.2.2),h,rfl⟩)
theorem qw (sig:List Control) (redex:Big) (agent:Big) (m:Match) (hp:fK sig redex agent m):a7 Tryz.prog 71 [.list false (sig.map Control.cells),.agg (bC false redex),.agg (bC false agent),.agg (mC false m)] (.t [.s [.c],.s [.c],.c]) (fun r=>r = .tup [.list true (((c7 sig redex agent m).1).map al),.list true (((c7 sig redex agent m).2.1).map aL),bool ((c7 sig redex agent m).2.2)]):=(oF sig redex agent m _ (qx sig redex agent m hp)).mono (by rintro _ ⟨_,rfl,rfl⟩;rfl)
end Go.Ab.Vg
/- The abstract machine, part Sh: function values handed over: what they capture is seen by the callee as cells that are never written again. -/
namespace Go.Ab
theorem z8 {v:ag} (h:Ab.ay v=true):ar v=some [v]:=by
 cases v with
 | v x=>cases x<;>first | rfl | (simp[Ab.ay,one] at h)
 | undef=>simp[Ab.ay] at h
 | agg=>simp[Ab.ay] at h
 | tup=>simp[Ab.ay] at h
 | _=>rfl
inductive rj (H:ak) (n:Nat):List ag→List ag→Prop
 | nil:rj H n [] []
 | cons {a b:ag} {as1 bs:List ag} (h:ln H n a b) (t:rj H n as1 bs):rj H n (a::as1) (b::bs)
theorem rj.get {H:ak} {n:Nat} {as1 bs:List ag} (h:rj H n as1 bs):as1.length=bs.length∧∀ (i:Nat) (a b:ag),as1[i]?=some a→bs[i]?=some b→ln H n a b:=by
 induction h with
 | nil=>exact⟨rfl,by simp⟩
 | cons h _ ih=>
  refine⟨by simp[ih.1],fun i a b ha hb=>?_⟩
  cases i with
  | zero=>simp at ha hb;rw[← ha,← hb];exact h
  | succ i=>exact ih.2 i a b (by simpa using ha) (by simpa using hb)
theorem ln.y6 {H:ak} {n:Nat} {as1 bs:List ag} (h:rj H n as1 bs):ln H n (.agg as1) (.agg bs):=.agg h.get.1 h.get.2
theorem ln.wo {H:ak} {n:Nat} {as1 bs:List ag} (h:rj H n as1 bs):ln H n (.tup as1) (.tup bs):=.tup h.get.1 h.get.2
theorem Imm.bnd {n:Nat} {a:ag} (h:Imm a):Bnd n a:=by
 induction h with
 | v x=>exact .v x
 | agg cs _ ih=>exact .agg cs ih
 | tup cs _ ih=>exact .tup cs ih
 | list fr els _ ih=>exact .list fr els ih
 | iface t a _ ih=>exact .iface t a ih
section
variable {H:ak} {n:Nat}
theorem aF.q9 {X:Id} {sz:Nat} {cs ds:List ag} (hX:H X=some ⟨sz,[cs]⟩) (h:bA H n cs ds):aF H n (.ptr X 1 0 0) (.iptr false ds):=by
 intro c x hH hn g r c' hw hc
 obtain⟨hl,hi⟩:=h.get
 rw[← hH] at hX
 cases r with
 | ptr _ _ _ _ x h1 hlt hg hh=>
  obtain⟨_,rfl⟩:=hh _ hX rfl
  have hcell:∀ (j:Nat) (a:ag),cs[j]?=some a→∃ y,c.w.cell? ⟨c.β X,0 * sz+j,none⟩=some y∧Rep c a y:=fun j a ha=>g.cell hX (i:=0) rfl ha
  have hget:∀ (j:Nat) (b:ag),ds[j]?=some b→∃ a,cs[j]?=some a:=fun j b hb=>⟨_,List.getElem?_eq_getElem (show j<cs.length by rw[hl];exact (List.getElem?_eq_some_iff.1 hb).1)⟩
  refine .iptr false ds _ (fun j=>(c.w.cell? ⟨c.β X,0 * sz+j,none⟩).getD Go.undef) rfl (A5 hc _) (by rw[hw];exact g.lt hX) (fun h=>by cases h) (fun j b hb=>?_) (fun j b hb=>?_)
  ·obtain⟨a,ha⟩:=hget j b hb
   obtain⟨y,hy,_⟩:=hcell j a ha
   rw[hw]
   show c.w.cell? ⟨c.β X,0 * sz+j,none⟩=_
   rw[hy];rfl
  ·obtain⟨a,ha⟩:=hget j b hb
   obtain⟨y,hy,hr⟩:=hcell j a ha
   simp only[hy,Option.getD_some]
   exact hi j a b ha hb c y hH hn g hr c' hw hc
theorem aF.xm {fr:Bool} {cs ds:List ag} (h:bA H n cs ds):aF H n (.iptr fr cs) (.iptr false ds):=by
 intro c x hH hn g r c' hw hc
 obtain⟨hl,hi⟩:=h.get
 cases r with
 | iptr _ _ a cell hs hm hb hf hcl hr=>
  have hget:∀ (j:Nat) (b:ag),ds[j]?=some b→∃ a,cs[j]?=some a:=fun j b hb=>⟨_,List.getElem?_eq_getElem (show j<cs.length by rw[hl];exact (List.getElem?_eq_some_iff.1 hb).1)⟩
  refine .iptr false ds a cell hs (A5 hc _) (by rw[hw];exact hb) (fun h=>by cases h) (fun j b hb=>?_) (fun j b hb=>?_)
  ·obtain⟨x,hx⟩:=hget j b hb
   rw[hw]
   exact hcl j x hx
  ·obtain⟨x,hx⟩:=hget j b hb
   exact hi j x b hx hb c _ hH hn g (hr j x hx) c' hw hc
theorem aF.fnF {f:Fn} {as1 as' bs bs':List ag} (h1:bA H n as1 as') (h2:bA H n bs bs'):aF H n (.fn f as1 bs) (.fn f as' bs'):=by
 intro c x hH hn g r c' hw hc
 obtain⟨l1,i1⟩:=h1.get
 obtain⟨l2,i2⟩:=h2.get
 cases r with
 | fn _ _ _ vs us hl hl' ha hb=>
  refine .fn f as' bs' vs us (by omega) (by omega) (fun i a x hx hv=>?_) (fun i a x hx hv=>?_)
  ·have hi:=(List.getElem?_eq_some_iff.1 hx).1
   have e:as1[i]?=some (as1[i]'(by omega)):=List.getElem?_eq_getElem (by omega)
   exact i1 i _ a e hx c x hH hn g (ha i _ x e hv) c' hw hc
  ·have hi:=(List.getElem?_eq_some_iff.1 hx).1
   have e:bs[i]?=some (bs[i]'(by omega)):=List.getElem?_eq_getElem (by omega)
   exact i2 i _ a e hx c x hH hn g (hb i _ x e hv) c' hw hc
theorem bA.app {as1 as' bs bs':List ag} (h:bA H n as1 as') (h':bA H n bs bs'):bA H n (as1++bs) (as'++bs'):=by
 induction h with
 | nil=>exact h'
 | cons h _ ih=>exact .cons h ih
theorem aq.args {P:Program} {f:FuncId} {as1 as':List ag} {R:ag→Prop} (h:aq P f as' R) (ha:bA H n as1 as'):cI P f as1 H n R:=by
 intro c xs hH hn gd hl
 have hb:Good ⟨c.w.heap.size,fun _=>0,bc,0,c.w⟩:=mn c.w
 obtain⟨hlen,hget⟩:=ha.get
 have hrep:dG ⟨c.w.heap.size,fun _=>0,bc,0,c.w⟩ as' xs:=by
  refine⟨by rw[← hlen];exact hl.1,fun i b x hb' hx=>?_⟩
  have hi:=(List.getElem?_eq_some_iff.1 hb').1
  have ha':as1[i]?=some (as1[i]'(by omega)):=List.getElem?_eq_getElem (by omega)
  exact hget i _ b ha' hb' c x hH hn gd (hl.2 i _ x ha' hx) _ rfl (fun _=>rfl)
 refine (h _ xs rfl rfl hb hrep).mono ?_
 rintro e w' ⟨x,v,c1,he,hw,⟨r,hres,hR⟩,hrv,hg1,hk⟩
 subst hw
 have hnomu:∀ k,¬ Ctx.mu ⟨c.w.heap.size,fun _=>0,bc,0,c.w⟩ k:=by
  rintro k ⟨id,o,ho,_⟩
  cases ho
 obtain⟨hkc,hgc⟩:=cN gd c1.w ⟨hk.os,hk.tape,hk.output⟩ hk.size (fun k hk'=>(hk.imm k hk' (hnomu k)).1)
 refine⟨x,r,{ c with w:=c1.w },he,rfl,⟨hR,hH,hn⟩,?_,hgc,hkc⟩
 refine hres c1 x rfl rfl hg1 hrv { c with w:=c1.w } rfl ?_ ?_
 ·rintro k ⟨id,o,ho,hb'⟩
  have hlt:c.β id<c.w.heap.size:=gd.lt ho
  rw[hk.B]
  show k<c.w.heap.size
  simp only at hb'
  omega
 ·rw[hk.B]
  exact gd.Bsize
end
section
variable {P:Program} {f:FuncId} {N:Nat} {k:List Item} {Q:ag→ak→Nat→Prop} {Ty:Types} {l:List Oper} {ρ:Env} {H:ak} {n:Nat}
theorem aN.AV {d:Option Tmp} {g:Operand} {args:Array Operand} {ats:Array TypeId} {ty:TypeId} {pos:String} {af:Array Edge} {gu:Option (Nat × Bool)} {v:ag} {f':FuncId} {xs xs2 ys1 ys2:List ag}
  (h:aq P f' (xs2++ys2) (fun r=>r=v)) (hent:Ent P f') (ha:bA H n xs xs2) (hb:bA H n ys1 ys2) (hg:ρ.ev g = .fn (.func f') [] ys1) (has:args.toList.map ρ.ev=xs) :
  aN P N ⟨d,.call ⟨.value g,args,ats⟩,ty,pos,af,gu⟩ (loc (.call ⟨.value g,args,ats⟩) ρ) H n (isV v H n):=by
 have h1:(loc (.call ⟨.value g,args,ats⟩) ρ).ev g=ρ.ev g:=fu (by simp[Op.operands,Call.operands])
 have h2:args.toList.map (loc (.call ⟨.value g,args,ats⟩) ρ).ev=args.toList.map ρ.ev:=List.map_congr_left fun x hx=>fu (by simp[Op.operands,Call.operands];exact .inr (by simpa using hx))
 exact aN.call (by rw[h1];exact hg) hent (by rw[h2,has,List.nil_append];exact aq.args h (ha.app hb))
theorem bn.AV (hT:aU P Ty) {κ:Op→Nat} (hκ:KOk κ) {d:Option Tmp} {g:Operand} {args:Array Operand} {ats:Array TypeId} {ty:TypeId} {pos:String} {af:Array Edge} {v:ag} {f':FuncId} {xs1 xs2 ys1 ys2:List ag} {ops:Array Oper}
  (h:aq P f' (xs2++ys2) (fun r=>r=v)) (hent:Ent P f') (ha:bA H n xs1 xs2) (hb:bA H n ys1 ys2) (h0:κ (.call ⟨.value g,args,ats⟩) ≠ 0) (hg:ρ.ev g = .fn (.func f') [] ys1) (has:args.toList.map ρ.ev=xs1)
  (hk:dF P f N k Q Ty κ ops l (ρ.put d v) H n):bn P f N k Q κ ops (⟨d,.call ⟨.value g,args,ats⟩,ty,pos,af,none⟩::l) ρ H n:=
 bn.op hT hκ rfl h0 (fun _=>⟨rfl,rfl⟩) (aN.AV h hent ha hb hg has) hk
theorem aG.GP (hT:aU P Ty) {d:Option Tmp} {g:Operand} {args:Array Operand} {ats:Array TypeId} {ty:TypeId} {pos:String} {af:Array Edge} {R:ag→Prop} {f':FuncId} {as1 bs:List ag} {ops:List Oper}
  (h:jG P f' bs R) (hent:Ent P f') (hs:xE as1 bs)
  (hN:ops.all (fun o=>dok N o.dst)=true) (hl:(⟨d,.call ⟨.value g,args,ats⟩,ty,pos,af,none⟩::l:List Oper).all (fun o=>dok N o.dst)=true) (hg:ρ.ev g = .fn (.func f') [] []) (has:args.toList.map ρ.ev=as1)
  (hk:∀ v,R v→ct P f N k Q Ty ops.toArray l (ρ.put d v) H n) :
  aG P f N k Q ops.toArray (⟨d,.call ⟨.value g,args,ats⟩,ty,pos,af,none⟩::l) ρ H n:=aG.Hw hT h hent hs hN hl hg has hk
end
end Go.Ab
