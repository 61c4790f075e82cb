/- Merged texts (13 of 17) of the proof that ends in Mpy: Lmw Nmw Mdw Muw Cow Mpw Emw. -/
import Derived.Test.YtbikfokhjdjfpaaGreatDoorAbQmp12
/- Walks by program for YtbikfokhjdjfpaaGreatDoorAbLm. -/
namespace Go.Ab.Vg
open Go.Proofs
set_option maxRecDepth 100000
set_option linter.unusedSimpArgs false
set_option linter.unusedVariables false
attribute [local simp] Control.cells aj.cells aA.cells al gp aL bC pA zB
theorem e42:Ent Tryz.prog 42:=Ent.of Tryz.func42 (by kernel_rfl) rfl
theorem w9 (a:List Int) (Z:(List Int)→Prop) (h:mo a Z):a7 Tryz.prog 42 [.list false (a.map al)] (.s [.c]) (fun r=>∃ y:List Int,Z y∧r = .list true (y.map al)):=by
 unfold mo at h
 have sp:Sep bc 0 [] []:=Sep.nil (by simp)
 refine a7.of Tryz.func42 rfl Tryz.ntmps42 (by simp) fun Q hQ=>?_
 refine aa.cut (fun ρ H n=>ρ 0 = .list false (a.map al)∧Sep H n [] []) (by refine⟨by simp ,sp⟩) ?_
 rintro ρ H n1 ⟨hh,sp⟩
 refine zE fun k' hk'=>?_
 simp[hh]
 apply hk'
 refine zE fun k' hk'=>?_
 obtain⟨cf,elen2,h⟩:=atm h
 have f3:=fun H=>ax (H:=H) (fr:=false) (f:=al) aO elen2
 obtain⟨hb4,h⟩:=h
 obtain⟨l5,el5,h⟩:=atm h
 simp[hh,f3,hb4,el5,-aH]
 apply hk'
 refine aa.cut (fun ρ H n=>∃ (v7:ag),(ρ 0 = .list false (a.map al)∧ρ 3=v7)∧Sep H n [oI v7 l5] []) (by refine⟨.arr (n1,7) cf.toNat 0 cf.toNat,by simp[hh,f3,hb4,el5,-aH],(by rw[el5];exact Sep.nJ (z:=[int 0]) (f:=al) (k:=cf.toNat) sp (fun H=>by show Row H [.c] [int 0] [int 0] [];simp[Row,Tr]))⟩) ?_
 clear hh
 rintro ρ H n8 ⟨v7,hh,sp⟩
 refine aa.seq ?_
 refine zE fun k' hk'=>?_
 simp[hh]
 apply hk'
 refine aa.block ?_
 refine aa.aw h (fun (sJ:Int × (List Int)) ρ H n=>match sJ with | (i16,d)=>∃ (i:ag),(ρ 0 = .list false (a.map al)∧ρ 3=i∧ρ 4=int i16)∧Sep H n [oI i d] []) (by refine⟨v7,by simp[hh],sp⟩) ?_
 clear hh
 rintro⟨i16,d⟩ ρ H n19 K h ⟨i,hh,sp⟩ t
 refine aa.seq ?_
 refine zE fun k' hk'=>?_
 obtain⟨O,u,h⟩:=atm h
 have f23:=fun H=>ax (H:=H) (fr:=false) (f:=al) aO u
 obtain⟨A,B,h⟩:=atm h
 have f25:=aT (k:=.i64) B
 simp[hh,f23,f25,-ai,-aH]
 apply hk'
 refine aa.ite (b:=A) (by simp[hh]) (fun e=>?_) (fun e=>?_)
 ·replace h:=h.1 e
  refine aa.skip ?_
  refine aa.seq ?_
  refine aa.block ?_
  refine zF fun k' hk'=>?_
  obtain⟨C,h⟩:=h
  obtain⟨D,E,h⟩:=atm h
  have f28:=fun H=>aE (H:=H) (fr:=false) (f:=al) (k:=.i64) aO (fun _=>rfl) C E
  obtain⟨l,h⟩:=h
  obtain⟨o,hv,F,R,T⟩:=Sep.fC sp (by simp) l
  subst hv
  obtain⟨U,G,h⟩:=atm h
  have f35:=fun H (hm:H o=some ⟨1,d.map al⟩)=>cF (H:=H) (k:=.i64) (off:=0) (len:=d.length) (g:=d.length) aO hm (by simp) rfl l
  have f36:=cH (q:=i16.toNat) l G rfl
  obtain⟨p,I,h⟩:=atm h
  simp[hh,F,f28,f35,f36,e,-ah,-bG]
  refine dv (q:=i16.toNat) (news:=al D) [] [] sp (by simp) (by simp;omega) (by simp) (by simp[-ay,o1x]) (az.v _ az.nil) ?_
  rintro J sp V
  replace sp:Sep J n19 [oI (.arr o d.length 0 d.length) p] []:=Sep.st I sp
  simp[hh,f28,f35,f36,e,-ah]
  apply hk'
  refine aa.cut (fun ρ H n=>∃ (j:ag),(ρ 0 = .list false (a.map al)∧ρ 3=j∧ρ 4=int i16)∧Sep H n [oI j p] []) (by refine⟨.arr o d.length 0 d.length,by simp[hh,f28,f35,f36,e,-ah],sp⟩) ?_
  clear hh
  rintro ρ H W ⟨j,hh,sp⟩
  refine aa.inBlock ?_
  refine zF fun k' hk'=>?_
  obtain⟨L,h⟩:=h
  obtain⟨M,N,h⟩:=atm h
  have f45:=aI L N
  simp[hh,f45,-ai]
  apply hk'
  refine t (M,p) _ _ _ h (by refine⟨j,by simp[hh],sp⟩)
 replace h:=h.2 e
 refine aa.exit rfl ?_
 refine zE fun k' hk'=>?_
 simp[hh,e]
 apply hk'
 exact aa.aV (v:=i) Tryz.func42 Tryz.results42 (by simp[hh,e]) (hQ _ _ _ _ (Sep.sub (ids':=[]) sp (by simp)) ⟨d,h,rfl⟩)
theorem fE (a:List Int) (hp:eM a):a7 Tryz.prog 42 [.list false (a.map al)] (.s [.c]) (fun r=>r = .list true ((o9 a).map al)):=(w9 a _ (CU a hp)).mono (by rintro _ ⟨_,rfl,rfl⟩;rfl)
theorem e43:Ent Tryz.prog 43:=Ent.of Tryz.func43 (by kernel_rfl) rfl
theorem rE (a:List Str) (Z:(List Str)→Prop) (h:gR a Z):a7 Tryz.prog 43 [.list false (a.map aL)] (.s [.c]) (fun r=>∃ y:List Str,Z y∧r = .list true (y.map aL)):=by
 unfold gR at h
 have sp:Sep bc 0 [] []:=Sep.nil (by simp)
 refine a7.of Tryz.func43 rfl Tryz.ntmps43 (by simp) fun Q hQ=>?_
 refine aa.cut (fun ρ H n=>ρ 0 = .list false (a.map aL)∧Sep H n [] []) (by refine⟨by simp ,sp⟩) ?_
 rintro ρ H n1 ⟨hh,sp⟩
 refine zE fun k' hk'=>?_
 simp[hh]
 apply hk'
 refine zE fun k' hk'=>?_
 obtain⟨cf,elen2,h⟩:=atm h
 have f3:=fun H=>ax (H:=H) (fr:=false) (f:=aL) cy elen2
 obtain⟨hb4,h⟩:=h
 obtain⟨l5,el5,h⟩:=atm h
 simp[hh,f3,hb4,el5,-aH]
 apply hk'
 refine aa.cut (fun ρ H n=>∃ (v7:ag),(ρ 0 = .list false (a.map aL)∧ρ 3=v7)∧Sep H n [oS v7 l5] []) (by refine⟨.arr (n1,7) cf.toNat 0 cf.toNat,by simp[hh,f3,hb4,el5,-aH],(by rw[el5];exact Sep.nJ (z:=[str []]) (f:=aL) (k:=cf.toNat) sp (fun H=>by show Row H [.c] [str []] [str []] [];simp[Row,Tr]))⟩) ?_
 clear hh
 rintro ρ H n8 ⟨v7,hh,sp⟩
 refine aa.seq ?_
 refine zE fun k' hk'=>?_
 simp[hh]
 apply hk'
 refine aa.block ?_
 refine aa.aw h (fun (sJ:Int × (List Str)) ρ H n=>match sJ with | (i16,d)=>∃ (i:ag),(ρ 0 = .list false (a.map aL)∧ρ 3=i∧ρ 4=int i16)∧Sep H n [oS i d] []) (by refine⟨v7,by simp[hh],sp⟩) ?_
 clear hh
 rintro⟨i16,d⟩ ρ H n19 K h ⟨i,hh,sp⟩ t
 refine aa.seq ?_
 refine zE fun k' hk'=>?_
 obtain⟨O,u,h⟩:=atm h
 have f23:=fun H=>ax (H:=H) (fr:=false) (f:=aL) cy u
 obtain⟨A,B,h⟩:=atm h
 have f25:=aT (k:=.i64) B
 simp[hh,f23,f25,-ai,-aH]
 apply hk'
 refine aa.ite (b:=A) (by simp[hh]) (fun e=>?_) (fun e=>?_)
 ·replace h:=h.1 e
  refine aa.skip ?_
  refine aa.seq ?_
  refine aa.block ?_
  refine zF fun k' hk'=>?_
  obtain⟨C,h⟩:=h
  obtain⟨D,E,h⟩:=atm h
  have f28:=fun H=>aE (H:=H) (fr:=false) (f:=aL) (k:=.i64) cy (fun _=>rfl) C E
  obtain⟨l,h⟩:=h
  obtain⟨o,hv,F,R,T⟩:=Sep.fC sp (by simp) l
  subst hv
  obtain⟨U,G,h⟩:=atm h
  have f35:=fun H (hm:H o=some ⟨1,d.map aL⟩)=>cF (H:=H) (k:=.i64) (off:=0) (len:=d.length) (g:=d.length) cy hm (by simp) rfl l
  have f36:=cH (q:=i16.toNat) l G rfl
  obtain⟨p,I,h⟩:=atm h
  simp[hh,F,f28,f35,f36,e,-ah,-bG]
  refine dv (q:=i16.toNat) (news:=aL D) [] [] sp (by simp) (by simp;omega) (by simp) (by simp[-ay,o1x]) (az.v _ az.nil) ?_
  rintro J sp V
  replace sp:Sep J n19 [oS (.arr o d.length 0 d.length) p] []:=Sep.st I sp
  simp[hh,f28,f35,f36,e,-ah]
  apply hk'
  refine aa.cut (fun ρ H n=>∃ (j:ag),(ρ 0 = .list false (a.map aL)∧ρ 3=j∧ρ 4=int i16)∧Sep H n [oS j p] []) (by refine⟨.arr o d.length 0 d.length,by simp[hh,f28,f35,f36,e,-ah],sp⟩) ?_
  clear hh
  rintro ρ H W ⟨j,hh,sp⟩
  refine aa.inBlock ?_
  refine zF fun k' hk'=>?_
  obtain⟨L,h⟩:=h
  obtain⟨M,N,h⟩:=atm h
  have f45:=aI L N
  simp[hh,f45,-ai]
  apply hk'
  refine t (M,p) _ _ _ h (by refine⟨j,by simp[hh],sp⟩)
 replace h:=h.2 e
 refine aa.exit rfl ?_
 refine zE fun k' hk'=>?_
 simp[hh,e]
 apply hk'
 exact aa.aV (v:=i) Tryz.func43 Tryz.results43 (by simp[hh,e]) (hQ _ _ _ _ (Sep.sub (ids':=[]) sp (by simp)) ⟨d,h,rfl⟩)
theorem kY (a:List Str) (hp:fQ a):a7 Tryz.prog 43 [.list false (a.map aL)] (.s [.c]) (fun r=>r = .list true ((pj a).map aL)):=(rE a _ (uN a hp)).mono (by rintro _ ⟨_,rfl,rfl⟩;rfl)
theorem e40:Ent Tryz.prog 40:=Ent.of Tryz.func40 (by kernel_rfl) rfl
theorem sw (a:Control) (Z:Control→Prop) (h:kx a Z):aq Tryz.prog 40 [.agg [str a.name,int a.ports,int a.kind]] (fun r=>∃ y:Control,Z y∧r = .agg [str y.name,int y.ports,int y.kind]):=by
 unfold kx at h
 refine aq.of Tryz.func40 rfl Tryz.ntmps40 (by simp) fun Q hQ=>?_
 refine aa.cut (fun ρ H n=>ρ 0 = .agg [str a.name,int a.ports,int a.kind]) (by simp[]) ?_
 rintro ρ H n1 hh
 refine zE fun k' hk'=>?_
 simp[hh]
 apply hk'
 refine aa.cut (fun ρ H n=>(ρ 1=pA n1 1∧ρ 2=pA (n1+1) 2)∧H (n1,1)=some ⟨3,[[str a.name,int a.ports,int a.kind]]⟩∧H (n1+1,2)=some ⟨3,[[str [],int 0,int 0]]⟩) (by refine⟨?_,?_,?_⟩<;>simp[hh]) ?_
 clear hh
 rintro ρ H n4 ⟨hh,c,b⟩
 refine zE fun k' hk'=>?_
 simp[hh,c,b]
 apply hk'
 refine aa.cut (fun ρ H n=>(ρ 1=pA n1 1∧ρ 2=pA (n1+1) 2∧ρ 3=pA n4 3)∧H (n1,1)=some ⟨3,[[str a.name,int a.ports,int a.kind]]⟩∧H (n1+1,2)=some ⟨3,[[str [],int 0,int 0]]⟩∧H (n4,3)=some ⟨3,[[str [],int 0,int 0]]⟩) (by refine⟨?_,?_,?_,?_⟩<;>simp[hh,c,b]) ?_
 clear hh c b
 rintro ρ H n6 ⟨hh,c,b,d⟩
 refine zE fun k' hk'=>?_
 simp[hh,c,b,d]
 apply hk'
 refine aa.cut (fun ρ H n=>(ρ 1=pA n1 1∧ρ 2=pA (n1+1) 2∧ρ 3=pA n4 3)∧H (n1,1)=some ⟨3,[[str a.name,int a.ports,int a.kind]]⟩∧H (n1+1,2)=some ⟨3,[[str [],int 0,int 0]]⟩∧H (n4,3)=some ⟨3,[[str a.name,int 0,int 0]]⟩) (by refine⟨?_,?_,?_,?_⟩<;>simp[hh,c,b,d]) ?_
 clear hh c b d
 rintro ρ H n7 ⟨hh,c,b,d⟩
 refine zE fun k' hk'=>?_
 simp[hh,c,b,d]
 apply hk'
 refine aa.cut (fun ρ H n=>(ρ 1=pA n1 1∧ρ 2=pA (n1+1) 2∧ρ 3=pA n4 3)∧H (n1,1)=some ⟨3,[[str a.name,int a.ports,int a.kind]]⟩∧H (n1+1,2)=some ⟨3,[[str [],int 0,int 0]]⟩∧H (n4,3)=some ⟨3,[[str a.name,int a.ports,int 0]]⟩) (by refine⟨?_,?_,?_,?_⟩<;>simp[hh,c,b,d]) ?_
 clear hh c b d
 rintro ρ H n8 ⟨hh,c,b,d⟩
 refine zE fun k' hk'=>?_
 simp[hh,c,b,d]
 apply hk'
 refine aa.cut (fun ρ H n=>(ρ 2=pA (n1+1) 2∧ρ 3=pA n4 3)∧H (n1+1,2)=some ⟨3,[[str [],int 0,int 0]]⟩∧H (n4,3)=some ⟨3,[[str a.name,int a.ports,int a.kind]]⟩) (by refine⟨?_,?_,?_⟩<;>simp[hh,c,b,d]) ?_
 clear hh c b d
 rintro ρ H n9 ⟨hh,b,d⟩
 refine zE fun k' hk'=>?_
 simp[hh,b,d]
 apply hk'
 refine aa.cut (fun ρ H n=>ρ 2=pA (n1+1) 2∧H (n1+1,2)=some ⟨3,[[str a.name,int a.ports,int a.kind]]⟩) (by refine⟨?_,?_⟩<;>simp[hh,b,d]) ?_
 clear hh b d
 rintro ρ H e ⟨hh,b⟩
 exact aa.yk ae (v:=.agg [str a.name,int a.ports,int a.kind]) Tryz.func40 Tryz.results40 (by simp[hh,b,dO]) (hQ _ _ _ _ (.of (.y6 (.cons (.v _) (.cons (.v _) (.cons (.v _) .nil))))) ⟨a,h,rfl⟩)
theorem kJ (a:Control)  : aq Tryz.prog 40 [.agg [str a.name,int a.ports,int a.kind]] (fun r=>r = .agg [str ((jY a).name),int ((jY a).ports),int ((jY a).kind)]):=(sw a _ (vt a )).mono (by rintro _ ⟨_,rfl,rfl⟩;rfl)
theorem e10:Ent Tryz.prog 10:=Ent.of Tryz.func10 (by kernel_rfl) rfl
theorem qs (a:List Control) (Z:(List Control)→Prop) (h:fM a Z):a7 Tryz.prog 10 [.list false (a.map Control.cells)] (.s [.c,.c,.c]) (fun r=>∃ y:List Control,Z y∧r = .list true (y.map Control.cells)):=by
 unfold fM at h
 have sp:Sep bc 0 [] []:=Sep.nil (by simp)
 refine a7.of Tryz.func10 rfl Tryz.ntmps10 (by simp) fun Q hQ=>?_
 refine aa.cut (fun ρ H n=>ρ 0 = .list false (a.map Control.cells)∧Sep H n [] []) (by refine⟨by simp ,sp⟩) ?_
 rintro ρ H n1 ⟨hh,sp⟩
 refine zE fun k' hk'=>?_
 simp[hh]
 apply hk'
 refine zE fun k' hk'=>?_
 obtain⟨cf,elen2,h⟩:=atm h
 have f3:=fun H=>ax (H:=H) (fr:=false) (f:=Control.cells) A0 elen2
 obtain⟨hb4,h⟩:=h
 obtain⟨l5,el5,h⟩:=atm h
 simp[hh,f3,hb4,el5,-aH]
 apply hk'
 refine aa.cut (fun ρ H n=>∃ (v7:ag),(ρ 0 = .list false (a.map Control.cells)∧ρ 3=v7)∧Sep H n [oE [.c,.c,.c] Control.cells v7 l5] []) (by refine⟨.arr (n1,7) cf.toNat 0 cf.toNat,by simp[hh,f3,hb4,el5,-aH],(by rw[el5];exact Sep.nJ (z:=[str [],int 0,int 0]) (f:=Control.cells) (k:=cf.toNat) sp (fun H=>by show Row H [.c,.c,.c] [str [],int 0,int 0] [str [],int 0,int 0] [];simp[Row,Tr]))⟩) ?_
 clear hh
 rintro ρ H n8 ⟨v7,hh,sp⟩
 refine aa.seq ?_
 refine zE fun k' hk'=>?_
 simp[hh]
 apply hk'
 refine aa.block ?_
 refine aa.aw h (fun (sJ:Int × (List Control)) ρ H n=>match sJ with | (i16,d)=>∃ (i:ag),(ρ 0 = .list false (a.map Control.cells)∧ρ 3=i∧ρ 4=int i16)∧Sep H n [oE [.c,.c,.c] Control.cells i d] []) (by refine⟨v7,by simp[hh],sp⟩) ?_
 clear hh
 rintro⟨i16,d⟩ ρ H n19 K h ⟨i,hh,sp⟩ t
 refine aa.seq ?_
 refine zE fun k' hk'=>?_
 obtain⟨T,u,h⟩:=atm h
 have f23:=fun H=>ax (H:=H) (fr:=false) (f:=Control.cells) A0 u
 obtain⟨A,B,h⟩:=atm h
 have f25:=aT (k:=.i64) B
 simp[hh,f23,f25,-ai,-aH]
 apply hk'
 refine aa.ite (b:=A) (by simp[hh]) (fun e=>?_) (fun e=>?_)
 ·replace h:=h.1 e
  refine aa.skip ?_
  refine aa.seq ?_
  refine aa.block ?_
  refine zF fun k' hk'=>?_
  obtain⟨C,h⟩:=h
  obtain⟨D,E,h⟩:=atm h
  have f28:=fun H=>aE (H:=H) (fr:=false) (f:=Control.cells) (k:=.i64) A0 (fun _=>rfl) C E
  obtain⟨F,G,h⟩:=atm h
  simp[hh,f28,e,-ah]
  refine aG.aB ae (kJ D ) e40 (.cons (aF.agg (.cons (.v _ _ _) (.cons (.v _ _ _) (.cons (.v _ _ _) .nil)))) .nil) (by decide) (by decide) rfl (by simp[hh,f28,e,-ah]) ?_
  rintro _ rfl
  rw[← G]
  obtain⟨l,h⟩:=h
  obtain⟨o,hv,I,U,V⟩:=Sep.fC sp (by simp) l
  subst hv
  obtain⟨W,J,h⟩:=atm h
  have f36:=fun H (hm:H o=some ⟨3,d.map Control.cells⟩)=>cF (H:=H) (k:=.i64) (off:=0) (len:=d.length) (g:=d.length) tV hm (by simp) rfl l
  have f37:=cH (q:=i16.toNat) l J rfl
  obtain⟨p,L,h⟩:=atm h
  simp[hh,I,f28,f36,f37,e,-ah,-bG]
  refine dv (q:=i16.toNat) (news:=Control.cells F) [] [] sp (by simp) (by simp;omega) (by simp) (by simp[-ay,o1x]) (az.v _ (az.v _ (az.v _ az.nil))) ?_
  rintro M sp X
  replace sp:Sep M n19 [oE [.c,.c,.c] Control.cells (.arr o d.length 0 d.length) p] []:=Sep.st L sp
  simp[hh,f28,f36,f37,e,-ah]
  apply hk'
  refine aa.cut (fun ρ H n=>∃ (j:ag),(ρ 0 = .list false (a.map Control.cells)∧ρ 3=j∧ρ 4=int i16)∧Sep H n [oE [.c,.c,.c] Control.cells j p] []) (by refine⟨.arr o d.length 0 d.length,by simp[hh,f28,f36,f37,e,-ah],sp⟩) ?_
  clear hh
  rintro ρ H Y ⟨j,hh,sp⟩
  refine aa.inBlock ?_
  refine zF fun k' hk'=>?_
  obtain⟨N,h⟩:=h
  obtain⟨O,R,h⟩:=atm h
  have f46:=aI N R
  simp[hh,f46,-ai]
  apply hk'
  refine t (O,p) _ _ _ h (by refine⟨j,by simp[hh],sp⟩)
 replace h:=h.2 e
 refine aa.exit rfl ?_
 refine zE fun k' hk'=>?_
 simp[hh,e]
 apply hk'
 exact aa.aV (v:=i) Tryz.func10 Tryz.results10 (by simp[hh,e]) (hQ _ _ _ _ (Sep.sub (ids':=[]) sp (by simp)) ⟨d,h,rfl⟩)
theorem ew (a:List Control) (hp:cT a):a7 Tryz.prog 10 [.list false (a.map Control.cells)] (.s [.c,.c,.c]) (fun r=>r = .list true ((eP a).map Control.cells)):=(qs a _ (tg a hp)).mono (by rintro _ ⟨_,rfl,rfl⟩;rfl)
theorem F6:Ent Tryz.prog 106:=Ent.of Tryz.func106 (by kernel_rfl) rfl
theorem w0 (a:aA) (Z:aA→Prop) (h:pN a Z):aq Tryz.prog 106 [.agg [str a.name,int a.link]] (fun r=>∃ y:aA,Z y∧r = .agg [str y.name,int y.link]):=by
 unfold pN at h
 refine aq.of Tryz.func106 rfl Tryz.ntmps106 (by simp) fun Q hQ=>?_
 refine aa.cut (fun ρ H n=>ρ 0 = .agg [str a.name,int a.link]) (by simp[]) ?_
 rintro ρ H n1 hh
 refine zE fun k' hk'=>?_
 simp[hh]
 apply hk'
 refine aa.cut (fun ρ H n=>(ρ 1=pA n1 1∧ρ 2=pA (n1+1) 2)∧H (n1,1)=some ⟨2,[[str a.name,int a.link]]⟩∧H (n1+1,2)=some ⟨2,[[str [],int 0]]⟩) (by refine⟨?_,?_,?_⟩<;>simp[hh]) ?_
 clear hh
 rintro ρ H n4 ⟨hh,c,b⟩
 refine zE fun k' hk'=>?_
 simp[hh,c,b]
 apply hk'
 refine aa.cut (fun ρ H n=>(ρ 1=pA n1 1∧ρ 2=pA (n1+1) 2∧ρ 3=pA n4 3)∧H (n1,1)=some ⟨2,[[str a.name,int a.link]]⟩∧H (n1+1,2)=some ⟨2,[[str [],int 0]]⟩∧H (n4,3)=some ⟨2,[[str [],int 0]]⟩) (by refine⟨?_,?_,?_,?_⟩<;>simp[hh,c,b]) ?_
 clear hh c b
 rintro ρ H n6 ⟨hh,c,b,d⟩
 refine zE fun k' hk'=>?_
 simp[hh,c,b,d]
 apply hk'
 refine aa.cut (fun ρ H n=>(ρ 1=pA n1 1∧ρ 2=pA (n1+1) 2∧ρ 3=pA n4 3)∧H (n1,1)=some ⟨2,[[str a.name,int a.link]]⟩∧H (n1+1,2)=some ⟨2,[[str [],int 0]]⟩∧H (n4,3)=some ⟨2,[[str a.name,int 0]]⟩) (by refine⟨?_,?_,?_,?_⟩<;>simp[hh,c,b,d]) ?_
 clear hh c b d
 rintro ρ H n7 ⟨hh,c,b,d⟩
 refine zE fun k' hk'=>?_
 simp[hh,c,b,d]
 apply hk'
 refine aa.cut (fun ρ H n=>(ρ 2=pA (n1+1) 2∧ρ 3=pA n4 3)∧H (n1+1,2)=some ⟨2,[[str [],int 0]]⟩∧H (n4,3)=some ⟨2,[[str a.name,int a.link]]⟩) (by refine⟨?_,?_,?_⟩<;>simp[hh,c,b,d]) ?_
 clear hh c b d
 rintro ρ H n8 ⟨hh,b,d⟩
 refine zE fun k' hk'=>?_
 simp[hh,b,d]
 apply hk'
 refine aa.cut (fun ρ H n=>ρ 2=pA (n1+1) 2∧H (n1+1,2)=some ⟨2,[[str a.name,int a.link]]⟩) (by refine⟨?_,?_⟩<;>simp[hh,b,d]) ?_
 clear hh b d
 rintro ρ H n9 ⟨hh,b⟩
 exact aa.yk ae (v:=.agg [str a.name,int a.link]) Tryz.func106 Tryz.results106 (by simp[hh,b,dO]) (hQ _ _ _ _ (.of (.y6 (.cons (.v _) (.cons (.v _) .nil)))) ⟨a,h,rfl⟩)
theorem pf (a:aA)  : aq Tryz.prog 106 [.agg [str a.name,int a.link]] (fun r=>r = .agg [str ((vv a).name),int ((vv a).link)]):=(w0 a _ (Bg a )).mono (by rintro _ ⟨_,rfl,rfl⟩;rfl)
theorem e44:Ent Tryz.prog 44:=Ent.of Tryz.func44 (by kernel_rfl) rfl
theorem u9 (a:List aA) (Z:(List aA)→Prop) (h:kt a Z):a7 Tryz.prog 44 [.list false (a.map aA.cells)] (.s [.c,.c]) (fun r=>∃ y:List aA,Z y∧r = .list true (y.map aA.cells)):=by
 unfold kt at h
 have sp:Sep bc 0 [] []:=Sep.nil (by simp)
 refine a7.of Tryz.func44 rfl Tryz.ntmps44 (by simp) fun Q hQ=>?_
 refine aa.cut (fun ρ H n=>ρ 0 = .list false (a.map aA.cells)∧Sep H n [] []) (by refine⟨by simp ,sp⟩) ?_
 rintro ρ H n1 ⟨hh,sp⟩
 refine zE fun k' hk'=>?_
 simp[hh]
 apply hk'
 refine zE fun k' hk'=>?_
 obtain⟨cf,elen2,h⟩:=atm h
 have f3:=fun H=>ax (H:=H) (fr:=false) (f:=aA.cells) A3 elen2
 obtain⟨hb4,h⟩:=h
 obtain⟨l5,el5,h⟩:=atm h
 simp[hh,f3,hb4,el5,-aH]
 apply hk'
 refine aa.cut (fun ρ H n=>∃ (v7:ag),(ρ 0 = .list false (a.map aA.cells)∧ρ 3=v7)∧Sep H n [oW v7 l5] []) (by refine⟨.arr (n1,7) cf.toNat 0 cf.toNat,by simp[hh,f3,hb4,el5,-aH],(by rw[el5];exact Sep.nJ (z:=[str [],int 0]) (f:=aA.cells) (k:=cf.toNat) sp (fun H=>by show Row H [.c,.c] [str [],int 0] [str [],int 0] [];simp[Row,Tr]))⟩) ?_
 clear hh
 rintro ρ H n8 ⟨v7,hh,sp⟩
 refine aa.seq ?_
 refine zE fun k' hk'=>?_
 simp[hh]
 apply hk'
 refine aa.block ?_
 refine aa.aw h (fun (sJ:Int × (List aA)) ρ H n=>match sJ with | (i16,d)=>∃ (i:ag),(ρ 0 = .list false (a.map aA.cells)∧ρ 3=i∧ρ 4=int i16)∧Sep H n [oW i d] []) (by refine⟨v7,by simp[hh],sp⟩) ?_
 clear hh
 rintro⟨i16,d⟩ ρ H n19 K h ⟨i,hh,sp⟩ t
 refine aa.seq ?_
 refine zE fun k' hk'=>?_
 obtain⟨T,u,h⟩:=atm h
 have f23:=fun H=>ax (H:=H) (fr:=false) (f:=aA.cells) A3 u
 obtain⟨A,B,h⟩:=atm h
 have f25:=aT (k:=.i64) B
 simp[hh,f23,f25,-ai,-aH]
 apply hk'
 refine aa.ite (b:=A) (by simp[hh]) (fun e=>?_) (fun e=>?_)
 ·replace h:=h.1 e
  refine aa.skip ?_
  refine aa.seq ?_
  refine aa.block ?_
  refine zF fun k' hk'=>?_
  obtain⟨C,h⟩:=h
  obtain⟨D,E,h⟩:=atm h
  have f28:=fun H=>aE (H:=H) (fr:=false) (f:=aA.cells) (k:=.i64) A3 (fun _=>rfl) C E
  obtain⟨F,G,h⟩:=atm h
  simp[hh,f28,e,-ah]
  refine aG.aB ae (pf D ) F6 (.cons (aF.agg (.cons (.v _ _ _) (.cons (.v _ _ _) .nil))) .nil) (by decide) (by decide) rfl (by simp[hh,f28,e,-ah]) ?_
  rintro _ rfl
  rw[← G]
  obtain⟨l,h⟩:=h
  obtain⟨o,hv,I,U,V⟩:=Sep.fC sp (by simp) l
  subst hv
  obtain⟨W,J,h⟩:=atm h
  have f36:=fun H (hm:H o=some ⟨2,d.map aA.cells⟩)=>cF (H:=H) (k:=.i64) (off:=0) (len:=d.length) (g:=d.length) fm hm (by simp) rfl l
  have f37:=cH (q:=i16.toNat) l J rfl
  obtain⟨p,L,h⟩:=atm h
  simp[hh,I,f28,f36,f37,e,-ah,-bG]
  refine dv (q:=i16.toNat) (news:=aA.cells F) [] [] sp (by simp) (by simp;omega) (by simp) (by simp[-ay,o1x]) (az.v _ (az.v _ az.nil)) ?_
  rintro M sp X
  replace sp:Sep M n19 [oW (.arr o d.length 0 d.length) p] []:=Sep.st L sp
  simp[hh,f28,f36,f37,e,-ah]
  apply hk'
  refine aa.cut (fun ρ H n=>∃ (j:ag),(ρ 0 = .list false (a.map aA.cells)∧ρ 3=j∧ρ 4=int i16)∧Sep H n [oW j p] []) (by refine⟨.arr o d.length 0 d.length,by simp[hh,f28,f36,f37,e,-ah],sp⟩) ?_
  clear hh
  rintro ρ H Y ⟨j,hh,sp⟩
  refine aa.inBlock ?_
  refine zF fun k' hk'=>?_
  obtain⟨N,h⟩:=h
  obtain⟨O,R,h⟩:=atm h
  have f46:=aI N R
  simp[hh,f46,-ai]
  apply hk'
  refine t (O,p) _ _ _ h (by refine⟨j,by simp[hh],sp⟩)
 replace h:=h.2 e
 refine aa.exit rfl ?_
 refine zE fun k' hk'=>?_
 simp[hh,e]
 apply hk'
 exact aa.aV (v:=i) Tryz.func44 Tryz.results44 (by simp[hh,e]) (hQ _ _ _ _ (Sep.sub (ids':=[]) sp (by simp)) ⟨d,h,rfl⟩)
theorem nA (a:List aA) (hp:jl a):a7 Tryz.prog 44 [.list false (a.map aA.cells)] (.s [.c,.c]) (fun r=>r = .list true ((wb a).map aA.cells)):=(u9 a _ (zn a hp)).mono (by rintro _ ⟨_,rfl,rfl⟩;rfl)
theorem FQ:Ent Tryz.prog 105:=Ent.of Tryz.func105 (by kernel_rfl) rfl
theorem xy (a:aj) (Z:aj→Prop) (h:mr a Z):a7 Tryz.prog 105 [.agg [int a.control,int a.parent,.list false (a.links.map al)]] (.a [.c,.c,.s [.c]]) (fun r=>∃ y:aj,Z y∧r = .agg [int y.control,int y.parent,.list true (y.links.map al)]):=by
 unfold mr at h
 have sp:Sep bc 0 [] []:=Sep.nil (by simp)
 refine a7.of Tryz.func105 rfl Tryz.ntmps105 (by simp) fun Q hQ=>?_
 refine aa.cut (fun ρ H n=>ρ 0 = .agg [int a.control,int a.parent,.list false (a.links.map al)]∧Sep H n [] []) (by refine⟨by simp ,sp⟩) ?_
 rintro ρ H n1 ⟨hh,sp⟩
 refine zE fun k' hk'=>?_
 simp[hh]
 apply hk'
 refine aa.cut (fun ρ H n=>((ρ 1=pA n1 1∧ρ 2=pA (n1+1) 2)∧H (n1,1)=some ⟨3,[[int a.control,int a.parent,.list false (a.links.map al)]]⟩∧H (n1+1,2)=some ⟨3,[[int 0,int 0,.v (.slice none 0 0)]]⟩)∧Sep H n [] [(n1+1,2),(n1,1)]) (by refine⟨by simp[hh],sp.var.var⟩) ?_
 clear hh
 rintro ρ H n4 ⟨⟨hh,d,b⟩,sp⟩
 refine zE fun k' hk'=>?_
 simp[hh,d,b]
 apply hk'
 refine aa.cut (fun ρ H n=>((ρ 1=pA n1 1∧ρ 2=pA (n1+1) 2∧ρ 3=pA n4 3)∧H (n1,1)=some ⟨3,[[int a.control,int a.parent,.list false (a.links.map al)]]⟩∧H (n1+1,2)=some ⟨3,[[int 0,int 0,.v (.slice none 0 0)]]⟩∧H (n4,3)=some ⟨3,[[int 0,int 0,.v (.slice none 0 0)]]⟩)∧Sep H n [] [(n4,3),(n1+1,2),(n1,1)]) (by refine⟨by simp[hh,d,b],sp.var⟩) ?_
 clear hh d b
 rintro ρ H n6 ⟨⟨hh,d,b,e⟩,sp⟩
 refine zE fun k' hk'=>?_
 simp[hh,d,b,e]
 apply hk'
 refine aa.cut (fun ρ H n=>((ρ 1=pA n1 1∧ρ 2=pA (n1+1) 2∧ρ 3=pA n4 3)∧H (n1,1)=some ⟨3,[[int a.control,int a.parent,.list false (a.links.map al)]]⟩∧H (n1+1,2)=some ⟨3,[[int 0,int 0,.v (.slice none 0 0)]]⟩∧H (n4,3)=some ⟨3,[[int a.control,int 0,.v (.slice none 0 0)]]⟩)∧Sep H n [] [(n4,3),(n1+1,2),(n1,1)]) (by refine⟨by simp[hh,d,b,e],(Sep.bF (w:=(n4,3)) sp (by simp))⟩) ?_
 clear hh d b e
 rintro ρ H n7 ⟨⟨hh,d,b,e⟩,sp⟩
 refine zE fun k' hk'=>?_
 simp[hh,d,b,e]
 apply hk'
 refine aa.cut (fun ρ H n=>((ρ 1=pA n1 1∧ρ 2=pA (n1+1) 2∧ρ 3=pA n4 3)∧H (n1,1)=some ⟨3,[[int a.control,int a.parent,.list false (a.links.map al)]]⟩∧H (n1+1,2)=some ⟨3,[[int 0,int 0,.v (.slice none 0 0)]]⟩∧H (n4,3)=some ⟨3,[[int a.control,int a.parent,.v (.slice none 0 0)]]⟩)∧Sep H n [] [(n4,3),(n1+1,2),(n1,1)]) (by refine⟨by simp[hh,d,b,e],(Sep.bF (w:=(n4,3)) sp (by simp))⟩) ?_
 clear hh d b e
 rintro ρ H n8 ⟨⟨hh,d,b,e⟩,sp⟩
 refine zE fun k' hk'=>?_
 obtain⟨hb9,h⟩:=h
 obtain⟨i,l,h⟩:=atm h
 simp[hh,d,b,e]
 refine aG.cd ae (fE a.links hb9) e42 (.cons (cY false a.links) .nil) sp (by decide) (by decide) rfl (by simp[hh,d,b,e]) ?_
 rintro v11 o p _ sp rfl q j
 rw[← l] at sp
 have d:=(j _ (by simp)).trans d
 have b:=(j _ (by simp)).trans b
 have e:=(j _ (by simp)).trans e
 have f18:=Sep.oc sp
 simp[hh,d,b,e,f18,-ar,-ay,cAx,o1x]
 apply hk'
 refine aa.cut (fun ρ H n=>∃ (g:ag),((ρ 2=pA (n1+1) 2∧ρ 3=pA n4 3)∧H (n1+1,2)=some ⟨3,[[int 0,int 0,.v (.slice none 0 0)]]⟩∧H (n4,3)=some ⟨3,[[int a.control,int a.parent,g]]⟩)∧Sep H n [oI g i] [(n4,3),(n1+1,2)]) (by refine⟨v11,by simp[hh,d,b,e,f18,-ar,-ay,cAx,o1x],(Sep.sub (Sep.bF (w:=(n4,3)) sp (by simp)) (by simp +contextual))⟩) ?_
 clear hh d b e
 rintro ρ H n20 ⟨g,⟨hh,b,e⟩,sp⟩
 refine zE fun k' hk'=>?_
 have f21:=Sep.oc sp
 simp[hh,b,e,f21,-ar,-ay,cAx,o1x]
 apply hk'
 refine aa.cut (fun ρ H n=>∃ (v22:ag),(ρ 2=pA (n1+1) 2∧H (n1+1,2)=some ⟨3,[[int a.control,int a.parent,v22]]⟩)∧Sep H n [oI v22 i] [(n1+1,2)]) (by refine⟨g,by simp[hh,b,e,f21,-ar,-ay,cAx,o1x],(Sep.sub (Sep.bF (w:=(n1+1,2)) sp (by simp)) (by simp +contextual))⟩) ?_
 clear hh b e
 rintro ρ H n23 ⟨v22,⟨hh,b⟩,sp⟩
 exact aa.yk ae (v:=.agg [int a.control,int a.parent,v22]) Tryz.func105 Tryz.results105 (by simp[hh,b,dO]) (hQ _ _ _ _ (Sep.sub (ids':=[]) (Sep.pack (az.v _ (az.v _ (az.own az.nil))) sp) (by simp)) ⟨(aj.mk a.control a.parent i),h,rfl⟩)
theorem pI (a:aj) (hp:nK a):a7 Tryz.prog 105 [.agg [int a.control,int a.parent,.list false (a.links.map al)]] (.a [.c,.c,.s [.c]]) (fun r=>r = .agg [int ((rI a).control),int ((rI a).parent),.list true (((rI a).links).map al)]):=(xy a _ (Cr a hp)).mono (by rintro _ ⟨_,rfl,rfl⟩;rfl)
theorem e41:Ent Tryz.prog 41:=Ent.of Tryz.func41 (by kernel_rfl) rfl
theorem uH (a:List aj) (Z:(List aj)→Prop) (h:ko a Z):a7 Tryz.prog 41 [.list false (a.map (aj.cells false))] (.s [.c,.c,.s [.c]]) (fun r=>∃ y:List aj,Z y∧r = .list true (y.map (aj.cells true))):=by
 unfold ko at h
 have sp:Sep bc 0 [] []:=Sep.nil (by simp)
 refine a7.of Tryz.func41 rfl Tryz.ntmps41 (by simp) fun Q hQ=>?_
 refine aa.cut (fun ρ H n=>ρ 0 = .list false (a.map (aj.cells false))∧Sep H n [] []) (by refine⟨by simp ,sp⟩) ?_
 rintro ρ H n1 ⟨hh,sp⟩
 refine zE fun k' hk'=>?_
 simp[hh]
 apply hk'
 refine zE fun k' hk'=>?_
 obtain⟨cf,elen2,h⟩:=atm h
 have f3:=fun H=>ax (H:=H) (fr:=false) (f:=(aj.cells false)) AX elen2
 obtain⟨hb4,h⟩:=h
 obtain⟨l5,el5,h⟩:=atm h
 simp[hh,f3,hb4,el5,-aH]
 apply hk'
 refine aa.cut (fun ρ H n=>∃ (v7:ag),(ρ 0 = .list false (a.map (aj.cells false))∧ρ 3=v7)∧Sep H n [oN v7 l5] []) (by refine⟨.arr (n1,7) cf.toNat 0 cf.toNat,by simp[hh,f3,hb4,el5,-aH],(by rw[el5];exact Sep.nJ (z:=[int 0,int 0,.v (.slice none 0 0)]) (f:=(aj.cells true)) (k:=cf.toNat) sp (fun H=>by show Row H [.c,.c,.s [.c]] [int 0,int 0,.v (.slice none 0 0)] [int 0,int 0,.list true []] [];simp[Row,Tr]))⟩) ?_
 clear hh
 rintro ρ H n8 ⟨v7,hh,sp⟩
 refine aa.seq ?_
 refine zE fun k' hk'=>?_
 simp[hh]
 apply hk'
 refine aa.block ?_
 refine aa.aw h (fun (sJ:Int × (List aj)) ρ H n=>match sJ with | (i16,e)=>∃ (i:ag),(ρ 0 = .list false (a.map (aj.cells false))∧ρ 3=i∧ρ 4=int i16)∧Sep H n [oN i e] []) (by refine⟨v7,by simp[hh],sp⟩) ?_
 clear hh
 rintro⟨i16,e⟩ ρ H n19 K h ⟨i,hh,sp⟩ G
 refine aa.seq ?_
 refine zE fun k' hk'=>?_
 obtain⟨an,I,h⟩:=atm h
 have f23:=fun H=>ax (H:=H) (fr:=false) (f:=(aj.cells false)) AX I
 obtain⟨J,L,h⟩:=atm h
 have f25:=aT (k:=.i64) L
 simp[hh,f23,f25,-ai,-aH]
 apply hk'
 refine aa.ite (b:=J) (by simp[hh]) (fun d=>?_) (fun d=>?_)
 ·replace h:=h.1 d
  refine aa.skip ?_
  refine aa.seq ?_
  refine aa.block ?_
  refine zF fun k' hk'=>?_
  obtain⟨M,h⟩:=h
  obtain⟨u,N,h⟩:=atm h
  have f28:=fun H=>aE (H:=H) (fr:=false) (f:=(aj.cells false)) (k:=.i64) AX (fun _=>rfl) M N
  obtain⟨O,h⟩:=h
  obtain⟨A,R,h⟩:=atm h
  simp[hh,f28,d,-ah]
  refine aG.cd ae (pI u O) FQ (.cons (aF.agg (.cons (.v _ _ _) (.cons (.v _ _ _) (.cons (cY false u.links) .nil)))) .nil) sp (by decide) (by decide) rfl (by simp[hh,f28,d,-ah]) ?_
  rintro v31 ao n33 _ sp rfl ap aM
  rw[← R] at sp
  replace sp:=Sep.unpack sp
  obtain⟨L40,hv,T,sp⟩:=sp
  subst hv
  obtain⟨v37,a0,U,hv⟩:=xq (by simpa using T)
  subst hv
  simp only[dp,List.cons_append,List.nil_append] at sp
  replace sp:=Sep.scalar sp
  obtain⟨hv,sp⟩:=sp
  subst hv
  replace sp:=Sep.scalar sp
  obtain⟨hv,sp⟩:=sp
  subst hv
  replace sp:=Sep.rot sp
  try simp only[List.cons_append,List.nil_append,List.append_assoc] at sp
  obtain⟨B,h⟩:=h
  obtain⟨g,V,h⟩:=atm h
  obtain⟨C,a1,a2,W,o,D,E,X,Y,a3,a4,a5,j,a9⟩:=Sep.Ej (q:=i16.toNat) (f:=(aj.cells true)) sp B V rfl
  subst o
  obtain⟨ab,F,p,o⟩:=xq (by simpa using Y)
  subst o
  replace j:Sep _ _ [(.c,ab,int g.control),(.c,F,int g.parent),(.s [.c],p,.list true (g.links.map al))] W:=j
  obtain rfl:=Sep.cAt (K1:=[]) (K2:=[(.c,F,int g.parent),(.s [.c],p,.list true (g.links.map al))]) j
  obtain rfl:=Sep.cAt (K1:=[(.c,int g.control,int g.control)]) (K2:=[(.s [.c],p,.list true (g.links.map al))]) j
  have f62:=cF (k:=.i64) (off:=0) (len:=e.length) bj D E rfl B
  obtain⟨t,ac,h⟩:=atm h
  simp[hh,D,E,X,f28,f62,d,-ah,-bG]
  refine dv (q:=i16.toNat) (news:=(aj.cells true) A) [oI U A.links] [] sp (by simp) (by simp;omega) (by simp) (by simp[-ay,o1x,Sep.ay sp.dr]) (az.v _ (az.v _ (az.own az.nil))) ?_
  rintro ad sp bd
  replace sp:Sep ad n33 [oN (.arr C e.length 0 e.length) t] []:=Sep.st ac sp
  simp[hh,f28,f62,d,-ah]
  apply hk'
  refine aa.cut (fun ρ H n=>∃ (l:ag),(ρ 0 = .list false (a.map (aj.cells false))∧ρ 3=l∧ρ 4=int i16)∧Sep H n [oN l t] []) (by refine⟨.arr C e.length 0 e.length,by simp[hh,f28,f62,d,-ah],sp⟩) ?_
  clear hh
  rintro ρ H be ⟨l,hh,sp⟩
  refine aa.inBlock ?_
  refine zF fun k' hk'=>?_
  obtain⟨af,h⟩:=h
  obtain⟨v70,am,h⟩:=atm h
  have f71:=aI af am
  simp[hh,f71,-ai]
  apply hk'
  refine G (v70,t) _ _ _ h (by refine⟨l,by simp[hh],sp⟩)
 replace h:=h.2 d
 refine aa.exit rfl ?_
 refine zE fun k' hk'=>?_
 simp[hh,d]
 apply hk'
 exact aa.aV (v:=i) Tryz.func41 Tryz.results41 (by simp[hh,d]) (hQ _ _ _ _ (Sep.sub (ids':=[]) sp (by simp)) ⟨e,h,rfl⟩)
theorem nO (a:List aj) (hp:lO a):a7 Tryz.prog 41 [.list false (a.map (aj.cells false))] (.s [.c,.c,.s [.c]]) (fun r=>r = .list true ((uY a).map (aj.cells true))):=(uH a _ (AF a hp)).mono (by rintro _ ⟨_,rfl,rfl⟩;rfl)
theorem e11:Ent Tryz.prog 11:=Ent.of Tryz.func11 (by kernel_rfl) rfl
theorem rY (a:Big) (Z:Big→Prop) (h:gW a Z):a7 Tryz.prog 11 [.agg (bC false a)] (.a [.c,.s [.c,.c,.s [.c]],.s [.c],.c,.s [.c],.s [.c,.c]]) (fun r=>∃ y:Big,Z y∧r = .agg (bC true y)):=by
 unfold gW at h
 have sp:Sep bc 0 [] []:=Sep.nil (by simp)
 refine a7.of Tryz.func11 rfl Tryz.ntmps11 (by simp) fun Q hQ=>?_
 refine aa.cut (fun ρ H n=>ρ 0 = .agg (bC false a)∧Sep H n [] []) (by refine⟨by simp ,sp⟩) ?_
 rintro ρ H n1 ⟨hh,sp⟩
 refine zE fun k' hk'=>?_
 simp[hh]
 apply hk'
 refine aa.cut (fun ρ H n=>((ρ 1=pA n1 1∧ρ 2=pA (n1+1) 2)∧H (n1,1)=some ⟨6,[bC false a]⟩∧H (n1+1,2)=some ⟨6,[zB]⟩)∧Sep H n [] [(n1+1,2),(n1,1)]) (by refine⟨by simp[hh],sp.var.var⟩) ?_
 clear hh
 rintro ρ H n4 ⟨⟨hh,d,b⟩,sp⟩
 refine zE fun k' hk'=>?_
 simp[hh,d,b]
 apply hk'
 refine aa.cut (fun ρ H n=>((ρ 1=pA n1 1∧ρ 2=pA (n1+1) 2∧ρ 3=pA n4 3)∧H (n1,1)=some ⟨6,[bC false a]⟩∧H (n1+1,2)=some ⟨6,[zB]⟩∧H (n4,3)=some ⟨6,[zB]⟩)∧Sep H n [] [(n4,3),(n1+1,2),(n1,1)]) (by refine⟨by simp[hh,d,b],sp.var⟩) ?_
 clear hh d b
 rintro ρ H n6 ⟨⟨hh,d,b,e⟩,sp⟩
 refine zE fun k' hk'=>?_
 simp[hh,d,b,e]
 apply hk'
 refine aa.cut (fun ρ H n=>((ρ 1=pA n1 1∧ρ 2=pA (n1+1) 2∧ρ 3=pA n4 3)∧H (n1,1)=some ⟨6,[bC false a]⟩∧H (n1+1,2)=some ⟨6,[zB]⟩∧H (n4,3)=some ⟨6,[[int a.roots,.v (.slice none 0 0),.v (.slice none 0 0),int 0,.v (.slice none 0 0),.v (.slice none 0 0)]]⟩)∧Sep H n [] [(n4,3),(n1+1,2),(n1,1)]) (by refine⟨by simp[hh,d,b,e],(Sep.bF (w:=(n4,3)) sp (by simp))⟩) ?_
 clear hh d b e
 rintro ρ H n7 ⟨⟨hh,d,b,e⟩,sp⟩
 refine zE fun k' hk'=>?_
 obtain⟨hb8,h⟩:=h
 obtain⟨r9,er9,h⟩:=atm h
 simp[hh,d,b,e]
 refine aG.cd ae (nO a.nodes hb8) e41 (.cons (aF.jT false a.nodes) .nil) sp (by decide) (by decide) rfl (by simp[hh,d,b,e]) ?_
 rintro v10 V W _ sp rfl X E
 rw[← er9] at sp
 have d:=(E _ (by simp)).trans d
 have b:=(E _ (by simp)).trans b
 have e:=(E _ (by simp)).trans e
 have f17:=Sep.oc sp
 simp[hh,d,b,e,f17,-ar,-ay,cAx,o1x]
 apply hk'
 refine aa.cut (fun ρ H n=>∃ (i:ag),((ρ 1=pA n1 1∧ρ 2=pA (n1+1) 2∧ρ 3=pA n4 3)∧H (n1,1)=some ⟨6,[bC false a]⟩∧H (n1+1,2)=some ⟨6,[zB]⟩∧H (n4,3)=some ⟨6,[[int a.roots,i,.v (.slice none 0 0),int 0,.v (.slice none 0 0),.v (.slice none 0 0)]]⟩)∧Sep H n [oN i r9] [(n4,3),(n1+1,2),(n1,1)]) (by refine⟨v10,by simp[hh,d,b,e,f17,-ar,-ay,cAx,o1x],(Sep.bF (w:=(n4,3)) sp (by simp))⟩) ?_
 clear hh d b e
 rintro ρ H n19 ⟨i,⟨hh,d,b,e⟩,sp⟩
 refine zE fun k' hk'=>?_
 obtain⟨K,h⟩:=h
 obtain⟨g,L,h⟩:=atm h
 simp[hh,d,b,e]
 refine aG.cd ae (fE a.sites K) e42 (.cons (cY false a.sites) .nil) sp (by decide) (by decide) rfl (by simp[hh,d,b,e]) ?_
 rintro v22 Y n24 _ sp rfl ab F
 rw[← L] at sp
 have d:=(F _ (by simp)).trans d
 have b:=(F _ (by simp)).trans b
 have e:=(F _ (by simp)).trans e
 have f29:=Sep.oc sp
 simp[hh,d,b,e,f29,-ar,-ay,cAx,o1x]
 apply hk'
 refine aa.cut (fun ρ H n=>∃ (v30 v31:ag),((ρ 1=pA n1 1∧ρ 2=pA (n1+1) 2∧ρ 3=pA n4 3)∧H (n1,1)=some ⟨6,[bC false a]⟩∧H (n1+1,2)=some ⟨6,[zB]⟩∧H (n4,3)=some ⟨6,[[int a.roots,v31,v30,int 0,.v (.slice none 0 0),.v (.slice none 0 0)]]⟩)∧Sep H n [oI v30 g,oN v31 r9] [(n4,3),(n1+1,2),(n1,1)]) (by refine⟨v22,i,by simp[hh,d,b,e,f29,-ar,-ay,cAx,o1x],(Sep.bF (w:=(n4,3)) sp (by simp))⟩) ?_
 clear hh d b e
 rintro ρ H n32 ⟨v30,v31,⟨hh,d,b,e⟩,sp⟩
 refine zE fun k' hk'=>?_
 simp[hh,d,b,e]
 apply hk'
 refine aa.cut (fun ρ H n=>∃ (j l:ag),((ρ 1=pA n1 1∧ρ 2=pA (n1+1) 2∧ρ 3=pA n4 3)∧H (n1,1)=some ⟨6,[bC false a]⟩∧H (n1+1,2)=some ⟨6,[zB]⟩∧H (n4,3)=some ⟨6,[[int a.roots,l,j,int a.edges,.v (.slice none 0 0),.v (.slice none 0 0)]]⟩)∧Sep H n [oI j g,oN l r9] [(n4,3),(n1+1,2),(n1,1)]) (by refine⟨v30,v31,by simp[hh,d,b,e],(Sep.bF (w:=(n4,3)) sp (by simp))⟩) ?_
 clear hh d b e
 rintro ρ H n35 ⟨j,l,⟨hh,d,b,e⟩,sp⟩
 refine zE fun k' hk'=>?_
 obtain⟨M,h⟩:=h
 obtain⟨o,N,h⟩:=atm h
 simp[hh,d,b,e]
 refine aG.cd ae (kY a.outer M) e43 (.cons (o6 false a.outer) .nil) sp (by decide) (by decide) rfl (by simp[hh,d,b,e]) ?_
 rintro O ac ad _ sp rfl af G
 rw[← N] at sp
 have d:=(G _ (by simp)).trans d
 have b:=(G _ (by simp)).trans b
 have e:=(G _ (by simp)).trans e
 have f45:=Sep.oc sp
 simp[hh,d,b,e,f45,-ar,-ay,cAx,o1x]
 apply hk'
 refine aa.cut (fun ρ H n=>∃ (v46 p q:ag),((ρ 1=pA n1 1∧ρ 2=pA (n1+1) 2∧ρ 3=pA n4 3)∧H (n1,1)=some ⟨6,[bC false a]⟩∧H (n1+1,2)=some ⟨6,[zB]⟩∧H (n4,3)=some ⟨6,[[int a.roots,q,p,int a.edges,v46,.v (.slice none 0 0)]]⟩)∧Sep H n [oS v46 o,oI p g,oN q r9] [(n4,3),(n1+1,2),(n1,1)]) (by refine⟨O,j,l,by simp[hh,d,b,e,f45,-ar,-ay,cAx,o1x],(Sep.bF (w:=(n4,3)) sp (by simp))⟩) ?_
 clear hh d b e
 rintro ρ H am ⟨v46,p,q,⟨hh,d,b,e⟩,sp⟩
 refine zE fun k' hk'=>?_
 obtain⟨R,h⟩:=h
 obtain⟨I,T,h⟩:=atm h
 simp[hh,d,b,e]
 refine aG.cd ae (nA a.inner R) e44 (.cons (xW false a.inner) .nil) sp (by decide) (by decide) rfl (by simp[hh,d,b,e]) ?_
 rintro U an ao _ sp rfl ap J
 rw[← T] at sp
 have d:=(J _ (by simp)).trans d
 have b:=(J _ (by simp)).trans b
 have e:=(J _ (by simp)).trans e
 have f59:=Sep.oc sp
 simp[hh,d,b,e,f59,-ar,-ay,cAx,o1x]
 apply hk'
 refine aa.cut (fun ρ H n=>∃ (t u A B:ag),((ρ 2=pA (n1+1) 2∧ρ 3=pA n4 3)∧H (n1+1,2)=some ⟨6,[zB]⟩∧H (n4,3)=some ⟨6,[[int a.roots,B,A,int a.edges,u,t]]⟩)∧Sep H n [oW t I,oS u o,oI A g,oN B r9] [(n4,3),(n1+1,2)]) (by refine⟨U,v46,p,q,by simp[hh,d,b,e,f59,-ar,-ay,cAx,o1x],(Sep.sub (Sep.bF (w:=(n4,3)) sp (by simp)) (by simp +contextual))⟩) ?_
 clear hh d b e
 rintro ρ H aM ⟨t,u,A,B,⟨hh,b,e⟩,sp⟩
 refine zE fun k' hk'=>?_
 have f65:=Sep.oc sp.f3
 have f66:=Sep.oc sp.f2
 have f67:=Sep.oc sp.f1
 have f68:=Sep.oc sp
 simp[hh,b,e,f65,f66,f67,f68,-ar,-ay,cAx,o1x]
 apply hk'
 refine aa.cut (fun ρ H n=>∃ (C v70 D v72:ag),(ρ 2=pA (n1+1) 2∧H (n1+1,2)=some ⟨6,[[int a.roots,v72,D,int a.edges,v70,C]]⟩)∧Sep H n [oW C I,oS v70 o,oI D g,oN v72 r9] [(n1+1,2)]) (by refine⟨t,u,A,B,by simp[hh,b,e,f65,f66,f67,f68,-ar,-ay,cAx,o1x],(Sep.sub (Sep.bF (w:=(n1+1,2)) sp (by simp)) (by simp +contextual))⟩) ?_
 clear hh b e
 rintro ρ H a0 ⟨C,v70,D,v72,⟨hh,b⟩,sp⟩
 exact aa.yk ae (v:=.agg [int a.roots,v72,D,int a.edges,v70,C]) Tryz.func11 Tryz.results11 (by simp[hh,b,dO]) (hQ _ _ _ _ (Sep.sub (ids':=[]) (Sep.pack (az.v _ (az.own (az.own (az.v _ (az.own (az.own az.nil)))))) sp.f1.f2.f3) (by simp)) ⟨(Big.mk a.roots r9 g a.edges o I),h,rfl⟩)
theorem cE (a:Big) (hp:b4 a):a7 Tryz.prog 11 [.agg (bC false a)] (.a [.c,.s [.c,.c,.s [.c]],.s [.c],.c,.s [.c],.s [.c,.c]]) (fun r=>r = .agg [int ((cq a).roots),.list true (((cq a).nodes).map (aj.cells true)),.list true (((cq a).sites).map al),int ((cq a).edges),.list true (((cq a).outer).map aL),.list true (((cq a).inner).map aA.cells)]):=(rY a _ (uU a hp)).mono (by rintro _ ⟨_,rfl,rfl⟩;rfl)
theorem e64:Ent Tryz.prog 64:=Ent.of Tryz.func64 (by kernel_rfl) rfl
theorem sW (a:List Int) (k_:Int) (Z:((List Int) × Int)→Prop) (h:jk a k_ Z):eb Tryz.prog 64 (fun v=>[v,int k_]) (.s [.c]) (.list true (a.map al)) (fun e' r=>∃ y:(List Int) × Int,Z y∧e' = .list true (y.1.map al)∧r=int y.2):=by
 unfold jk at h
 refine eb.of Tryz.func64 rfl Tryz.ntmps64 (fun _=>by simp) fun H0 n0 v0 K0 ids0 sp Q hQ=>?_
 have h00:=sp.1
 have hid:∀ i ∈ ids0,H0 i=H0 i:=fun _ _=>rfl
 have hnn:n0≤n0:=Nat.le_refl _
 refine aa.cut (fun ρ H n=>(ρ 0=v0∧ρ 1=int k_)∧n0≤n∧(∀ i ∈ ids0,H i=H0 i)∧Sep H n (oI v0 a::K0) (ids0)) (by refine⟨?_,(by omega),hid,sp⟩<;>simp ) ?_
 rintro ρ H n2 ⟨hh,hnn,hid,sp⟩
 have hq_n2:=hnn
 refine zE fun k' hk'=>?_
 simp[hh]
 apply hk'
 refine aa.seq ?_
 refine zE fun k' hk'=>?_
 simp[hh]
 apply hk'
 refine aa.block ?_
 refine aa.aw h (fun (sJ:Int × Int × (List Int)) ρ H n=>match sJ with | (k10,i11,d)=>(ρ 0=v0∧ρ 1=int k10∧ρ 5=int i11)∧n0≤n∧(∀ i ∈ ids0,H i=H0 i)∧Sep H n (oI v0 d::K0) (ids0)) (by refine⟨?_,(by omega),hid,sp⟩<;>simp[hh]) ?_
 clear hh
 rintro⟨k10,i11,d⟩ ρ H t K h ⟨hh,hnn,hid,sp⟩ u
 have hq_n13:=hnn
 refine aa.seq ?_
 refine zE fun k' hk'=>?_
 obtain⟨A,B,h⟩:=atm h
 have f17:=dT (Sep.len (m:=A) sp aO (by rw[B,List.length_map]))
 obtain⟨C,D,h⟩:=atm h
 have f19:=aT (k:=.i64) D
 simp[hh,f17,f19,-ai,-aH]
 apply hk'
 refine aa.ite (b:=C) (by simp[hh]) (fun e=>?_) (fun e=>?_)
 ·replace h:=h.1 e
  refine aa.skip ?_
  refine aa.seq ?_
  refine aa.block ?_
  refine zE fun k' hk'=>?_
  obtain⟨l,h⟩:=h
  obtain⟨j,hv,E,R,T⟩:=Sep.fC sp (by simp) l
  subst hv
  obtain⟨U,F,h⟩:=atm h
  have f26:=fun H (hm:H j=some ⟨1,d.map al⟩)=>cF (H:=H) (k:=.i64) (off:=0) (len:=d.length) (g:=d.length) aO hm (by simp) rfl l
  have f27:=cH (q:=i11.toNat) l F rfl
  obtain⟨o,G,h⟩:=atm h
  simp[hh,E,f26,f27,e,-ah,-bG]
  refine dv (q:=i11.toNat) (news:=al k10) [] (K0) sp (by simp) (by simp;omega) (by simp) (by simp[-ay,o1x]) (az.v _ az.nil) ?_
  rintro p sp I
  replace sp:Sep p t (oI (.arr j d.length 0 d.length) o::K0) (ids0):=Sep.st G sp
  have hid:∀ i ∈ ids0,p i=H0 i:=fun i hi=>(I i (by simp[hi])).trans (hid i hi)
  simp[hh,f26,f27,e,-ah]
  apply hk'
  refine aa.cut (fun ρ H n=>(ρ 0 = .arr j d.length 0 d.length∧ρ 1=int k10∧ρ 5=int i11)∧n0≤n∧(∀ i ∈ ids0,H i=H0 i)∧Sep H n (oI (.arr j d.length 0 d.length) o::K0) (ids0)) (by refine⟨?_,(by omega),hid,sp⟩<;>simp[hh,f26,f27,e,-ah]) ?_
  clear hh
  rintro ρ H n32 ⟨hh,hnn,hid,sp⟩
  have hq_n32:=hnn
  refine zF fun k' hk'=>?_
  obtain⟨J,h⟩:=h
  obtain⟨L,M,h⟩:=atm h
  have f35:=aI J M
  simp[hh,f35,-ai]
  apply hk'
  refine aa.inBlock ?_
  refine zF fun k' hk'=>?_
  obtain⟨N,h⟩:=h
  obtain⟨v37,O,h⟩:=atm h
  have f38:=aI N O
  simp[hh,f38,-ai]
  apply hk'
  refine u (L,v37,o) _ _ _ h (by refine⟨?_,(by omega),hid,sp⟩<;>simp[hh])
 replace h:=h.2 e
 refine aa.exit rfl ?_
 refine zE fun k' hk'=>?_
 simp[hh,e]
 apply hk'
 exact aa.aV (v:=int k10) Tryz.func64 Tryz.results64 (by simp[hh,e]) (hQ _ _ _ _ (Sep.sub sp (by simp +contextual)) hid (by omega) ⟨(d,k10),h,rfl,rfl⟩)
theorem jt (a:List Int) (k_:Int) (hp:eh a k_):eb Tryz.prog 64 (fun v=>[v,int k_]) (.s [.c]) (.list true (a.map al)) (fun e' r=>e' = .list true (((aX a k_).1).map al)∧r=int ((aX a k_).2)):=(sW a k_ _ (xe a k_ hp)).mono (by rintro _ _ ⟨_,rfl,rfl,rfl⟩;exact⟨rfl,rfl⟩)
theorem e65:Ent Tryz.prog 65:=Ent.of Tryz.func65 (by kernel_rfl) rfl
theorem pJ (a:List Str) (k_:Int) (Z:((List Str) × Int)→Prop) (h:fv a k_ Z):eb Tryz.prog 65 (fun v=>[v,int k_]) (.s [.c]) (.list true (a.map aL)) (fun e' r=>∃ y:(List Str) × Int,Z y∧e' = .list true (y.1.map aL)∧r=int y.2):=by
 unfold fv at h
 refine eb.of Tryz.func65 rfl Tryz.ntmps65 (fun _=>by simp) fun H0 n0 v0 K0 ids0 sp Q hQ=>?_
 have h00:=sp.1
 have hid:∀ i ∈ ids0,H0 i=H0 i:=fun _ _=>rfl
 have hnn:n0≤n0:=Nat.le_refl _
 refine aa.cut (fun ρ H n=>(ρ 0=v0∧ρ 1=int k_)∧n0≤n∧(∀ i ∈ ids0,H i=H0 i)∧Sep H n (oS v0 a::K0) (ids0)) (by refine⟨?_,(by omega),hid,sp⟩<;>simp ) ?_
 rintro ρ H n2 ⟨hh,hnn,hid,sp⟩
 have hq_n2:=hnn
 refine zE fun k' hk'=>?_
 simp[hh]
 apply hk'
 refine aa.seq ?_
 refine zE fun k' hk'=>?_
 simp[hh]
 apply hk'
 refine aa.block ?_
 refine aa.aw h (fun (sJ:Int × Int × (List Str)) ρ H n=>match sJ with | (k10,i11,d)=>(ρ 0=v0∧ρ 1=int k10∧ρ 5=int i11)∧n0≤n∧(∀ i ∈ ids0,H i=H0 i)∧Sep H n (oS v0 d::K0) (ids0)) (by refine⟨?_,(by omega),hid,sp⟩<;>simp[hh]) ?_
 clear hh
 rintro⟨k10,i11,d⟩ ρ H t K h ⟨hh,hnn,hid,sp⟩ u
 have hq_n13:=hnn
 refine aa.seq ?_
 refine zE fun k' hk'=>?_
 obtain⟨A,B,h⟩:=atm h
 have f17:=dT (Sep.len (m:=A) sp cy (by rw[B,List.length_map]))
 obtain⟨C,D,h⟩:=atm h
 have f19:=aT (k:=.i64) D
 simp[hh,f17,f19,-ai,-aH]
 apply hk'
 refine aa.ite (b:=C) (by simp[hh]) (fun e=>?_) (fun e=>?_)
 ·replace h:=h.1 e
  refine aa.skip ?_
  refine aa.seq ?_
  refine aa.block ?_
  refine zE fun k' hk'=>?_
  obtain⟨E,h⟩:=h
  obtain⟨F,G,h⟩:=atm h
  simp[hh,e]
  refine aG.aB ae (ik k10 E) e62 (.cons (.v _ _ _) .nil) (by decide) (by decide) rfl (by simp[hh,e]) ?_
  rintro _ rfl
  rw[← G]
  obtain⟨l,h⟩:=h
  obtain⟨j,hv,I,W,X⟩:=Sep.fC sp (by simp) l
  subst hv
  obtain⟨Y,J,h⟩:=atm h
  have f28:=fun H (hm:H j=some ⟨1,d.map aL⟩)=>cF (H:=H) (k:=.i64) (off:=0) (len:=d.length) (g:=d.length) cy hm (by simp) rfl l
  have f29:=cH (q:=i11.toNat) l J rfl
  obtain⟨o,L,h⟩:=atm h
  simp[hh,I,f28,f29,e,-ah,-bG]
  refine dv (q:=i11.toNat) (news:=aL F) [] (K0) sp (by simp) (by simp;omega) (by simp) (by simp[-ay,o1x]) (az.v _ az.nil) ?_
  rintro p sp M
  replace sp:Sep p t (oS (.arr j d.length 0 d.length) o::K0) (ids0):=Sep.st L sp
  have hid:∀ i ∈ ids0,p i=H0 i:=fun i hi=>(M i (by simp[hi])).trans (hid i hi)
  simp[hh,f28,f29,e,-ah]
  apply hk'
  refine aa.cut (fun ρ H n=>(ρ 0 = .arr j d.length 0 d.length∧ρ 1=int k10∧ρ 5=int i11)∧n0≤n∧(∀ i ∈ ids0,H i=H0 i)∧Sep H n (oS (.arr j d.length 0 d.length) o::K0) (ids0)) (by refine⟨?_,(by omega),hid,sp⟩<;>simp[hh,f28,f29,e,-ah]) ?_
  clear hh
  rintro ρ H n34 ⟨hh,hnn,hid,sp⟩
  have hq_n34:=hnn
  refine zF fun k' hk'=>?_
  obtain⟨N,h⟩:=h
  obtain⟨O,R,h⟩:=atm h
  have f37:=aI N R
  simp[hh,f37,-ai]
  apply hk'
  refine aa.inBlock ?_
  refine zF fun k' hk'=>?_
  obtain⟨T,h⟩:=h
  obtain⟨U,V,h⟩:=atm h
  have f40:=aI T V
  simp[hh,f40,-ai]
  apply hk'
  refine u (O,U,o) _ _ _ h (by refine⟨?_,(by omega),hid,sp⟩<;>simp[hh])
 replace h:=h.2 e
 refine aa.exit rfl ?_
 refine zE fun k' hk'=>?_
 simp[hh,e]
 apply hk'
 exact aa.aV (v:=int k10) Tryz.func65 Tryz.results65 (by simp[hh,e]) (hQ _ _ _ _ (Sep.sub sp (by simp +contextual)) hid (by omega) ⟨(d,k10),h,rfl,rfl⟩)
theorem rU (a:List Str) (k_:Int) (hp:gy a k_):eb Tryz.prog 65 (fun v=>[v,int k_]) (.s [.c]) (.list true (a.map aL)) (fun e' r=>e' = .list true (((bN a k_).1).map aL)∧r=int ((bN a k_).2)):=(pJ a k_ _ (ra a k_ hp)).mono (by rintro _ _ ⟨_,rfl,rfl,rfl⟩;exact⟨rfl,rfl⟩)
theorem e66:Ent Tryz.prog 66:=Ent.of Tryz.func66 (by kernel_rfl) rfl
theorem rS (a:List aA) (k_:Int) (Z:((List aA) × Int)→Prop) (h:gJ a k_ Z):eb Tryz.prog 66 (fun v=>[v,int k_]) (.s [.c,.c]) (.list true (a.map aA.cells)) (fun e' r=>∃ y:(List aA) × Int,Z y∧e' = .list true (y.1.map aA.cells)∧r=int y.2):=by
 unfold gJ at h
 refine eb.of Tryz.func66 rfl Tryz.ntmps66 (fun _=>by simp) fun H0 n0 v0 K0 ids0 sp Q hQ=>?_
 have h00:=sp.1
 have hid:∀ i ∈ ids0,H0 i=H0 i:=fun _ _=>rfl
 have hnn:n0≤n0:=Nat.le_refl _
 refine aa.cut (fun ρ H n=>(ρ 0=v0∧ρ 1=int k_)∧n0≤n∧(∀ i ∈ ids0,H i=H0 i)∧Sep H n (oW v0 a::K0) (ids0)) (by refine⟨?_,(by omega),hid,sp⟩<;>simp ) ?_
 rintro ρ H n2 ⟨hh,hnn,hid,sp⟩
 have hq_n2:=hnn
 refine zE fun k' hk'=>?_
 simp[hh]
 apply hk'
 refine aa.seq ?_
 refine zE fun k' hk'=>?_
 simp[hh]
 apply hk'
 refine aa.block ?_
 refine aa.aw h (fun (sJ:Int × Int × (List aA)) ρ H n=>match sJ with | (k10,i11,d)=>(ρ 0=v0∧ρ 1=int k10∧ρ 5=int i11)∧n0≤n∧(∀ i ∈ ids0,H i=H0 i)∧Sep H n (oW v0 d::K0) (ids0)) (by refine⟨?_,(by omega),hid,sp⟩<;>simp[hh]) ?_
 clear hh
 rintro⟨k10,i11,d⟩ ρ H I K h ⟨hh,hnn,hid,sp⟩ J
 have hq_n13:=hnn
 refine aa.seq ?_
 refine zE fun k' hk'=>?_
 obtain⟨L,M,h⟩:=atm h
 have f17:=dT (Sep.len (m:=L) sp fm (by rw[M,List.length_map]))
 obtain⟨N,O,h⟩:=atm h
 have f19:=aT (k:=.i64) O
 simp[hh,f17,f19,-ai,-aH]
 apply hk'
 refine aa.ite (b:=N) (by simp[hh]) (fun e=>?_) (fun e=>?_)
 ·replace h:=h.1 e
  refine aa.skip ?_
  refine aa.seq ?_
  refine aa.block ?_
  refine zE fun k' hk'=>?_
  obtain⟨R,h⟩:=h
  obtain⟨A,T,h⟩:=atm h
  simp[hh,e]
  refine aG.aB ae (ik k10 R) e62 (.cons (.v _ _ _) .nil) (by decide) (by decide) rfl (by simp[hh,e]) ?_
  rintro _ rfl
  rw[← T]
  obtain⟨l,h⟩:=h
  obtain⟨j,hv,U,aM,a0⟩:=Sep.fC sp (by simp) l
  subst hv
  obtain⟨B,C,h⟩:=atm h
  have f28:=fun H (hm:H j=some ⟨2,d.map aA.cells⟩)=>cF (H:=H) (k:=.i64) (off:=0) (len:=d.length) (g:=d.length) fm hm (by simp) rfl l
  have f29:=cH (q:=i11.toNat) l C rfl
  obtain⟨p,V,h⟩:=atm h
  simp[hh,U,f28,f29,e,-ah,-bG]
  refine iu (i:=ty9) (q:=i11.toNat) (off:=0) (new:=[str A]) (ix:=i11) (x:=B) (y:=(aA.mk A B.link)) (f:=aA.cells) sp (by simp) (by simp) l C rfl rfl (fun _=>rfl) (by simp) (by simp) (by simp[dj]) (by simp) ?_
  rintro D sp W
  replace sp:Sep D I (oW (.arr j d.length 0 d.length) p::K0) (ids0):=by rw[V];exact sp
  have hid:∀ i ∈ ids0,D i=H0 i:=fun i hi=>(W i (by simp[hi])).trans (hid i hi)
  simp[hh,f28,f29,e,-ah]
  apply hk'
  refine aa.cut (fun ρ H n=>(ρ 0 = .arr j d.length 0 d.length∧ρ 1=int k10∧ρ 5=int i11)∧n0≤n∧(∀ i ∈ ids0,H i=H0 i)∧Sep H n (oW (.arr j d.length 0 d.length) p::K0) (ids0)) (by refine⟨?_,(by omega),hid,sp⟩<;>simp[hh,f28,f29,e,-ah]) ?_
  clear hh
  rintro ρ H n34 ⟨hh,hnn,hid,sp⟩
  have hq_n34:=hnn
  refine zE fun k' hk'=>?_
  obtain⟨X,h⟩:=h
  obtain⟨t,Y,h⟩:=atm h
  have f37:=aI X Y
  simp[hh,f37,-ai]
  apply hk'
  refine zE fun k' hk'=>?_
  obtain⟨o,h⟩:=h
  obtain⟨a1,hv,ab,a2,a3⟩:=Sep.fC sp (by simp) o
  simp only[ag.arr.injEq] at hv
  obtain⟨hv,hln43,-⟩:=hv
  subst hv
  have hlshln43:=hln43.symm
  obtain⟨E,F,h⟩:=atm h
  have f45:=fun H (hm:H j=some ⟨2,p.map aA.cells⟩)=>cF (H:=H) (k:=.i64) (off:=0) (len:=d.length) (g:=d.length) fm hm (by simp[hln43]) rfl (by rw[hln43];exact o)
  have f46:=cH (q:=i11.toNat) o F rfl
  obtain⟨u,ac,h⟩:=atm h
  simp[hh,hlshln43,ab,f45,f46,-ah,-bG]
  refine iu (i:=ty3) (q:=i11.toNat) (off:=1) (new:=[int t]) (ix:=i11) (x:=E) (y:=(aA.mk E.name t)) (f:=aA.cells) sp (by simp) (by simp) o F rfl hln43 (fun _=>rfl) (by simp) (by simp) (by simp[dj]) (by simp) ?_
  rintro G sp ad
  replace sp:Sep G n34 (oW (.arr j d.length 0 d.length) u::K0) (ids0):=by rw[ac];exact sp
  have hid:∀ i ∈ ids0,G i=H0 i:=fun i hi=>(ad i (by simp[hi])).trans (hid i hi)
  simp[hh,hlshln43,f45,f46,-ah]
  apply hk'
  refine aa.cut (fun ρ H n=>(ρ 0 = .arr j d.length 0 d.length∧ρ 1=int t∧ρ 5=int i11)∧n0≤n∧(∀ i ∈ ids0,H i=H0 i)∧Sep H n (oW (.arr j d.length 0 d.length) u::K0) (ids0)) (by refine⟨?_,(by omega),hid,sp⟩<;>simp[hh,hlshln43,f45,f46,-ah]) ?_
  clear hh hlshln43
  rintro ρ H a4 ⟨hh,hnn,hid,sp⟩
  have hq_n51:=hnn
  refine zF fun k' hk'=>?_
  obtain⟨af,h⟩:=h
  obtain⟨v53,am,h⟩:=atm h
  have f54:=aI af am
  simp[hh,f54,-ai]
  apply hk'
  refine aa.inBlock ?_
  refine zF fun k' hk'=>?_
  obtain⟨an,h⟩:=h
  obtain⟨ao,ap,h⟩:=atm h
  have f57:=aI an ap
  simp[hh,f57,-ai]
  apply hk'
  refine J (v53,ao,u) _ _ _ h (by refine⟨?_,(by omega),hid,sp⟩<;>simp[hh])
 replace h:=h.2 e
 refine aa.exit rfl ?_
 refine zE fun k' hk'=>?_
 simp[hh,e]
 apply hk'
 exact aa.aV (v:=int k10) Tryz.func66 Tryz.results66 (by simp[hh,e]) (hQ _ _ _ _ (Sep.sub sp (by simp +contextual)) hid (by omega) ⟨(d,k10),h,rfl,rfl⟩)
theorem vW (a:List aA) (k_:Int) (hp:jM a k_):eb Tryz.prog 66 (fun v=>[v,int k_]) (.s [.c,.c]) (.list true (a.map aA.cells)) (fun e' r=>e' = .list true (((dh a k_).1).map aA.cells)∧r=int ((dh a k_).2)):=(rS a k_ _ (u4 a k_ hp)).mono (by rintro _ _ ⟨_,rfl,rfl,rfl⟩;exact⟨rfl,rfl⟩)
theorem e15:Ent Tryz.prog 15:=Ent.of Tryz.func15 (by kernel_rfl) rfl
theorem oQ (a:List Control) (k_:Int) (Z:((List Control) × Int)→Prop) (h:eI a k_ Z):eb Tryz.prog 15 (fun v=>[v,int k_]) (.s [.c,.c,.c]) (.list true (a.map Control.cells)) (fun e' r=>∃ y:(List Control) × Int,Z y∧e' = .list true (y.1.map Control.cells)∧r=int y.2):=by
 unfold eI at h
 refine eb.of Tryz.func15 rfl Tryz.ntmps15 (fun _=>by simp) fun H0 n0 v0 K0 ids0 sp Q hQ=>?_
 have h00:=sp.1
 have hid:∀ i ∈ ids0,H0 i=H0 i:=fun _ _=>rfl
 have hnn:n0≤n0:=Nat.le_refl _
 refine aa.cut (fun ρ H n=>(ρ 0=v0∧ρ 1=int k_)∧n0≤n∧(∀ i ∈ ids0,H i=H0 i)∧Sep H n (oE [.c,.c,.c] Control.cells v0 a::K0) (ids0)) (by refine⟨?_,(by omega),hid,sp⟩<;>simp ) ?_
 rintro ρ H n2 ⟨hh,hnn,hid,sp⟩
 have hq_n2:=hnn
 refine zE fun k' hk'=>?_
 simp[hh]
 apply hk'
 refine aa.seq ?_
 refine zE fun k' hk'=>?_
 simp[hh]
 apply hk'
 refine aa.block ?_
 refine aa.aw h (fun (sJ:Int × Int × (List Control)) ρ H n=>match sJ with | (k10,i11,d)=>(ρ 0=v0∧ρ 1=int k10∧ρ 5=int i11)∧n0≤n∧(∀ i ∈ ids0,H i=H0 i)∧Sep H n (oE [.c,.c,.c] Control.cells v0 d::K0) (ids0)) (by refine⟨?_,(by omega),hid,sp⟩<;>simp[hh]) ?_
 clear hh
 rintro⟨k10,i11,d⟩ ρ H O K h ⟨hh,hnn,hid,sp⟩ R
 have hq_n13:=hnn
 refine aa.seq ?_
 refine zE fun k' hk'=>?_
 obtain⟨T,U,h⟩:=atm h
 have f17:=dT (Sep.len (m:=T) sp tV (by rw[U,List.length_map]))
 obtain⟨V,W,h⟩:=atm h
 have f19:=aT (k:=.i64) W
 simp[hh,f17,f19,-ai,-aH]
 apply hk'
 refine aa.ite (b:=V) (by simp[hh]) (fun j=>?_) (fun j=>?_)
 ·replace h:=h.1 j
  refine aa.skip ?_
  refine aa.seq ?_
  refine aa.block ?_
  refine zE fun k' hk'=>?_
  obtain⟨X,h⟩:=h
  obtain⟨F,Y,h⟩:=atm h
  simp[hh,j]
  refine aG.aB ae (ik k10 X) e62 (.cons (.v _ _ _) .nil) (by decide) (by decide) rfl (by simp[hh,j]) ?_
  rintro _ rfl
  rw[← Y]
  obtain⟨l,h⟩:=h
  obtain⟨e,hv,ab,bk,bs⟩:=Sep.fC sp (by simp) l
  subst hv
  obtain⟨t,G,h⟩:=atm h
  have f28:=fun H (hm:H e=some ⟨3,d.map Control.cells⟩)=>cF (H:=H) (k:=.i64) (off:=0) (len:=d.length) (g:=d.length) tV hm (by simp) rfl l
  have f29:=cH (q:=i11.toNat) l G rfl
  obtain⟨u,ac,h⟩:=atm h
  simp[hh,ab,f28,f29,j,-ah,-bG]
  refine iu (i:=ty9) (q:=i11.toNat) (off:=0) (new:=[str F]) (ix:=i11) (x:=t) (y:=(Control.mk F t.ports t.kind)) (f:=Control.cells) sp (by simp) (by simp) l G rfl rfl (fun _=>rfl) (by simp) (by simp) (by simp[dj]) (by simp) ?_
  rintro I sp ad
  replace sp:Sep I O (oE [.c,.c,.c] Control.cells (.arr e d.length 0 d.length) u::K0) (ids0):=by rw[ac];exact sp
  have hid:∀ i ∈ ids0,I i=H0 i:=fun i hi=>(ad i (by simp[hi])).trans (hid i hi)
  simp[hh,f28,f29,j,-ah]
  apply hk'
  refine aa.cut (fun ρ H n=>(ρ 0 = .arr e d.length 0 d.length∧ρ 1=int k10∧ρ 5=int i11)∧n0≤n∧(∀ i ∈ ids0,H i=H0 i)∧Sep H n (oE [.c,.c,.c] Control.cells (.arr e d.length 0 d.length) u::K0) (ids0)) (by refine⟨?_,(by omega),hid,sp⟩<;>simp[hh,f28,f29,j,-ah]) ?_
  clear hh
  rintro ρ H n34 ⟨hh,hnn,hid,sp⟩
  have hq_n34:=hnn
  refine zE fun k' hk'=>?_
  obtain⟨af,h⟩:=h
  obtain⟨A,am,h⟩:=atm h
  have f37:=aI af am
  simp[hh,f37,-ai]
  apply hk'
  refine zE fun k' hk'=>?_
  obtain⟨o,h⟩:=h
  obtain⟨bv,hv,an,bC,b0⟩:=Sep.fC sp (by simp) o
  simp only[ag.arr.injEq] at hv
  obtain⟨hv,hln43,-⟩:=hv
  subst hv
  have hlshln43:=hln43.symm
  obtain⟨B,J,h⟩:=atm h
  have f45:=fun H (hm:H e=some ⟨3,u.map Control.cells⟩)=>cF (H:=H) (k:=.i64) (off:=0) (len:=d.length) (g:=d.length) tV hm (by simp[hln43]) rfl (by rw[hln43];exact o)
  have f46:=cH (q:=i11.toNat) o J rfl
  obtain⟨C,ao,h⟩:=atm h
  simp[hh,hlshln43,an,f45,f46,-ah,-bG]
  refine iu (i:=ty3) (q:=i11.toNat) (off:=1) (new:=[int A]) (ix:=i11) (x:=B) (y:=(Control.mk B.name A B.kind)) (f:=Control.cells) sp (by simp) (by simp) o J rfl hln43 (fun _=>rfl) (by simp) (by simp) (by simp[dj]) (by simp) ?_
  rintro L sp ap
  replace sp:Sep L n34 (oE [.c,.c,.c] Control.cells (.arr e d.length 0 d.length) C::K0) (ids0):=by rw[ao];exact sp
  have hid:∀ i ∈ ids0,L i=H0 i:=fun i hi=>(ap i (by simp[hi])).trans (hid i hi)
  simp[hh,hlshln43,f45,f46,-ah]
  apply hk'
  refine aa.cut (fun ρ H n=>(ρ 0 = .arr e d.length 0 d.length∧ρ 1=int A∧ρ 5=int i11)∧n0≤n∧(∀ i ∈ ids0,H i=H0 i)∧Sep H n (oE [.c,.c,.c] Control.cells (.arr e d.length 0 d.length) C::K0) (ids0)) (by refine⟨?_,(by omega),hid,sp⟩<;>simp[hh,hlshln43,f45,f46,-ah]) ?_
  clear hh hlshln43
  rintro ρ H aM ⟨hh,hnn,hid,sp⟩
  have hq_n51:=hnn
  refine zE fun k' hk'=>?_
  obtain⟨a0,h⟩:=h
  obtain⟨v53,a1,h⟩:=atm h
  have f54:=aI a0 a1
  simp[hh,f54,-ai]
  apply hk'
  refine zE fun k' hk'=>?_
  obtain⟨p,h⟩:=h
  obtain⟨b1,hv,a2,b2,b3⟩:=Sep.fC sp (by simp) p
  simp only[ag.arr.injEq] at hv
  obtain⟨hv,hln60,-⟩:=hv
  subst hv
  have hlshln60:=hln60.symm
  obtain⟨D,M,h⟩:=atm h
  have f62:=fun H (hm:H e=some ⟨3,C.map Control.cells⟩)=>cF (H:=H) (k:=.i64) (off:=0) (len:=d.length) (g:=d.length) tV hm (by simp[hln60]) rfl (by rw[hln60];exact p)
  have f63:=cH (q:=i11.toNat) p M rfl
  obtain⟨E,a3,h⟩:=atm h
  simp[hh,hlshln60,a2,f62,f63,-ah,-bG]
  refine iu (i:=ty3) (q:=i11.toNat) (off:=2) (new:=[int v53]) (ix:=i11) (x:=D) (y:=(Control.mk D.name D.ports v53)) (f:=Control.cells) sp (by simp) (by simp) p M rfl hln60 (fun _=>rfl) (by simp) (by simp) (by simp[dj]) (by simp) ?_
  rintro N sp a4
  replace sp:Sep N aM (oE [.c,.c,.c] Control.cells (.arr e d.length 0 d.length) E::K0) (ids0):=by rw[a3];exact sp
  have hid:∀ i ∈ ids0,N i=H0 i:=fun i hi=>(a4 i (by simp[hi])).trans (hid i hi)
  simp[hh,hlshln60,f62,f63,-ah]
  apply hk'
  refine aa.cut (fun ρ H n=>(ρ 0 = .arr e d.length 0 d.length∧ρ 1=int v53∧ρ 5=int i11)∧n0≤n∧(∀ i ∈ ids0,H i=H0 i)∧Sep H n (oE [.c,.c,.c] Control.cells (.arr e d.length 0 d.length) E::K0) (ids0)) (by refine⟨?_,(by omega),hid,sp⟩<;>simp[hh,hlshln60,f62,f63,-ah]) ?_
  clear hh hlshln60
  rintro ρ H b5 ⟨hh,hnn,hid,sp⟩
  have hq_n68:=hnn
  refine zF fun k' hk'=>?_
  obtain⟨a5,h⟩:=h
  obtain⟨v70,a9,h⟩:=atm h
  have f71:=aI a5 a9
  simp[hh,f71,-ai]
  apply hk'
  refine aa.inBlock ?_
  refine zF fun k' hk'=>?_
  obtain⟨bd,h⟩:=h
  obtain⟨be,bi,h⟩:=atm h
  have f74:=aI bd bi
  simp[hh,f74,-ai]
  apply hk'
  refine R (v70,be,E) _ _ _ h (by refine⟨?_,(by omega),hid,sp⟩<;>simp[hh])
 replace h:=h.2 j
 refine aa.exit rfl ?_
 refine zE fun k' hk'=>?_
 simp[hh,j]
 apply hk'
 exact aa.aV (v:=int k10) Tryz.func15 Tryz.results15 (by simp[hh,j]) (hQ _ _ _ _ (Sep.sub sp (by simp +contextual)) hid (by omega) ⟨(d,k10),h,rfl,rfl⟩)
theorem qo (a:List Control) (k_:Int) (hp:fJ a k_):eb Tryz.prog 15 (fun v=>[v,int k_]) (.s [.c,.c,.c]) (.list true (a.map Control.cells)) (fun e' r=>e' = .list true (((cL a k_).1).map Control.cells)∧r=int ((cL a k_).2)):=(oQ a k_ _ (qn a k_ hp)).mono (by rintro _ _ ⟨_,rfl,rfl,rfl⟩;exact⟨rfl,rfl⟩)
theorem e68:Ent Tryz.prog 68:=Ent.of Tryz.func68 (by kernel_rfl) rfl
theorem th (a:List Int) (k_:Int) (Z:Int→Prop) (h:iW a k_ Z):aq Tryz.prog 68 [.list false (a.map al),int k_] (fun r=>∃ y:Int,Z y∧r=int y):=by
 unfold iW at h
 refine aq.of Tryz.func68 rfl Tryz.ntmps68 (by simp) fun Q hQ=>?_
 refine aa.cut (fun ρ H n=>(ρ 0 = .list false (a.map al)∧ρ 1=int k_)) (by simp) ?_
 rintro ρ H n1 hh
 refine zE fun k' hk'=>?_
 simp[hh]
 apply hk'
 refine aa.seq ?_
 refine zE fun k' hk'=>?_
 simp[hh]
 apply hk'
 refine aa.block ?_
 refine aa.aw h (fun (sJ:Int × Int) ρ H n=>match sJ with | (k5,i6)=>(ρ 0 = .list false (a.map al)∧ρ 1=int k5∧ρ 5=int i6)) (by simp[hh]) ?_
 clear hh
 rintro⟨k5,i6⟩ ρ H n7 K h hh IH8
 refine aa.seq ?_
 refine zE fun k' hk'=>?_
 obtain⟨dt,g,h⟩:=atm h
 have f11:=fun H=>ax (H:=H) (fr:=false) (f:=al) aO g
 obtain⟨i,j,h⟩:=atm h
 have f13:=aT (k:=.i64) j
 simp[hh,f11,f13,-ai,-aH]
 apply hk'
 refine aa.ite (b:=i) (by simp[hh]) (fun c=>?_) (fun c=>?_)
 ·replace h:=h.1 c
  refine aa.skip ?_
  refine aa.seq ?_
  refine aa.block ?_
  refine aa.seq ?_
  refine zE fun k' hk'=>?_
  obtain⟨l,h⟩:=h
  obtain⟨C,o,h⟩:=atm h
  have f16:=fun H=>aE (H:=H) (fr:=false) (f:=al) (k:=.i64) aO (fun _=>rfl) l o
  obtain⟨p,q,h⟩:=atm h
  have f18:=dz (k:=.i64) q
  simp[hh,f16,f18,c,-ah,-ai]
  apply hk'
  refine aa.ite (b:=p) (by simp[hh,c]) (fun d=>?_) (fun d=>?_)
  ·replace h:=h.1 d
   refine zE fun k' hk'=>?_
   simp[hh,c,d]
   apply hk'
   exact aa.aV (v:=int (-1)) Tryz.func68 Tryz.results68 (by simp[hh,c,d]) (hQ _ _ _ _ (.of (.v _)) ⟨(-1),h,rfl⟩)
  replace h:=h.2 d
  refine aa.skip ?_
  refine zF fun k' hk'=>?_
  obtain⟨t,h⟩:=h
  obtain⟨v20,u,h⟩:=atm h
  have f21:=aI t u
  simp[hh,f21,c,d,-ai]
  apply hk'
  refine aa.inBlock ?_
  refine zF fun k' hk'=>?_
  obtain⟨A,h⟩:=h
  obtain⟨e,B,h⟩:=atm h
  have f24:=aI A B
  simp[hh,f24,c,d,-ai]
  apply hk'
  refine aa.cut (fun ρ H n=>(ρ 0 = .list false (a.map al)∧ρ 1=int v20∧ρ 5=int e)) (by simp[hh,f24,c,d,-ai]) ?_
  clear hh
  rintro ρ H n25 hh
  refine IH8 (v20,e) _ _ _ h (by simp[hh])
 replace h:=h.2 c
 refine aa.exit rfl ?_
 refine zE fun k' hk'=>?_
 simp[hh,c]
 apply hk'
 exact aa.aV (v:=int k5) Tryz.func68 Tryz.results68 (by simp[hh,c]) (hQ _ _ _ _ (.of (.v _)) ⟨k5,h,rfl⟩)
theorem pT (a:List Int) (k_:Int) (hp:gP a k_):aq Tryz.prog 68 [.list false (a.map al),int k_] (fun r=>r=int (ca a k_)):=(th a k_ _ (yg a k_ hp)).mono (by rintro _ ⟨_,rfl,rfl⟩;rfl)
end Go.Ab.Vg
/- Walks by program for YtbikfokhjdjfpaaGreatDoorAbNm. -/
namespace Go.Ab.Vg
open Go.Proofs
set_option maxRecDepth 100000
set_option linter.unusedSimpArgs false
set_option linter.unusedVariables false
attribute [local simp] aj.cells aA.cells al gp aL bC pA
theorem e63:Ent Tryz.prog 63:=Ent.of Tryz.func63 (by kernel_rfl) rfl
theorem sK (a:List aj) (k_:Int) (Z:((List aj) × Int)→Prop) (h:gZ a k_ Z):eb Tryz.prog 63 (fun v=>[v,int k_]) (.s [.c,.c,.s [.c]]) (.list true (a.map (aj.cells true))) (fun e' r=>∃ y:(List aj) × Int,Z y∧e' = .list true (y.1.map (aj.cells true))∧r=int y.2):=by
 unfold gZ at h
 refine eb.of Tryz.func63 rfl Tryz.ntmps63 (fun _=>by simp) fun H0 n0 v0 K0 ids0 sp Q hQ=>?_
 have h00:=sp.1
 have hid:∀ i ∈ ids0,H0 i=H0 i:=fun _ _=>rfl
 have hnn:n0≤n0:=Nat.le_refl _
 refine aa.cut (fun ρ H n=>(ρ 0=v0∧ρ 1=int k_)∧n0≤n∧(∀ i ∈ ids0,H i=H0 i)∧Sep H n (oN v0 a::K0) (ids0)) (by refine⟨?_,(by omega),hid,sp⟩<;>simp ) ?_
 rintro ρ H n2 ⟨hh,hnn,hid,sp⟩
 have hq_n2:=hnn
 refine zE fun k' hk'=>?_
 simp[hh]
 apply hk'
 refine aa.seq ?_
 refine zE fun k' hk'=>?_
 simp[hh]
 apply hk'
 refine aa.block ?_
 refine aa.aw h (fun (sJ:Int × Int × (List aj)) ρ H n=>match sJ with | (k10,i11,d)=>(ρ 0=v0∧ρ 1=int k10∧ρ 5=int i11)∧n0≤n∧(∀ i ∈ ids0,H i=H0 i)∧Sep H n (oN v0 d::K0) (ids0)) (by refine⟨?_,(by omega),hid,sp⟩<;>simp[hh]) ?_
 clear hh
 rintro⟨k10,i11,d⟩ ρ H a0 K h ⟨hh,hnn,hid,sp⟩ a1
 have hq_n13:=hnn
 refine aa.seq ?_
 refine zE fun k' hk'=>?_
 obtain⟨a2,a3,h⟩:=atm h
 have f17:=dT (Sep.len (m:=a2) sp bj (by rw[a3,List.length_map]))
 obtain⟨a4,a5,h⟩:=atm h
 have f19:=aT (k:=.i64) a5
 simp[hh,f17,f19,-ai,-aH]
 apply hk'
 refine aa.ite (b:=a4) (by simp[hh]) (fun o=>?_) (fun o=>?_)
 ·replace h:=h.1 o
  refine aa.skip ?_
  refine aa.seq ?_
  refine aa.block ?_
  refine zE fun k' hk'=>?_
  obtain⟨F,h⟩:=h
  obtain⟨g,T,h⟩:=atm h
  obtain⟨l,c8,c9,a9,G,U,V,bd,be,da,dc,dl,B,dr⟩:=Sep.Ej (q:=i11.toNat) (f:=(aj.cells true)) sp F T rfl
  subst G
  obtain⟨bi,W,I,G⟩:=xq (by simpa using be)
  subst G
  replace B:Sep _ _ [(.c,bi,int g.control),(.c,W,int g.parent),(.s [.c],I,.list true (g.links.map al))] a9:=B
  obtain rfl:=Sep.cAt (K1:=[]) (K2:=[(.c,W,int g.parent),(.s [.c],I,.list true (g.links.map al))]) B
  obtain rfl:=Sep.cAt (K1:=[(.c,int g.control,int g.control)]) (K2:=[(.s [.c],I,.list true (g.links.map al))]) B
  have f39:=cF (k:=.i64) (off:=0) (len:=d.length) bj U V rfl F
  obtain⟨X,bk,h⟩:=atm h
  simp[hh,U,V,bd,f39,o,-ah,-bG]
  refine ub (i:=ty3) (q:=i11.toNat) (off:=0) (ix:=i11) (x:=g) (y:=(aj.mk k10 g.parent g.links)) (f:=(aj.cells true)) [] [.c,.s [.c]] [] [int g.parent,.list true (g.links.map al)] sp rfl rfl F T rfl rfl rfl rfl rfl rfl rfl ?_
  rintro Y sp bs
  replace sp:Sep Y a0 (oN (.arr l d.length 0 d.length) X::K0) (ids0):=by rw[bk];exact sp
  have hid:∀ i ∈ ids0,Y i=H0 i:=fun i hi=>(bs i (by simp[hi])).trans (hid i hi)
  simp[hh,f39,o,-ah]
  apply hk'
  refine aa.cut (fun ρ H n=>(ρ 0 = .arr l d.length 0 d.length∧ρ 1=int k10∧ρ 5=int i11)∧n0≤n∧(∀ i ∈ ids0,H i=H0 i)∧Sep H n (oN (.arr l d.length 0 d.length) X::K0) (ids0)) (by refine⟨?_,(by omega),hid,sp⟩<;>simp[hh,f39,o,-ah]) ?_
  clear hh
  rintro ρ H bv ⟨hh,hnn,hid,sp⟩
  have hq_n44:=hnn
  refine zE fun k' hk'=>?_
  obtain⟨bC,h⟩:=h
  obtain⟨v46,b0,h⟩:=atm h
  have f47:=aI bC b0
  simp[hh,f47,-ai]
  apply hk'
  refine zE fun k' hk'=>?_
  obtain⟨J,h⟩:=h
  obtain⟨j,ab,h⟩:=atm h
  obtain⟨ds,d0,d1,b1,p,ac,C,b2,b3,d2,d3,d4,D,d5⟩:=Sep.Ej (q:=i11.toNat) (f:=(aj.cells true)) sp J ab rfl
  simp only[ag.arr.injEq] at p
  obtain⟨p,hln64,-⟩:=p
  subst p
  replace C:=C.trans hln64.symm
  obtain⟨b5,ad,L,p⟩:=xq (by simpa using b3)
  subst p
  replace D:Sep _ _ [(.c,b5,int j.control),(.c,ad,int j.parent),(.s [.c],L,.list true (j.links.map al))] b1:=D
  obtain rfl:=Sep.cAt (K1:=[]) (K2:=[(.c,ad,int j.parent),(.s [.c],L,.list true (j.links.map al))]) D
  obtain rfl:=Sep.cAt (K1:=[(.c,int j.control,int j.control)]) (K2:=[(.s [.c],L,.list true (j.links.map al))]) D
  have f68:=cF (k:=.i64) (off:=0) (len:=d.length) bj ac C rfl (by rw[hln64];exact J)
  obtain⟨af,b7,h⟩:=atm h
  simp[hh,ac,C,b2,f68,-ah,-bG]
  refine ub (i:=ty3) (q:=i11.toNat) (off:=1) (ix:=i11) (x:=j) (y:=(aj.mk j.control v46 j.links)) (f:=(aj.cells true)) [.c] [.s [.c]] [int j.control] [.list true (j.links.map al)] sp rfl rfl J ab rfl hln64 rfl rfl rfl rfl rfl ?_
  rintro am sp b8
  replace sp:Sep am bv (oN (.arr l d.length 0 d.length) af::K0) (ids0):=by rw[b7];exact sp
  have hid:∀ i ∈ ids0,am i=H0 i:=fun i hi=>(b8 i (by simp[hi])).trans (hid i hi)
  simp[hh,f68,-ah]
  apply hk'
  refine aa.cut (fun ρ H n=>(ρ 0 = .arr l d.length 0 d.length∧ρ 1=int v46∧ρ 5=int i11)∧n0≤n∧(∀ i ∈ ids0,H i=H0 i)∧Sep H n (oN (.arr l d.length 0 d.length) af::K0) (ids0)) (by refine⟨?_,(by omega),hid,sp⟩<;>simp[hh,f68,-ah]) ?_
  clear hh
  rintro ρ H d6 ⟨hh,hnn,hid,sp⟩
  have hq_n73:=hnn
  refine zE fun k' hk'=>?_
  obtain⟨b9,h⟩:=h
  obtain⟨v75,cc,h⟩:=atm h
  have f76:=aI b9 cc
  simp[hh,f76,-ai]
  apply hk'
  refine zF fun k' hk'=>?_
  obtain⟨an,h⟩:=h
  obtain⟨e,ce,h⟩:=atm h
  obtain⟨d7,d8,d9,ci,t,M,u,ao,cj,el,cl,em,A,co⟩:=Sep.Ej (q:=i11.toNat) (f:=(aj.cells true)) sp an ce rfl
  simp only[ag.arr.injEq] at t
  obtain⟨t,hln93,-⟩:=t
  subst t
  replace u:=u.trans hln93.symm
  obtain⟨cs,ap,E,t⟩:=xq (by simpa using cj)
  subst t
  replace A:Sep _ _ [(.c,cs,int e.control),(.c,ap,int e.parent),(.s [.c],E,.list true (e.links.map al))] ci:=A
  obtain rfl:=Sep.cAt (K1:=[]) (K2:=[(.c,ap,int e.parent),(.s [.c],E,.list true (e.links.map al))]) A
  obtain rfl:=Sep.cAt (K1:=[(.c,int e.control,int e.control)]) (K2:=[(.s [.c],E,.list true (e.links.map al))]) A
  have f97:=cF (k:=.i64) (off:=0) (len:=d.length) bj M u rfl (by rw[hln93];exact an)
  obtain⟨c0,h⟩:=h
  obtain⟨N,aM,h⟩:=atm h
  simp[hh,M,u,ao,f97,-ah]
  refine aG.jh (v:=E) ae (jt e.links v75 c0) e64 (Sep.front (K1:=[(.c,int e.control,int e.control),(.c,int e.parent,int e.parent)]) (K2:=[]) A) (by decide) (by decide) rfl (by simp[hh,M,u,ao,f97,-ah]) ?_
  rintro _ O n101 _ ⟨rfl,rfl⟩ spx c1 hfrW102
  rw[← aM] at spx
  rw[← aM]
  obtain⟨R,c2,h⟩:=atm h
  replace sp:=co O n101 (aj.mk e.control e.parent N.1) (Sep.AT (K1:=[(.c,int e.control,int e.control),(.c,int e.parent,int e.parent)]) (K2:=[]) spx) rfl hfrW102 c1
  have c3:=fun i hi=>hfrW102 i (cl i hi)
  replace sp:Sep O n101 (oN (.arr l d.length 0 d.length) R::K0) (ids0):=by rw[c2];exact sp
  have hid:∀ i ∈ ids0,O i=H0 i:=fun i hi=>(c3 i (by simp[hi])).trans (hid i hi)
  have hnn:n0≤n101:=by omega
  have hq_n101:=hnn
  simp[hh,f97,-ah]
  apply hk'
  refine aa.cut (fun ρ H n=>(ρ 0 = .arr l d.length 0 d.length∧ρ 1=int N.2∧ρ 5=int i11)∧n0≤n∧(∀ i ∈ ids0,H i=H0 i)∧Sep H n (oN (.arr l d.length 0 d.length) R::K0) (ids0)) (by refine⟨?_,(by omega),hid,sp⟩<;>simp[hh,f97,-ah]) ?_
  clear hh
  rintro ρ H n107 ⟨hh,hnn,hid,sp⟩
  have hq_n107:=hnn
  refine aa.inBlock ?_
  refine zF fun k' hk'=>?_
  obtain⟨c4,h⟩:=h
  obtain⟨v109,c6,h⟩:=atm h
  have f110:=aI c4 c6
  simp[hh,f110,-ai]
  apply hk'
  refine a1 (N.2,v109,R) _ _ _ h (by refine⟨?_,(by omega),hid,sp⟩<;>simp[hh])
 replace h:=h.2 o
 refine aa.exit rfl ?_
 refine zE fun k' hk'=>?_
 simp[hh,o]
 apply hk'
 exact aa.aV (v:=int k10) Tryz.func63 Tryz.results63 (by simp[hh,o]) (hQ _ _ _ _ (Sep.sub sp (by simp +contextual)) hid (by omega) ⟨(d,k10),h,rfl,rfl⟩)
theorem wc (a:List aj) (k_:Int) (hp:fT a k_):eb Tryz.prog 63 (fun v=>[v,int k_]) (.s [.c,.c,.s [.c]]) (.list true (a.map (aj.cells true))) (fun e' r=>e' = .list true (((bu a k_).1).map (aj.cells true))∧r=int ((bu a k_).2)):=(sK a k_ _ (vK a k_ hp)).mono (by rintro _ _ ⟨_,rfl,rfl,rfl⟩;exact⟨rfl,rfl⟩)
theorem e69:Ent Tryz.prog 69:=Ent.of Tryz.func69 (by kernel_rfl) rfl
theorem pn (a:List Str) (k_:Int) (Z:Int→Prop) (h:e6 a k_ Z):aq Tryz.prog 69 [.list false (a.map aL),int k_] (fun r=>∃ y:Int,Z y∧r=int y):=by
 unfold e6 at h
 refine aq.of Tryz.func69 rfl Tryz.ntmps69 (by simp) fun Q hQ=>?_
 refine aa.cut (fun ρ H n=>(ρ 0 = .list false (a.map aL)∧ρ 1=int k_)) (by simp) ?_
 rintro ρ H n1 hh
 refine zE fun k' hk'=>?_
 simp[hh]
 apply hk'
 refine aa.seq ?_
 refine zE fun k' hk'=>?_
 simp[hh]
 apply hk'
 refine aa.block ?_
 refine aa.aw h (fun (sJ:Int × Int) ρ H n=>match sJ with | (k5,i6)=>(ρ 0 = .list false (a.map aL)∧ρ 1=int k5∧ρ 5=int i6)) (by simp[hh]) ?_
 clear hh
 rintro⟨k5,i6⟩ ρ H n7 K h hh IH8
 refine aa.seq ?_
 refine zE fun k' hk'=>?_
 obtain⟨dt,g,h⟩:=atm h
 have f11:=fun H=>ax (H:=H) (fr:=false) (f:=aL) cy g
 obtain⟨i,j,h⟩:=atm h
 have f13:=aT (k:=.i64) j
 simp[hh,f11,f13,-ai,-aH]
 apply hk'
 refine aa.ite (b:=i) (by simp[hh]) (fun c=>?_) (fun c=>?_)
 ·replace h:=h.1 c
  refine aa.skip ?_
  refine aa.seq ?_
  refine aa.block ?_
  refine aa.seq ?_
  refine aa.eo ae aD bU (by decide) (by kernel_rfl) fun k' hk'=>?_
  obtain⟨l,h⟩:=h
  obtain⟨E,o,h⟩:=atm h
  have f16:=fun H=>aE (H:=H) (fr:=false) (f:=aL) (k:=.i64) cy (fun _=>rfl) l o
  obtain⟨p,h⟩:=h
  obtain⟨F,q,h⟩:=atm h
  simp[hh,f16,c,-ah]
  refine bn.aB ae aD (ik k5 p) e62 (.cons (.v _ _ _) .nil) (by decide) rfl (by simp[hh,f16,c,-ah]) ?_
  rw[← q]
  obtain⟨t,u,h⟩:=atm h
  have f20:=DR u
  simp[hh,f16,f20,c,-ah,-et]
  apply hk'
  refine aa.ite (b:=t) (by simp[hh,c]) (fun d=>?_) (fun d=>?_)
  ·replace h:=h.1 d
   refine zE fun k' hk'=>?_
   simp[hh,c,d]
   apply hk'
   exact aa.aV (v:=int (-1)) Tryz.func69 Tryz.results69 (by simp[hh,c,d]) (hQ _ _ _ _ (.of (.v _)) ⟨(-1),h,rfl⟩)
  replace h:=h.2 d
  refine aa.skip ?_
  refine zF fun k' hk'=>?_
  obtain⟨A,h⟩:=h
  obtain⟨v22,B,h⟩:=atm h
  have f23:=aI A B
  simp[hh,f23,c,d,-ai]
  apply hk'
  refine aa.inBlock ?_
  refine zF fun k' hk'=>?_
  obtain⟨C,h⟩:=h
  obtain⟨e,D,h⟩:=atm h
  have f26:=aI C D
  simp[hh,f26,c,d,-ai]
  apply hk'
  refine aa.cut (fun ρ H n=>(ρ 0 = .list false (a.map aL)∧ρ 1=int v22∧ρ 5=int e)) (by simp[hh,f26,c,d,-ai]) ?_
  clear hh
  rintro ρ H n27 hh
  refine IH8 (v22,e) _ _ _ h (by simp[hh])
 replace h:=h.2 c
 refine aa.exit rfl ?_
 refine zE fun k' hk'=>?_
 simp[hh,c]
 apply hk'
 exact aa.aV (v:=int k5) Tryz.func69 Tryz.results69 (by simp[hh,c]) (hQ _ _ _ _ (.of (.v _)) ⟨k5,h,rfl⟩)
theorem sB (a:List Str) (k_:Int) (hp:gm a k_):aq Tryz.prog 69 [.list false (a.map aL),int k_] (fun r=>r=int (cD a k_)):=(pn a k_ _ (qO a k_ hp)).mono (by rintro _ ⟨_,rfl,rfl⟩;rfl)
theorem e70:Ent Tryz.prog 70:=Ent.of Tryz.func70 (by kernel_rfl) rfl
theorem rF (a:List aA) (k_:Int) (Z:Int→Prop) (h:gT a k_ Z):aq Tryz.prog 70 [.list false (a.map aA.cells),int k_] (fun r=>∃ y:Int,Z y∧r=int y):=by
 unfold gT at h
 refine aq.of Tryz.func70 rfl Tryz.ntmps70 (by simp) fun Q hQ=>?_
 refine aa.cut (fun ρ H n=>(ρ 0 = .list false (a.map aA.cells)∧ρ 1=int k_)) (by simp) ?_
 rintro ρ H n1 hh
 refine zE fun k' hk'=>?_
 simp[hh]
 apply hk'
 refine aa.seq ?_
 refine zE fun k' hk'=>?_
 simp[hh]
 apply hk'
 refine aa.block ?_
 refine aa.aw h (fun (sJ:Int × Int) ρ H n=>match sJ with | (k5,i6)=>(ρ 0 = .list false (a.map aA.cells)∧ρ 1=int k5∧ρ 5=int i6)) (by simp[hh]) ?_
 clear hh
 rintro⟨k5,i6⟩ ρ H n7 K h hh IH8
 refine aa.seq ?_
 refine zE fun k' hk'=>?_
 obtain⟨dt,g,h⟩:=atm h
 have f11:=fun H=>ax (H:=H) (fr:=false) (f:=aA.cells) fm g
 obtain⟨i,j,h⟩:=atm h
 have f13:=aT (k:=.i64) j
 simp[hh,f11,f13,-ai,-aH]
 apply hk'
 refine aa.ite (b:=i) (by simp[hh]) (fun c=>?_) (fun c=>?_)
 ·replace h:=h.1 c
  refine aa.skip ?_
  refine aa.seq ?_
  refine aa.block ?_
  refine aa.seq ?_
  refine aa.eo ae aD bU (by decide) (by kernel_rfl) fun k' hk'=>?_
  obtain⟨l,h⟩:=h
  obtain⟨N,o,h⟩:=atm h
  have f16:=fun H=>aE (H:=H) (fr:=false) (f:=aA.cells) (k:=.i64) fm (fun _=>rfl) l o
  obtain⟨p,h⟩:=h
  obtain⟨O,q,h⟩:=atm h
  simp[hh,f16,c,-ah]
  refine bn.aB ae aD (ik k5 p) e62 (.cons (.v _ _ _) .nil) (by decide) rfl (by simp[hh,f16,c,-ah]) ?_
  rw[← q]
  obtain⟨t,u,h⟩:=atm h
  have f20:=DR u
  simp[hh,f16,f20,c,-ah,-et]
  apply hk'
  refine aa.ite (b:=t) (by simp[hh,c]) (fun e=>?_) (fun e=>?_)
  ·replace h:=h.1 e
   refine zE fun k' hk'=>?_
   simp[hh,c,e]
   apply hk'
   exact aa.aV (v:=int (-1)) Tryz.func70 Tryz.results70 (by simp[hh,c,e]) (hQ _ _ _ _ (.of (.v _)) ⟨(-1),h,rfl⟩)
  replace h:=h.2 e
  refine aa.skip ?_
  refine zE fun k' hk'=>?_
  obtain⟨A,h⟩:=h
  obtain⟨v22,B,h⟩:=atm h
  have f23:=aI A B
  simp[hh,f23,c,e,-ai]
  apply hk'
  refine aa.cut (fun ρ H n=>(ρ 0 = .list false (a.map aA.cells)∧ρ 1=int v22∧ρ 5=int i6)) (by simp[hh,f23,c,e,-ai]) ?_
  clear hh
  rintro ρ H n24 hh
  refine aa.seq ?_
  refine zE fun k' hk'=>?_
  obtain⟨C,h⟩:=h
  obtain⟨R,D,h⟩:=atm h
  have f27:=fun H=>aE (H:=H) (fr:=false) (f:=aA.cells) (k:=.i64) fm (fun _=>rfl) C D
  obtain⟨E,F,h⟩:=atm h
  have f29:=dz (k:=.i64) F
  simp[hh,f27,f29,-ah,-ai]
  apply hk'
  refine aa.ite (b:=E) (by simp[hh]) (fun d=>?_) (fun d=>?_)
  ·replace h:=h.1 d
   refine zE fun k' hk'=>?_
   simp[hh,d]
   apply hk'
   exact aa.aV (v:=int (-1)) Tryz.func70 Tryz.results70 (by simp[hh,d]) (hQ _ _ _ _ (.of (.v _)) ⟨(-1),h,rfl⟩)
  replace h:=h.2 d
  refine aa.skip ?_
  refine zF fun k' hk'=>?_
  obtain⟨G,h⟩:=h
  obtain⟨v31,I,h⟩:=atm h
  have f32:=aI G I
  simp[hh,f32,d,-ai]
  apply hk'
  refine aa.inBlock ?_
  refine zF fun k' hk'=>?_
  obtain⟨J,h⟩:=h
  obtain⟨L,M,h⟩:=atm h
  have f35:=aI J M
  simp[hh,f35,d,-ai]
  apply hk'
  refine IH8 (v31,L) _ _ _ h (by simp[hh,d])
 replace h:=h.2 c
 refine aa.exit rfl ?_
 refine zE fun k' hk'=>?_
 simp[hh,c]
 apply hk'
 exact aa.aV (v:=int k5) Tryz.func70 Tryz.results70 (by simp[hh,c]) (hQ _ _ _ _ (.of (.v _)) ⟨k5,h,rfl⟩)
theorem vc (a:List aA) (k_:Int) (hp:jE a k_):aq Tryz.prog 70 [.list false (a.map aA.cells),int k_] (fun r=>r=int (ej a k_)):=(rF a k_ _ (uE a k_ hp)).mono (by rintro _ ⟨_,rfl,rfl⟩;rfl)
theorem e67:Ent Tryz.prog 67:=Ent.of Tryz.func67 (by kernel_rfl) rfl
theorem ri (a:List aj) (k_:Int) (Z:Int→Prop) (h:gX a k_ Z):aq Tryz.prog 67 [.list false (a.map (aj.cells false)),int k_] (fun r=>∃ y:Int,Z y∧r=int y):=by
 unfold gX at h
 refine aq.of Tryz.func67 rfl Tryz.ntmps67 (by simp) fun Q hQ=>?_
 refine aa.cut (fun ρ H n=>(ρ 0 = .list false (a.map (aj.cells false))∧ρ 1=int k_)) (by simp) ?_
 rintro ρ H n1 hh
 refine zE fun k' hk'=>?_
 simp[hh]
 apply hk'
 refine aa.seq ?_
 refine zE fun k' hk'=>?_
 simp[hh]
 apply hk'
 refine aa.block ?_
 refine aa.aw h (fun (sJ:Int × Int) ρ H n=>match sJ with | (k5,i6)=>(ρ 0 = .list false (a.map (aj.cells false))∧ρ 1=int k5∧ρ 5=int i6)) (by simp[hh]) ?_
 clear hh
 rintro⟨k5,i6⟩ ρ H n7 K h hh IH8
 refine aa.seq ?_
 refine zE fun k' hk'=>?_
 obtain⟨dt,p,h⟩:=atm h
 have f11:=fun H=>ax (H:=H) (fr:=false) (f:=(aj.cells false)) bj p
 obtain⟨q,t,h⟩:=atm h
 have f13:=aT (k:=.i64) t
 simp[hh,f11,f13,-ai,-aH]
 apply hk'
 refine aa.ite (b:=q) (by simp[hh]) (fun d=>?_) (fun d=>?_)
 ·replace h:=h.1 d
  refine aa.skip ?_
  refine aa.seq ?_
  refine aa.block ?_
  refine aa.seq ?_
  refine zE fun k' hk'=>?_
  obtain⟨u,h⟩:=h
  obtain⟨X,i,h⟩:=atm h
  have f16:=fun H=>aE (H:=H) (fr:=false) (f:=(aj.cells false)) (k:=.i64) bj (fun _=>rfl) u i
  obtain⟨A,B,h⟩:=atm h
  have f18:=dz (k:=.i64) B
  simp[hh,f16,f18,d,-ah,-ai]
  apply hk'
  refine aa.ite (b:=A) (by simp[hh,d]) (fun e=>?_) (fun e=>?_)
  ·replace h:=h.1 e
   refine zE fun k' hk'=>?_
   simp[hh,d,e]
   apply hk'
   exact aa.aV (v:=int (-1)) Tryz.func67 Tryz.results67 (by simp[hh,d,e]) (hQ _ _ _ _ (.of (.v _)) ⟨(-1),h,rfl⟩)
  replace h:=h.2 e
  refine aa.skip ?_
  refine zE fun k' hk'=>?_
  obtain⟨C,h⟩:=h
  obtain⟨v20,D,h⟩:=atm h
  have f21:=aI C D
  simp[hh,f21,d,e,-ai]
  apply hk'
  refine aa.seq ?_
  refine zE fun k' hk'=>?_
  obtain⟨E,h⟩:=h
  obtain⟨Y,F,h⟩:=atm h
  have G:=i.trans F.symm
  subst G
  have f25:=fun H=>aE (H:=H) (fr:=false) (f:=(aj.cells false)) (k:=.i64) bj (fun _=>rfl) E i
  obtain⟨j,I,h⟩:=atm h
  have f27:=dz (k:=.i64) I
  simp[hh,f25,f27,d,e,-ah,-ai]
  apply hk'
  refine aa.cut (fun ρ H n=>(ρ 0 = .list false (a.map (aj.cells false))∧ρ 1=int v20∧ρ 5=int i6∧ρ 27=bool j)) (by simp[hh,f25,f27,d,e,-ah,-ai]) ?_
  clear hh
  rintro ρ H n28 hh
  refine aa.ite (b:=j) (by simp[hh]) (fun c=>?_) (fun c=>?_)
  ·replace h:=h.1 c
   refine zE fun k' hk'=>?_
   simp[hh,c]
   apply hk'
   exact aa.aV (v:=int (-1)) Tryz.func67 Tryz.results67 (by simp[hh,c]) (hQ _ _ _ _ (.of (.v _)) ⟨(-1),h,rfl⟩)
  replace h:=h.2 c
  refine aa.skip ?_
  refine zE fun k' hk'=>?_
  obtain⟨J,h⟩:=h
  obtain⟨v30,L,h⟩:=atm h
  have f31:=aI J L
  simp[hh,f31,c,-ai]
  apply hk'
  refine zE fun k' hk'=>?_
  obtain⟨M,h⟩:=h
  obtain⟨l,N,h⟩:=atm h
  have f34:=fun H=>aE (H:=H) (fr:=false) (f:=(aj.cells false)) (k:=.i64) bj (fun _=>rfl) M N
  obtain⟨O,h⟩:=h
  obtain⟨o,R,h⟩:=atm h
  simp[hh,f34,c,-ah]
  refine aG.aB ae (pT l.links v30 O) e68 (.cons (cY false l.links) (.cons (.v _ _ _) .nil)) (by decide) (by decide) rfl (by simp[hh,f34,c,-ah]) ?_
  rintro _ rfl
  rw[← R]
  simp[hh,f34,c,-ah]
  apply hk'
  refine zE fun k' hk'=>?_
  obtain⟨T,U,h⟩:=atm h
  have f38:=aT (k:=.i64) U
  simp[hh,f38,c,-ai]
  apply hk'
  refine aa.ite (b:=T) (by simp[hh,c]) (fun g=>?_) (fun g=>?_)
  ·replace h:=h.1 g
   refine zE fun k' hk'=>?_
   simp[hh,c,g]
   apply hk'
   exact aa.aV (v:=int (-1)) Tryz.func67 Tryz.results67 (by simp[hh,c,g]) (hQ _ _ _ _ (.of (.v _)) ⟨(-1),h,rfl⟩)
  replace h:=h.2 g
  refine aa.skip ?_
  refine aa.inBlock ?_
  refine zF fun k' hk'=>?_
  obtain⟨V,h⟩:=h
  obtain⟨v40,W,h⟩:=atm h
  have f41:=aI V W
  simp[hh,f41,c,g,-ai]
  apply hk'
  refine aa.cut (fun ρ H n=>(ρ 0 = .list false (a.map (aj.cells false))∧ρ 1=int o∧ρ 5=int v40)) (by simp[hh,f41,c,g,-ai]) ?_
  clear hh
  rintro ρ H ab hh
  refine IH8 (o,v40) _ _ _ h (by simp[hh])
 replace h:=h.2 d
 refine aa.exit rfl ?_
 refine zE fun k' hk'=>?_
 simp[hh,d]
 apply hk'
 exact aa.aV (v:=int k5) Tryz.func67 Tryz.results67 (by simp[hh,d]) (hQ _ _ _ _ (.of (.v _)) ⟨k5,h,rfl⟩)
theorem vp (a:List aj) (k_:Int) (hp:jF a k_):aq Tryz.prog 67 [.list false (a.map (aj.cells false)),int k_] (fun r=>r=int (bR a k_)):=(ri a k_ _ (vV a k_ hp)).mono (by rintro _ ⟨_,rfl,rfl⟩;rfl)
theorem e16:Ent Tryz.prog 16:=Ent.of Tryz.func16 (by kernel_rfl) rfl
theorem vz (a:Big) (k_:Int) (Z:(Big × Int)→Prop) (h:kE a k_ Z):eb Tryz.prog 16 (fun v=>[v,int k_]) (.a [.c,.s [.c,.c,.s [.c]],.s [.c],.c,.s [.c],.s [.c,.c]]) (.agg (bC true a)) (fun e' r=>∃ y:Big × Int,Z y∧e' = .agg (bC true y.1)∧r=int y.2):=by
 unfold kE at h
 refine eb.of Tryz.func16 rfl Tryz.ntmps16 (fun _=>by simp) fun H0 n0 v0 K0 ids0 sp Q hQ=>?_
 have h00:=sp.1
 have hid:∀ i ∈ ids0,H0 i=H0 i:=fun _ _=>rfl
 have hnn:n0≤n0:=Nat.le_refl _
 replace sp:=Sep.unpack sp
 obtain⟨L0,hv,hl0,sp⟩:=sp
 subst hv
 obtain⟨a0_,a1_,a2_,a3_,a4_,a5_,hv⟩:=cK (by simpa using hl0)
 subst hv
 simp only[dp,List.cons_append,List.nil_append] at sp
 replace sp:=Sep.scalar sp
 obtain⟨hv,sp⟩:=sp
 subst hv
 replace sp:=Sep.rot sp
 try simp only[List.cons_append,List.nil_append,List.append_assoc] at sp
 replace sp:=Sep.rot sp
 try simp only[List.cons_append,List.nil_append,List.append_assoc] at sp
 replace sp:=Sep.scalar sp
 obtain⟨hv,sp⟩:=sp
 subst hv
 replace sp:=Sep.rot sp
 try simp only[List.cons_append,List.nil_append,List.append_assoc] at sp
 replace sp:=Sep.rot sp
 try simp only[List.cons_append,List.nil_append,List.append_assoc] at sp
 replace sp:=Sep.swap (K1:=K0) sp
 simp only[List.cons_append,List.nil_append] at sp
 refine aa.cut (fun ρ H n=>(ρ 0 = .agg [int a.roots,a1_,a2_,int a.edges,a4_,a5_]∧ρ 1=int k_)∧n0≤n∧(∀ i ∈ ids0,H i=H0 i)∧Sep H n (oN a1_ a.nodes::oI a2_ a.sites::oS a4_ a.outer::oW a5_ a.inner::K0) (ids0)) (by refine⟨?_,(by omega),hid,sp⟩<;>simp ) ?_
 rintro ρ H n5 ⟨hh,hnn,hid,sp⟩
 have hq_n5:=hnn
 refine zE fun k' hk'=>?_
 have f6:=Sep.oc sp
 have f7:=Sep.oc sp.f1
 have f8:=Sep.oc sp.f2
 have f9:=Sep.oc sp.f3
 simp[hh,f6,f7,f8,f9,-ar,-ay,cAx,o1x]
 apply hk'
 refine aa.cut (fun ρ H n=>(ρ 1=int k_∧ρ 2=pA n5 2)∧H (n5,2)=some ⟨6,[[int a.roots,a1_,a2_,int a.edges,a4_,a5_]]⟩∧n0≤n∧(∀ i ∈ ids0,H i=H0 i)∧Sep H n (oN a1_ a.nodes::oI a2_ a.sites::oS a4_ a.outer::oW a5_ a.inner::K0) ((n5,2)::ids0)) (by refine⟨?_,?_,(by omega),(by intro i hi;have hlt:=h00 i (by simp[hi]);repeat (first | exact hid i hi | rw[ak.aQ _ _ (by rintro rfl;simp at hlt;omega)])),sp.var⟩<;>simp[hh,f6,f7,f8,f9,-ar,-ay,cAx,o1x]) ?_
 clear hh
 rintro ρ H M ⟨hh,b,hnn,hid,sp⟩
 have hq_n11:=hnn
 refine zE fun k' hk'=>?_
 obtain⟨I,h⟩:=h
 obtain⟨d,l,h⟩:=atm h
 have f14:=Sep.oc sp
 simp[hh,b,f14,-ar,-ay,cAx,o1x]
 refine aG.jh (v:=a1_) ae (wc a.nodes k_ I) e63 sp (by decide) (by decide) rfl (by simp[hh,b,f14,-ar,-ay,cAx,o1x]) ?_
 rintro _ o n16 _ ⟨rfl,rfl⟩ sp N p
 rw[← l] at sp
 rw[← l]
 replace sp:Sep o n16 (oN a1_ d.1::oI a2_ a.sites::oS a4_ a.outer::oW a5_ a.inner::K0) ((n5,2)::ids0):=sp
 have hid:∀ i ∈ ids0,o i=H0 i:=fun i hi=>(p i (by simp[hi])).trans (hid i hi)
 have hnn:n0≤n16:=by omega
 have hq_n16:=hnn
 have b:=(p _ (by simp)).trans b
 simp[hh,b,f14,-ar,-ay,cAx,o1x]
 apply hk'
 refine aa.cut (fun ρ H n=>(ρ 1=int d.2∧ρ 2=pA n5 2)∧H (n5,2)=some ⟨6,[[int a.roots,a1_,a2_,int a.edges,a4_,a5_]]⟩∧n0≤n∧(∀ i ∈ ids0,H i=H0 i)∧Sep H n (oN a1_ d.1::oI a2_ a.sites::oS a4_ a.outer::oW a5_ a.inner::K0) ((n5,2)::ids0)) (by refine⟨?_,?_,(by omega),hid,sp⟩<;>simp[hh,b,f14,-ar,-ay,cAx,o1x]) ?_
 clear hh b
 rintro ρ H n20 ⟨hh,b,hnn,hid,sp⟩
 have hq_n20:=hnn
 refine zE fun k' hk'=>?_
 obtain⟨J,h⟩:=h
 obtain⟨e,q,h⟩:=atm h
 have f23:=Sep.oc sp.f1
 simp[hh,b,f23,-ar,-ay,cAx,o1x]
 refine aG.jh (v:=a2_) ae (jt a.sites d.2 J) e64 sp.f1 (by decide) (by decide) rfl (by simp[hh,b,f23,-ar,-ay,cAx,o1x]) ?_
 rintro _ t n25 _ ⟨rfl,rfl⟩ sp O u
 rw[← q] at sp
 rw[← q]
 replace sp:Sep t n25 (oI a2_ e.1::oN a1_ d.1::oS a4_ a.outer::oW a5_ a.inner::K0) ((n5,2)::ids0):=sp
 have hid:∀ i ∈ ids0,t i=H0 i:=fun i hi=>(u i (by simp[hi])).trans (hid i hi)
 have hnn:n0≤n25:=by omega
 have hq_n25:=hnn
 have b:=(u _ (by simp)).trans b
 simp[hh,b,f23,-ar,-ay,cAx,o1x]
 apply hk'
 refine aa.cut (fun ρ H n=>(ρ 1=int e.2∧ρ 2=pA n5 2)∧H (n5,2)=some ⟨6,[[int a.roots,a1_,a2_,int a.edges,a4_,a5_]]⟩∧n0≤n∧(∀ i ∈ ids0,H i=H0 i)∧Sep H n (oI a2_ e.1::oN a1_ d.1::oS a4_ a.outer::oW a5_ a.inner::K0) ((n5,2)::ids0)) (by refine⟨?_,?_,(by omega),hid,sp⟩<;>simp[hh,b,f23,-ar,-ay,cAx,o1x]) ?_
 clear hh b
 rintro ρ H n29 ⟨hh,b,hnn,hid,sp⟩
 have hq_n29:=hnn
 refine zE fun k' hk'=>?_
 obtain⟨K,h⟩:=h
 obtain⟨g,A,h⟩:=atm h
 have f32:=Sep.oc sp.f2
 simp[hh,b,f32,-ar,-ay,cAx,o1x]
 refine aG.jh (v:=a4_) ae (rU a.outer e.2 K) e65 sp.f2 (by decide) (by decide) rfl (by simp[hh,b,f32,-ar,-ay,cAx,o1x]) ?_
 rintro _ B n34 _ ⟨rfl,rfl⟩ sp R C
 rw[← A] at sp
 rw[← A]
 replace sp:Sep B n34 (oS a4_ g.1::oI a2_ e.1::oN a1_ d.1::oW a5_ a.inner::K0) ((n5,2)::ids0):=sp
 have hid:∀ i ∈ ids0,B i=H0 i:=fun i hi=>(C i (by simp[hi])).trans (hid i hi)
 have hnn:n0≤n34:=by omega
 have hq_n34:=hnn
 have b:=(C _ (by simp)).trans b
 simp[hh,b,f32,-ar,-ay,cAx,o1x]
 apply hk'
 refine aa.cut (fun ρ H n=>(ρ 1=int g.2∧ρ 2=pA n5 2)∧H (n5,2)=some ⟨6,[[int a.roots,a1_,a2_,int a.edges,a4_,a5_]]⟩∧n0≤n∧(∀ i ∈ ids0,H i=H0 i)∧Sep H n (oS a4_ g.1::oI a2_ e.1::oN a1_ d.1::oW a5_ a.inner::K0) ((n5,2)::ids0)) (by refine⟨?_,?_,(by omega),hid,sp⟩<;>simp[hh,b,f32,-ar,-ay,cAx,o1x]) ?_
 clear hh b
 rintro ρ H n38 ⟨hh,b,hnn,hid,sp⟩
 have hq_n38:=hnn
 refine zE fun k' hk'=>?_
 obtain⟨L,h⟩:=h
 obtain⟨j,D,h⟩:=atm h
 have f41:=Sep.oc sp.f3
 simp[hh,b,f41,-ar,-ay,cAx,o1x]
 refine aG.jh (v:=a5_) ae (vW a.inner g.2 L) e66 sp.f3 (by decide) (by decide) rfl (by simp[hh,b,f41,-ar,-ay,cAx,o1x]) ?_
 rintro _ E F _ ⟨rfl,rfl⟩ sp T G
 rw[← D] at sp
 rw[← D]
 replace sp:Sep E F (oW a5_ j.1::oS a4_ g.1::oI a2_ e.1::oN a1_ d.1::K0) ((n5,2)::ids0):=sp
 have hid:∀ i ∈ ids0,E i=H0 i:=fun i hi=>(G i (by simp[hi])).trans (hid i hi)
 have hnn:n0≤F:=by omega
 have hq_n43:=hnn
 have b:=(G _ (by simp)).trans b
 simp[hh,b,f41,-ar,-ay,cAx,o1x]
 apply hk'
 refine aa.cut (fun ρ H n=>ρ 1=int j.2∧n0≤n∧(∀ i ∈ ids0,H i=H0 i)∧Sep H n (oW a5_ j.1::oS a4_ g.1::oI a2_ e.1::oN a1_ d.1::K0) (ids0)) (by refine⟨?_,(by omega),hid,(Sep.sub sp (by simp +contextual))⟩<;>simp[hh,b,f41,-ar,-ay,cAx,o1x]) ?_
 clear hh b
 rintro ρ H U ⟨hh,hnn,hid,sp⟩
 have hq_n47:=hnn
 refine zE fun k' hk'=>?_
 simp[hh]
 apply hk'
 exact aa.aV (v:=int j.2) Tryz.func16 Tryz.results16 (by simp[hh]) (hQ _ _ _ _ (Sep.sub (Sep.pack (az.v _ (az.own (az.own (az.v _ (az.own (az.own az.nil)))))) sp.f1.f2.f3) (by simp +contextual)) hid (by omega) ⟨((Big.mk a.roots d.1 e.1 a.edges g.1 j.1),j.2),h,rfl,rfl⟩)
theorem nG (a:Big) (k_:Int) (hp:dZ a k_):eb Tryz.prog 16 (fun v=>[v,int k_]) (.a [.c,.s [.c,.c,.s [.c]],.s [.c],.c,.s [.c],.s [.c,.c]]) (.agg (bC true a)) (fun e' r=>e' = .agg [int (((bt a k_).1).roots),.list true ((((bt a k_).1).nodes).map (aj.cells true)),.list true ((((bt a k_).1).sites).map al),int (((bt a k_).1).edges),.list true ((((bt a k_).1).outer).map aL),.list true ((((bt a k_).1).inner).map aA.cells)]∧r=int ((bt a k_).2)):=(vz a k_ _ (Am a k_ hp)).mono (by rintro _ _ ⟨_,rfl,rfl,rfl⟩;exact⟨rfl,rfl⟩)
theorem e17:Ent Tryz.prog 17:=Ent.of Tryz.func17 (by kernel_rfl) rfl
theorem vL (a:Big) (k_:Int) (Z:Int→Prop) (h:k6 a k_ Z):aq Tryz.prog 17 [.agg (bC false a),int k_] (fun r=>∃ y:Int,Z y∧r=int y):=by
 unfold k6 at h
 refine aq.of Tryz.func17 rfl Tryz.ntmps17 (by simp) fun Q hQ=>?_
 refine aa.cut (fun ρ H n=>(ρ 0 = .agg (bC false a)∧ρ 1=int k_)) (by simp) ?_
 rintro ρ H n1 hh
 refine zE fun k' hk'=>?_
 simp[hh]
 apply hk'
 refine aa.cut (fun ρ H n=>(ρ 1=int k_∧ρ 2=pA n1 2)∧H (n1,2)=some ⟨6,[bC false a]⟩) (by refine⟨?_,?_⟩<;>simp[hh]) ?_
 clear hh
 rintro ρ H n3 ⟨hh,c⟩
 refine zE fun k' hk'=>?_
 obtain⟨hb4,h⟩:=h
 obtain⟨r5,er5,h⟩:=atm h
 simp[hh,c]
 refine aG.aB ae (vp a.nodes k_ hb4) e67 (.cons (aF.jT false a.nodes) (.cons (.v _ _ _) .nil)) (by decide) (by decide) rfl (by simp[hh,c]) ?_
 rintro _ rfl
 rw[← er5]
 simp[hh,c]
 apply hk'
 refine aa.seq ?_
 refine zE fun k' hk'=>?_
 obtain⟨c6,ec6,h⟩:=atm h
 have f7:=aT (k:=.i64) ec6
 simp[hh,c,f7,-ai]
 apply hk'
 refine aa.ite (b:=c6) (by simp[hh,c]) (fun dc6=>?_) (fun dc6=>?_)
 ·replace h:=h.1 dc6
  refine zE fun k' hk'=>?_
  simp[hh,c,dc6]
  apply hk'
  exact aa.aV (v:=int (-1)) Tryz.func17 Tryz.results17 (by simp[hh,c,dc6]) (hQ _ _ _ _ (.of (.v _)) ⟨(-1),h,rfl⟩)
 replace h:=h.2 dc6
 refine aa.skip ?_
 refine zE fun k' hk'=>?_
 obtain⟨hb8,h⟩:=h
 obtain⟨r9,er9,h⟩:=atm h
 simp[hh,c,dc6]
 refine aG.aB ae (pT a.sites r5 hb8) e68 (.cons (cY false a.sites) (.cons (.v _ _ _) .nil)) (by decide) (by decide) rfl (by simp[hh,c,dc6]) ?_
 rintro _ rfl
 rw[← er9]
 simp[hh,c,dc6]
 apply hk'
 refine aa.seq ?_
 refine zE fun k' hk'=>?_
 obtain⟨l,o,h⟩:=atm h
 have f11:=aT (k:=.i64) o
 simp[hh,c,f11,dc6,-ai]
 apply hk'
 refine aa.ite (b:=l) (by simp[hh,c,dc6]) (fun e=>?_) (fun e=>?_)
 ·replace h:=h.1 e
  refine zE fun k' hk'=>?_
  simp[hh,c,dc6,e]
  apply hk'
  refine aa.cut (fun ρ H n=>ρ 4=int (-1)) (by simp[hh,c,dc6,e]) ?_
  clear hh c
  rintro ρ H E hh
  exact aa.aV (v:=int (-1)) Tryz.func17 Tryz.results17 (by simp[hh]) (hQ _ _ _ _ (.of (.v _)) ⟨(-1),h,rfl⟩)
 replace h:=h.2 e
 refine aa.skip ?_
 refine zE fun k' hk'=>?_
 obtain⟨p,h⟩:=h
 obtain⟨i,q,h⟩:=atm h
 simp[hh,c,dc6,e]
 refine aG.aB ae (sB a.outer r9 p) e69 (.cons (o6 false a.outer) (.cons (.v _ _ _) .nil)) (by decide) (by decide) rfl (by simp[hh,c,dc6,e]) ?_
 rintro _ rfl
 rw[← q]
 simp[hh,c,dc6,e]
 apply hk'
 refine aa.cut (fun ρ H n=>(ρ 1=int i∧ρ 2=pA n1 2)∧H (n1,2)=some ⟨6,[bC false a]⟩) (by refine⟨?_,?_⟩<;>simp[hh,c,dc6,e]) ?_
 clear hh c
 rintro ρ H n15 ⟨hh,c⟩
 refine aa.seq ?_
 refine zE fun k' hk'=>?_
 obtain⟨t,u,h⟩:=atm h
 have f17:=aT (k:=.i64) u
 simp[hh,c,f17,-ai]
 apply hk'
 refine aa.ite (b:=t) (by simp[hh,c]) (fun d=>?_) (fun d=>?_)
 ·replace h:=h.1 d
  refine zE fun k' hk'=>?_
  simp[hh,c,d]
  apply hk'
  exact aa.aV (v:=int (-1)) Tryz.func17 Tryz.results17 (by simp[hh,c,d]) (hQ _ _ _ _ (.of (.v _)) ⟨(-1),h,rfl⟩)
 replace h:=h.2 d
 refine aa.skip ?_
 refine zE fun k' hk'=>?_
 obtain⟨A,h⟩:=h
 obtain⟨j,B,h⟩:=atm h
 simp[hh,c,d]
 refine aG.aB ae (vc a.inner i A) e70 (.cons (xW false a.inner) (.cons (.v _ _ _) .nil)) (by decide) (by decide) rfl (by simp[hh,c,d]) ?_
 rintro _ rfl
 rw[← B]
 simp[hh,c,d]
 apply hk'
 refine aa.seq ?_
 refine zE fun k' hk'=>?_
 obtain⟨C,D,h⟩:=atm h
 have f21:=aT (k:=.i64) D
 simp[hh,c,f21,d,-ai]
 apply hk'
 refine aa.ite (b:=C) (by simp[hh,c,d]) (fun g=>?_) (fun g=>?_)
 ·replace h:=h.1 g
  refine zE fun k' hk'=>?_
  simp[hh,c,d,g]
  apply hk'
  exact aa.aV (v:=int (-1)) Tryz.func17 Tryz.results17 (by simp[hh,c,d,g]) (hQ _ _ _ _ (.of (.v _)) ⟨(-1),h,rfl⟩)
 replace h:=h.2 g
 refine aa.skip ?_
 refine zE fun k' hk'=>?_
 simp[hh,c,d,g]
 apply hk'
 exact aa.aV (v:=int j) Tryz.func17 Tryz.results17 (by simp[hh,c,d,g]) (hQ _ _ _ _ (.of (.v _)) ⟨j,h,rfl⟩)
theorem sl (a:Big) (k_:Int) (hp:gl a k_):aq Tryz.prog 17 [.agg (bC false a),int k_] (fun r=>r=int (jq a k_)):=(vL a k_ _ (ze a k_ hp)).mono (by rintro _ ⟨_,rfl,rfl⟩;rfl)
end Go.Ab.Vg
/- Walks by program for YtbikfokhjdjfpaaGreatDoorAbMd. -/
namespace Go.Ab.Vg
open Go.Proofs
set_option maxRecDepth 100000
set_option linter.unusedSimpArgs false
set_option linter.unusedVariables false
attribute [local simp] al mC pA
theorem e20:Ent Tryz.prog 20:=Ent.of Tryz.func20 (by kernel_rfl) rfl
theorem vb (a:Match) (Z:Match→Prop) (h:kz a Z):a7 Tryz.prog 20 [.agg (mC false a)] (.a [.s [.c],.s [.c]]) (fun r=>∃ y:Match,Z y∧r = .agg (mC true y)):=by
 unfold kz at h
 have sp:Sep bc 0 [] []:=Sep.nil (by simp)
 refine a7.of Tryz.func20 rfl Tryz.ntmps20 (by simp) fun Q hQ=>?_
 refine aa.cut (fun ρ H n=>ρ 0 = .agg (mC false a)∧Sep H n [] []) (by refine⟨by simp ,sp⟩) ?_
 rintro ρ H n1 ⟨hh,sp⟩
 refine zE fun k' hk'=>?_
 simp[hh]
 apply hk'
 refine aa.cut (fun ρ H n=>((ρ 1=pA n1 1∧ρ 2=pA (n1+1) 2)∧H (n1,1)=some ⟨2,[mC false a]⟩∧H (n1+1,2)=some ⟨2,[[.v (.slice none 0 0),.v (.slice none 0 0)]]⟩)∧Sep H n [] [(n1+1,2),(n1,1)]) (by refine⟨by simp[hh],sp.var.var⟩) ?_
 clear hh
 rintro ρ H n4 ⟨⟨hh,d,b⟩,sp⟩
 refine zE fun k' hk'=>?_
 simp[hh,d,b]
 apply hk'
 refine aa.cut (fun ρ H n=>((ρ 1=pA n1 1∧ρ 2=pA (n1+1) 2∧ρ 3=pA n4 3)∧H (n1,1)=some ⟨2,[mC false a]⟩∧H (n1+1,2)=some ⟨2,[[.v (.slice none 0 0),.v (.slice none 0 0)]]⟩∧H (n4,3)=some ⟨2,[[.v (.slice none 0 0),.v (.slice none 0 0)]]⟩)∧Sep H n [] [(n4,3),(n1+1,2),(n1,1)]) (by refine⟨by simp[hh,d,b],sp.var⟩) ?_
 clear hh d b
 rintro ρ H n6 ⟨⟨hh,d,b,e⟩,sp⟩
 refine zE fun k' hk'=>?_
 obtain⟨hb7,h⟩:=h
 obtain⟨r8,er8,h⟩:=atm h
 simp[hh,d,b,e]
 refine aG.cd ae (fE a.nodes hb7) e42 (.cons (cY false a.nodes) .nil) sp (by decide) (by decide) rfl (by simp[hh,d,b,e]) ?_
 rintro v9 A B _ sp rfl C o
 rw[← er8] at sp
 have d:=(o _ (by simp)).trans d
 have b:=(o _ (by simp)).trans b
 have e:=(o _ (by simp)).trans e
 have f16:=Sep.oc sp
 simp[hh,d,b,e,f16,-ar,-ay,cAx,o1x]
 apply hk'
 refine aa.cut (fun ρ H n=>∃ (g:ag),((ρ 1=pA n1 1∧ρ 2=pA (n1+1) 2∧ρ 3=pA n4 3)∧H (n1,1)=some ⟨2,[mC false a]⟩∧H (n1+1,2)=some ⟨2,[[.v (.slice none 0 0),.v (.slice none 0 0)]]⟩∧H (n4,3)=some ⟨2,[[g,.v (.slice none 0 0)]]⟩)∧Sep H n [oI g r8] [(n4,3),(n1+1,2),(n1,1)]) (by refine⟨v9,by simp[hh,d,b,e,f16,-ar,-ay,cAx,o1x],(Sep.bF (w:=(n4,3)) sp (by simp))⟩) ?_
 clear hh d b e
 rintro ρ H n18 ⟨g,⟨hh,d,b,e⟩,sp⟩
 refine zE fun k' hk'=>?_
 obtain⟨t,h⟩:=h
 obtain⟨p,u,h⟩:=atm h
 simp[hh,d,b,e]
 refine aG.cd ae (fE a.roots t) e42 (.cons (cY false a.roots) .nil) sp (by decide) (by decide) rfl (by simp[hh,d,b,e]) ?_
 rintro v21 D n23 _ sp rfl E q
 rw[← u] at sp
 have d:=(q _ (by simp)).trans d
 have b:=(q _ (by simp)).trans b
 have e:=(q _ (by simp)).trans e
 have f28:=Sep.oc sp
 simp[hh,d,b,e,f28,-ar,-ay,cAx,o1x]
 apply hk'
 refine aa.cut (fun ρ H n=>∃ (i v30:ag),((ρ 2=pA (n1+1) 2∧ρ 3=pA n4 3)∧H (n1+1,2)=some ⟨2,[[.v (.slice none 0 0),.v (.slice none 0 0)]]⟩∧H (n4,3)=some ⟨2,[[v30,i]]⟩)∧Sep H n [oI i p,oI v30 r8] [(n4,3),(n1+1,2)]) (by refine⟨v21,g,by simp[hh,d,b,e,f28,-ar,-ay,cAx,o1x],(Sep.sub (Sep.bF (w:=(n4,3)) sp (by simp)) (by simp +contextual))⟩) ?_
 clear hh d b e
 rintro ρ H n31 ⟨i,v30,⟨hh,b,e⟩,sp⟩
 refine zE fun k' hk'=>?_
 have f32:=Sep.oc sp.f1
 have f33:=Sep.oc sp
 simp[hh,b,e,f32,f33,-ar,-ay,cAx,o1x]
 apply hk'
 refine aa.cut (fun ρ H n=>∃ (j l:ag),(ρ 2=pA (n1+1) 2∧H (n1+1,2)=some ⟨2,[[l,j]]⟩)∧Sep H n [oI j p,oI l r8] [(n1+1,2)]) (by refine⟨i,v30,by simp[hh,b,e,f32,f33,-ar,-ay,cAx,o1x],(Sep.sub (Sep.bF (w:=(n1+1,2)) sp (by simp)) (by simp +contextual))⟩) ?_
 clear hh b e
 rintro ρ H n36 ⟨j,l,⟨hh,b⟩,sp⟩
 exact aa.yk ae (v:=.agg [l,j]) Tryz.func20 Tryz.results20 (by simp[hh,b,dO]) (hQ _ _ _ _ (Sep.sub (ids':=[]) (Sep.pack (az.own (az.own az.nil)) sp.f1) (by simp)) ⟨(Match.mk r8 p),h,rfl⟩)
theorem kr (a:Match) (hp:eT a):a7 Tryz.prog 20 [.agg (mC false a)] (.a [.s [.c],.s [.c]]) (fun r=>r = .agg [.list true (((jx a).nodes).map al),.list true (((jx a).roots).map al)]):=(vb a _ (zp a hp)).mono (by rintro _ ⟨_,rfl,rfl⟩;rfl)
theorem e18:Ent Tryz.prog 18:=Ent.of Tryz.func18 (by kernel_rfl) rfl
theorem Ee (a:Match) (left:Int) (Z:Int→Prop) (h:vR a left Z):aq Tryz.prog 18 [.agg (mC false a),int left] (fun r=>∃ y:Int,Z y∧r=int y):=by
 unfold vR at h
 refine aq.of Tryz.func18 rfl Tryz.ntmps18 (by simp) fun Q hQ=>?_
 refine aa.cut (fun ρ H n=>(ρ 0 = .agg (mC false a)∧ρ 1=int left)) (by simp) ?_
 rintro ρ H n1 hh
 refine zE fun k' hk'=>?_
 simp[hh]
 apply hk'
 refine aa.cut (fun ρ H n=>(ρ 1=int left∧ρ 2=pA n1 2)∧H (n1,2)=some ⟨2,[mC false a]⟩) (by refine⟨?_,?_⟩<;>simp[hh]) ?_
 clear hh
 rintro ρ H n3 ⟨hh,c⟩
 refine zE fun k' hk'=>?_
 obtain⟨hb4,h⟩:=h
 obtain⟨r5,er5,h⟩:=atm h
 simp[hh,c]
 refine aG.aB ae (mz a.nodes left hb4.1.1 hb4.1.2 hb4.2) e33 (.cons (cY false a.nodes) (.cons (.v _ _ _) .nil)) (by decide) (by decide) rfl (by simp[hh,c]) ?_
 rintro _ rfl
 rw[← er5]
 simp[hh,c]
 apply hk'
 refine aa.seq ?_
 refine zE fun k' hk'=>?_
 obtain⟨c6,ec6,h⟩:=atm h
 have f7:=aT (k:=.i64) ec6
 simp[hh,c,f7,-ai]
 apply hk'
 refine aa.ite (b:=c6) (by simp[hh,c]) (fun dc6=>?_) (fun dc6=>?_)
 ·replace h:=h.1 dc6
  refine zE fun k' hk'=>?_
  simp[hh,c,dc6]
  apply hk'
  exact aa.aV (v:=int (-1)) Tryz.func18 Tryz.results18 (by simp[hh,c,dc6]) (hQ _ _ _ _ (.of (.v _)) ⟨(-1),h,rfl⟩)
 replace h:=h.2 dc6
 refine aa.skip ?_
 refine zE fun k' hk'=>?_
 obtain⟨hb8,h⟩:=h
 obtain⟨r9,er9,h⟩:=atm h
 simp[hh,c,dc6]
 refine aG.aB ae (mz a.roots r5 hb8.1.1 hb8.1.2 hb8.2) e33 (.cons (cY false a.roots) (.cons (.v _ _ _) .nil)) (by decide) (by decide) rfl (by simp[hh,c,dc6]) ?_
 rintro _ rfl
 rw[← er9]
 simp[hh,c,dc6]
 apply hk'
 refine aa.seq ?_
 refine zE fun k' hk'=>?_
 obtain⟨e,g,h⟩:=atm h
 have f11:=aT (k:=.i64) g
 simp[hh,c,f11,dc6,-ai]
 apply hk'
 refine aa.ite (b:=e) (by simp[hh,c,dc6]) (fun d=>?_) (fun d=>?_)
 ·replace h:=h.1 d
  refine zE fun k' hk'=>?_
  simp[hh,c,dc6,d]
  apply hk'
  refine aa.cut (fun ρ H n=>ρ 4=int (-1)) (by simp[hh,c,dc6,d]) ?_
  clear hh c
  rintro ρ H i hh
  exact aa.aV (v:=int (-1)) Tryz.func18 Tryz.results18 (by simp[hh]) (hQ _ _ _ _ (.of (.v _)) ⟨(-1),h,rfl⟩)
 replace h:=h.2 d
 refine aa.skip ?_
 refine zE fun k' hk'=>?_
 simp[hh,c,dc6,d]
 apply hk'
 refine aa.cut (fun ρ H n=>ρ 4=int r9) (by simp[hh,c,dc6,d]) ?_
 clear hh c
 rintro ρ H j hh
 exact aa.aV (v:=int r9) Tryz.func18 Tryz.results18 (by simp[hh]) (hQ _ _ _ _ (.of (.v _)) ⟨r9,h,rfl⟩)
theorem Gj (a:Match) (left:Int) (hp:wh a left):aq Tryz.prog 18 [.agg (mC false a),int left] (fun r=>r=int (szM a left)):=(Ee a left _ (Gc a left hp)).mono (by rintro _ ⟨_,rfl,rfl⟩;rfl)
theorem e22:Ent Tryz.prog 22:=Ent.of Tryz.func22 (by kernel_rfl) rfl
theorem DK (a:Match) (b:Match) (Z:Bool→Prop) (h:vn a b Z):aq Tryz.prog 22 [.agg (mC false a),.agg (mC false b)] (fun r=>∃ y:Bool,Z y∧r=bool y):=by
 unfold vn at h
 refine aq.of Tryz.func22 rfl Tryz.ntmps22 (by simp) fun Q hQ=>?_
 refine aa.cut (fun ρ H n=>(ρ 0 = .agg (mC false a)∧ρ 1 = .agg (mC false b))) (by simp) ?_
 rintro ρ H n1 hh
 refine zE fun k' hk'=>?_
 simp[hh]
 apply hk'
 refine aa.cut (fun ρ H n=>(ρ 2=pA n1 2∧ρ 3=pA (n1+1) 3)∧H (n1,2)=some ⟨2,[mC false a]⟩∧H (n1+1,3)=some ⟨2,[mC false b]⟩) (by refine⟨?_,?_,?_⟩<;>simp[hh]) ?_
 clear hh
 rintro ρ H n4 ⟨hh,c,d⟩
 refine aa.seq ?_
 refine zE fun k' hk'=>?_
 obtain⟨hb5,h⟩:=h
 obtain⟨r6,er6,h⟩:=atm h
 simp[hh,c,d]
 refine aG.aB ae (mL a.nodes b.nodes hb5) e58 (.cons (cY false a.nodes) (.cons (cY false b.nodes) .nil)) (by decide) (by decide) rfl (by simp[hh,c,d]) ?_
 rintro _ rfl
 rw[← er6]
 simp[hh,c,d]
 apply hk'
 refine aa.ite (b:=(!r6)) (by simp[hh,c,d]) (fun dr6=>?_) (fun dr6=>?_)
 ·have dr6:r6=false:=by simpa using dr6
  replace h:=h.2 dr6
  refine zE fun k' hk'=>?_
  simp[hh,c,d,dr6]
  apply hk'
  exact aa.aV (v:=bool false) Tryz.func22 Tryz.results22 (by simp[hh,c,d,dr6]) (hQ _ _ _ _ (.of (.v _)) ⟨false,h,rfl⟩)
 have dr6:r6=true:=by simpa using dr6
 replace h:=h.1 dr6
 refine aa.skip ?_
 refine aa.seq ?_
 refine zE fun k' hk'=>?_
 obtain⟨hb7,h⟩:=h
 obtain⟨r8,er8,h⟩:=atm h
 simp[hh,c,d,dr6]
 refine aG.aB ae (mL a.roots b.roots hb7) e58 (.cons (cY false a.roots) (.cons (cY false b.roots) .nil)) (by decide) (by decide) rfl (by simp[hh,c,d,dr6]) ?_
 rintro _ rfl
 rw[← er8]
 simp[hh,c,d,dr6]
 apply hk'
 refine aa.ite (b:=(!r8)) (by simp[hh,c,d,dr6]) (fun dr8=>?_) (fun dr8=>?_)
 ·have dr8:r8=false:=by simpa using dr8
  replace h:=h.2 dr8
  refine zE fun k' hk'=>?_
  simp[hh,c,d,dr6,dr8]
  apply hk'
  exact aa.aV (v:=bool false) Tryz.func22 Tryz.results22 (by simp[hh,c,d,dr6,dr8]) (hQ _ _ _ _ (.of (.v _)) ⟨false,h,rfl⟩)
 have dr8:r8=true:=by simpa using dr8
 replace h:=h.1 dr8
 refine aa.skip ?_
 refine zE fun k' hk'=>?_
 simp[hh,c,d,dr6,dr8]
 apply hk'
 exact aa.aV (v:=bool true) Tryz.func22 Tryz.results22 (by simp[hh,c,d,dr6,dr8]) (hQ _ _ _ _ (.of (.v _)) ⟨true,h,rfl⟩)
theorem F8 (a:Match) (b:Match) (hp:vA a b):aq Tryz.prog 22 [.agg (mC false a),.agg (mC false b)] (fun r=>r=bool (eqM a b)):=(DK a b _ (Gr a b hp)).mono (by rintro _ ⟨_,rfl,rfl⟩;rfl)
theorem e23:Ent Tryz.prog 23:=Ent.of Tryz.func23 (by kernel_rfl) rfl
theorem rN (a:Match) (k_:Int) (Z:(Match × Int)→Prop) (h:gL a k_ Z):eb Tryz.prog 23 (fun v=>[v,int k_]) (.a [.s [.c],.s [.c]]) (.agg (mC true a)) (fun e' r=>∃ y:Match × Int,Z y∧e' = .agg (mC true y.1)∧r=int y.2):=by
 unfold gL at h
 refine eb.of Tryz.func23 rfl Tryz.ntmps23 (fun _=>by simp) fun H0 n0 v0 K0 ids0 sp Q hQ=>?_
 have h00:=sp.1
 have hid:∀ i ∈ ids0,H0 i=H0 i:=fun _ _=>rfl
 have hnn:n0≤n0:=Nat.le_refl _
 replace sp:=Sep.unpack sp
 obtain⟨L0,hv,hl0,sp⟩:=sp
 subst hv
 obtain⟨a0_,a1_,hv⟩:=cf (by simpa using hl0)
 subst hv
 simp only[dp,List.cons_append,List.nil_append] at sp
 replace sp:=Sep.rot sp
 try simp only[List.cons_append,List.nil_append,List.append_assoc] at sp
 replace sp:=Sep.rot sp
 try simp only[List.cons_append,List.nil_append,List.append_assoc] at sp
 replace sp:=Sep.swap (K1:=K0) sp
 simp only[List.cons_append,List.nil_append] at sp
 refine aa.cut (fun ρ H n=>(ρ 0 = .agg [a0_,a1_]∧ρ 1=int k_)∧n0≤n∧(∀ i ∈ ids0,H i=H0 i)∧Sep H n (oI a0_ a.nodes::oI a1_ a.roots::K0) (ids0)) (by refine⟨?_,(by omega),hid,sp⟩<;>simp ) ?_
 rintro ρ H n3 ⟨hh,hnn,hid,sp⟩
 have hq_n3:=hnn
 refine zE fun k' hk'=>?_
 have f4:=Sep.oc sp
 have f5:=Sep.oc sp.f1
 simp[hh,f4,f5,-ar,-ay,cAx,o1x]
 apply hk'
 refine aa.cut (fun ρ H n=>(ρ 1=int k_∧ρ 2=pA n3 2)∧H (n3,2)=some ⟨2,[[a0_,a1_]]⟩∧n0≤n∧(∀ i ∈ ids0,H i=H0 i)∧Sep H n (oI a0_ a.nodes::oI a1_ a.roots::K0) ((n3,2)::ids0)) (by refine⟨?_,?_,(by omega),(by intro i hi;have hlt:=h00 i (by simp[hi]);repeat (first | exact hid i hi | rw[ak.aQ _ _ (by rintro rfl;simp at hlt;omega)])),sp.var⟩<;>simp[hh,f4,f5,-ar,-ay,cAx,o1x]) ?_
 clear hh
 rintro ρ H n7 ⟨hh,b,hnn,hid,sp⟩
 have hq_n7:=hnn
 refine zE fun k' hk'=>?_
 obtain⟨hb8,h⟩:=h
 obtain⟨r9,er9,h⟩:=atm h
 have f10:=Sep.oc sp
 simp[hh,b,f10,-ar,-ay,cAx,o1x]
 refine aG.jh (v:=a0_) ae (jt a.nodes k_ hb8) e64 sp (by decide) (by decide) rfl (by simp[hh,b,f10,-ar,-ay,cAx,o1x]) ?_
 rintro _ e g _ ⟨rfl,rfl⟩ sp t j
 rw[← er9] at sp
 rw[← er9]
 replace sp:Sep e g (oI a0_ r9.1::oI a1_ a.roots::K0) ((n3,2)::ids0):=sp
 have hid:∀ i ∈ ids0,e i=H0 i:=fun i hi=>(j i (by simp[hi])).trans (hid i hi)
 have hnn:n0≤g:=by omega
 have hq_n12:=hnn
 have b:=(j _ (by simp)).trans b
 simp[hh,b,f10,-ar,-ay,cAx,o1x]
 apply hk'
 refine aa.cut (fun ρ H n=>(ρ 1=int r9.2∧ρ 2=pA n3 2)∧H (n3,2)=some ⟨2,[[a0_,a1_]]⟩∧n0≤n∧(∀ i ∈ ids0,H i=H0 i)∧Sep H n (oI a0_ r9.1::oI a1_ a.roots::K0) ((n3,2)::ids0)) (by refine⟨?_,?_,(by omega),hid,sp⟩<;>simp[hh,b,f10,-ar,-ay,cAx,o1x]) ?_
 clear hh b
 rintro ρ H n16 ⟨hh,b,hnn,hid,sp⟩
 have hq_n16:=hnn
 refine zE fun k' hk'=>?_
 obtain⟨q,h⟩:=h
 obtain⟨d,l,h⟩:=atm h
 have f19:=Sep.oc sp.f1
 simp[hh,b,f19,-ar,-ay,cAx,o1x]
 refine aG.jh (v:=a1_) ae (jt a.roots r9.2 q) e64 sp.f1 (by decide) (by decide) rfl (by simp[hh,b,f19,-ar,-ay,cAx,o1x]) ?_
 rintro _ o n21 _ ⟨rfl,rfl⟩ sp u p
 rw[← l] at sp
 rw[← l]
 replace sp:Sep o n21 (oI a1_ d.1::oI a0_ r9.1::K0) ((n3,2)::ids0):=sp
 have hid:∀ i ∈ ids0,o i=H0 i:=fun i hi=>(p i (by simp[hi])).trans (hid i hi)
 have hnn:n0≤n21:=by omega
 have hq_n21:=hnn
 have b:=(p _ (by simp)).trans b
 simp[hh,b,f19,-ar,-ay,cAx,o1x]
 apply hk'
 refine aa.cut (fun ρ H n=>ρ 1=int d.2∧n0≤n∧(∀ i ∈ ids0,H i=H0 i)∧Sep H n (oI a1_ d.1::oI a0_ r9.1::K0) (ids0)) (by refine⟨?_,(by omega),hid,(Sep.sub sp (by simp +contextual))⟩<;>simp[hh,b,f19,-ar,-ay,cAx,o1x]) ?_
 clear hh b
 rintro ρ H n25 ⟨hh,hnn,hid,sp⟩
 have hq_n25:=hnn
 refine zE fun k' hk'=>?_
 simp[hh]
 apply hk'
 exact aa.aV (v:=int d.2) Tryz.func23 Tryz.results23 (by simp[hh]) (hQ _ _ _ _ (Sep.sub (Sep.pack (az.own (az.own az.nil)) sp.f1) (by simp +contextual)) hid (by omega) ⟨((Match.mk r9.1 d.1),d.2),h,rfl,rfl⟩)
theorem vH (a:Match) (k_:Int) (hp:jL a k_):eb Tryz.prog 23 (fun v=>[v,int k_]) (.a [.s [.c],.s [.c]]) (.agg (mC true a)) (fun e' r=>e' = .agg [.list true ((((ib a k_).1).nodes).map al),.list true ((((ib a k_).1).roots).map al)]∧r=int ((ib a k_).2)):=(rN a k_ _ (vq a k_ hp)).mono (by rintro _ _ ⟨_,rfl,rfl,rfl⟩;exact⟨rfl,rfl⟩)
end Go.Ab.Vg
/- Walks by program for YtbikfokhjdjfpaaGreatDoorAbMu. -/
namespace Go.Ab.Vg
open Go.Proofs
set_option maxRecDepth 100000
set_option linter.unusedSimpArgs false
set_option linter.unusedVariables false
attribute [local simp] aj.cells aA.cells al gp aL bC mC pA
theorem HO:Ent Tryz.prog 123:=Ent.of Tryz.func123 (by kernel_rfl) rfl
theorem pr (agent:Big) (m:Match) (Z:(List Int)→Prop) (h:fw agent m Z):a7 Tryz.prog 123 [.agg (bC false agent),.agg (mC false m)] (.s [.c]) (fun r=>∃ y:List Int,Z y∧r = .list true (y.map al)):=by
 unfold fw at h
 have sp:Sep bc 0 [] []:=Sep.nil (by simp)
 refine a7.of Tryz.func123 rfl Tryz.ntmps123 (by simp) fun Q hQ=>?_
 refine aa.cut (fun ρ H n=>(ρ 0 = .agg (bC false agent)∧ρ 1 = .agg (mC false m))∧Sep H n [] []) (by refine⟨by simp ,sp⟩) ?_
 rintro ρ H n1 ⟨hh,sp⟩
 refine zE fun k' hk'=>?_
 simp[hh]
 apply hk'
 refine aa.cut (fun ρ H n=>((ρ 2=pA n1 2∧ρ 3=pA (n1+1) 3)∧H (n1,2)=some ⟨6,[bC false agent]⟩∧H (n1+1,3)=some ⟨2,[mC false m]⟩)∧Sep H n [] [(n1+1,3),(n1,2)]) (by refine⟨by simp[hh],sp.var.var⟩) ?_
 clear hh
 rintro ρ H n4 ⟨⟨hh,a,d⟩,sp⟩
 refine zE fun k' hk'=>?_
 simp[hh,a,d]
 apply hk'
 refine aa.cut (fun ρ H n=>∃ (v6:ag),((ρ 2=pA n1 2∧ρ 3=pA (n1+1) 3∧ρ 5=v6)∧H (n1,2)=some ⟨6,[bC false agent]⟩∧H (n1+1,3)=some ⟨2,[mC false m]⟩)∧Sep H n [oI v6 ([]:List Int)] [(n1+1,3),(n1,2)]) (by refine⟨.arr (n4,7) 0 0 0,by simp[hh,a,d],(Sep.addEmpty (l:=[.c]) sp)⟩) ?_
 clear hh a d
 rintro ρ H n7 ⟨v6,⟨hh,a,d⟩,sp⟩
 refine aa.seq ?_
 refine zE fun k' hk'=>?_
 obtain⟨len8,elen8,h⟩:=atm h
 have f9:=fun H=>ax (H:=H) (fr:=false) (f:=(aj.cells false)) bj elen8
 simp[hh,a,d,f9,-aH]
 apply hk'
 refine aa.block ?_
 refine aa.aw h (fun (sJ:Int × (List Int)) ρ H n=>match sJ with | (g,p)=>∃ (o:ag),((ρ 2=pA n1 2∧ρ 3=pA (n1+1) 3∧ρ 5=o∧ρ 10=int len8∧ρ 11=int g)∧H (n1,2)=some ⟨6,[bC false agent]⟩∧H (n1+1,3)=some ⟨2,[mC false m]⟩)∧Sep H n [oI o p] [(n1+1,3),(n1,2)]) (by refine⟨v6,by simp[hh,a,d],sp⟩) ?_
 clear hh a d
 rintro⟨g,p⟩ ρ H n20 K h ⟨o,⟨hh,a,d⟩,sp⟩ A
 refine zE fun k' hk'=>?_
 obtain⟨E,F,h⟩:=atm h
 have f24:=aT (k:=.i64) F
 simp[hh,a,d,f24,-ai]
 apply hk'
 refine aa.seq ?_
 refine aa.ite (b:=E) (by simp[hh,a,d]) (fun e=>?_) (fun e=>?_)
 ·replace h:=h.1 e
  refine aa.skip ?_
  refine aa.seq ?_
  refine aa.block ?_
  refine zE fun k' hk'=>?_
  simp[hh,a,d,e]
  apply hk'
  refine zE fun k' hk'=>?_
  obtain⟨G,I,J⟩:=h
  have B:∀ (sJ:Bool) (ρ:Env) (H:ak) (n:Nat),G sJ→(match sJ with | t=>∃ (q:ag),((ρ 2=pA n1 2∧ρ 3=pA (n1+1) 3∧ρ 5=q∧ρ 6=int g∧ρ 10=int len8∧ρ 11=int g∧ρ 25=bool t)∧H (n1,2)=some ⟨6,[bC false agent]⟩∧H (n1+1,3)=some ⟨2,[mC false m]⟩)∧Sep H n [oI q p] [(n1+1,3),(n1,2)])→aa Tryz.prog 123 32 k' ρ H n Q:=by
   rintro t ρ H n31 h ⟨q,⟨hh,a,d⟩,sp⟩
   replace h:=J _ h
   apply hk'
   refine aa.ite (b:=t) (by simp[hh,a,d]) (fun j=>?_) (fun j=>?_)
   ·replace h:=h.1 j
    refine zF fun k' hk'=>?_
    obtain⟨L,h⟩:=h
    obtain⟨u,M,h⟩:=atm h
    simp[hh,a,d,j,-ba]
    refine a8 [] [] [[int g]] [al g] sp aO (by simp) (by simp) (by simp) (by simp[-ay,o1x]) (bz (az.v _ az.nil)) (by simp) (by simpa using L) ?_
    rintro C N n36 sp D af
    replace sp:Sep N n36 [oI C u] [(n1+1,3),(n1,2)]:=Sep.ap M sp
    have a:=(D _ (by simp)).trans a
    have d:=(D _ (by simp)).trans d
    simp[hh,a,d,j]
    apply hk'
    refine aa.cut (fun ρ H n=>∃ (v40:ag),((ρ 2=pA n1 2∧ρ 3=pA (n1+1) 3∧ρ 5=v40∧ρ 10=int len8∧ρ 11=int g)∧H (n1,2)=some ⟨6,[bC false agent]⟩∧H (n1+1,3)=some ⟨2,[mC false m]⟩)∧Sep H n [oI v40 u] [(n1+1,3),(n1,2)]) (by refine⟨C,by simp[hh,a,d,j],sp⟩) ?_
    clear hh a d
    rintro ρ H am ⟨v40,⟨hh,a,d⟩,sp⟩
    refine aa.inBlock ?_
    refine zF fun k' hk'=>?_
    obtain⟨O,h⟩:=h
    obtain⟨R,T,h⟩:=atm h
    have f44:=aI O T
    simp[hh,a,d,f44,-ai]
    apply hk'
    refine A (R,u) _ _ _ h (by refine⟨v40,by simp[hh,a,d],sp⟩)
   replace h:=h.2 j
   refine aa.skip ?_
   refine aa.inBlock ?_
   refine zF fun k' hk'=>?_
   obtain⟨U,h⟩:=h
   obtain⟨v46,V,h⟩:=atm h
   have f47:=aI U V
   simp[hh,a,d,f47,j,-ai]
   apply hk'
   refine A (v46,p) _ _ _ h (by refine⟨q,by simp[hh,a,d,j],sp⟩)
  replace h:=I
  obtain⟨W,h⟩:=h
  obtain⟨X,Y,h⟩:=atm h
  simp[hh,a,d,e]
  refine aG.aB ae (sm agent g m.nodes W) GH (.cons (bg false agent) (.cons (.v _ _ _) (.cons (cY false m.nodes) .nil))) (by decide) (by decide) rfl (by simp[hh,a,d,e]) ?_
  rintro _ rfl
  rw[← Y]
  rcases Bool.eq_false_or_eq_true X with i | i
  ·replace h:=h.1 i
   obtain⟨ab,h⟩:=h
   obtain⟨ac,ad,h⟩:=atm h
   simp[hh,a,d,e,i]
   refine aG.aB ae (qB m.nodes g ab) e47 (.cons (cY false m.nodes) (.cons (.v _ _ _) .nil)) (by decide) (by decide) rfl (by simp[hh,a,d,e,i]) ?_
   rintro _ rfl
   rw[← ad]
   simp[hh,a,d,e,i]
   exact B ((!ac)) _ _ _ h (by refine⟨o,by simp[hh,a,d,e,i],sp⟩)
  replace h:=h.2 i
  simp[hh,a,d,e,i]
  exact B (false) _ _ _ h (by refine⟨o,by simp[hh,a,d,e,i],sp⟩)
 replace h:=h.2 e
 refine aa.exit rfl ?_
 refine zE fun k' hk'=>?_
 simp[hh,a,d,e]
 apply hk'
 exact aa.aV (v:=o) Tryz.func123 Tryz.results123 (by simp[hh,a,d,e]) (hQ _ _ _ _ (Sep.sub (ids':=[]) sp (by simp)) ⟨p,h,rfl⟩)
theorem lD (agent:Big) (m:Match) (hp:eJ agent m):a7 Tryz.prog 123 [.agg (bC false agent),.agg (mC false m)] (.s [.c]) (fun r=>r = .list true ((bI agent m).map al)):=(pr agent m _ (rM agent m hp)).mono (by rintro _ ⟨_,rfl,rfl⟩;rfl)
end Go.Ab.Vg
/- Walks by program for YtbikfokhjdjfpaaGreatDoorAbCo. -/
namespace Go.Ab.Vg
open Go.Proofs
set_option maxRecDepth 100000
set_option linter.unusedSimpArgs false
set_option linter.unusedVariables false
theorem Ja:Ent Tryz.prog 159:=Ent.of Tryz.func159 (by kernel_rfl) rfl
theorem yP (l:List Str) (h:l.length≤1073741824):eb Tryz.prog 159 (fun v=>[v]) (.s [.c]) (.list true (l.map aL)) (fun e r=>e = .list true ((oL l).1.map aL)∧r = .tup []):=eb.sort (by omega) (fun blk off cap w hH hb=>Tryz.slices_Sort_string blk off cap l w hH hb (by omega)) (fun w=>(Tryz.slices_Sort_string_none none 0 w).mono (by rintro e w' ⟨h1,h2⟩;exact⟨h1,h2 ▸ Go.RowKit.Below.refl _ _⟩))
end Go.Ab.Vg
/- Walks by program for YtbikfokhjdjfpaaGreatDoorAbMp. -/
namespace Go.Ab.Vg
open Go.Proofs
set_option maxRecDepth 100000
set_option linter.unusedSimpArgs false
set_option linter.unusedVariables false
end Go.Ab.Vg
/- Walks by program for YtbikfokhjdjfpaaGreatDoorAbEm. -/
namespace Go.Ab.Vg
open Go.Proofs
set_option maxRecDepth 100000
set_option linter.unusedSimpArgs false
set_option linter.unusedVariables false
attribute [local simp] aL
theorem Fp:Ent Tryz.prog 158:=Ent.of Tryz.func158 (by kernel_rfl) rfl
theorem xd (s:List Str) (Z:(List Str)→Prop) (h:my s Z):a7 Tryz.prog 158 [.list false (s.map aL)] (.s [.c]) (fun r=>∃ y:List Str,Z y∧r = .list true (y.map aL)):=by
 unfold my at h
 have sp:Sep bc 0 [] []:=Sep.nil (by simp)
 refine a7.of Tryz.func158 rfl Tryz.ntmps158 (by simp) fun Q hQ=>?_
 refine aa.cut (fun ρ H n=>ρ 0 = .list false (s.map aL)∧Sep H n [] []) (by refine⟨by simp ,sp⟩) ?_
 rintro ρ H n1 ⟨hh,sp⟩
 refine zE fun k' hk'=>?_
 simp[hh]
 apply hk'
 refine aa.seq ?_
 refine zE fun k' hk'=>?_
 simp[hh]
 refine aG.isNil (fr:=false) (els:=s.map aL) ae (by decide) (by decide) cy (by simp[hh]) (by simp[hh]) ?_
 rintro c2 hc3
 replace h:=h c2 (fun hq=>by simpa using hc3 hq)
 simp[hh]
 apply hk'
 refine aa.ite (b:=c2) (by simp[hh]) (fun dc2=>?_) (fun dc2=>?_)
 ·replace h:=h.1 dc2
  refine zE fun k' hk'=>?_
  simp[hh,dc2]
  apply hk'
  exact aa.aV (v:=.v (.slice none 0 0)) Tryz.func158 Tryz.results158 (by simp[hh,dc2]) (hQ _ _ _ _ (Sep.sub (ids':=[]) (Sep.cu sp) (by simp)) ⟨[],h,rfl⟩)
 replace h:=h.2 dc2
 refine aa.skip ?_
 refine zE fun k' hk'=>?_
 obtain⟨hb6,h⟩:=h
 obtain⟨l7,el7,h⟩:=atm h
 simp[hh,dc2,-ba]
 refine gU (s.map aL) (Sep.addEmpty (l:=[.c]) sp) (by simp) cy (by simp) (by simp) (by simp[dE]) (by simp[-ay,o1x]) (by simpa using hb6) ?_
 rintro v8 H9 d sp e g
 replace sp:Sep H9 d [oS v8 l7] []:=by refine Sep.ap el7 ?_;exact sp
 simp[hh,dc2]
 apply hk'
 refine aa.cut (fun ρ H n=>∃ (a:ag),ρ 2=a∧Sep H n [oS a l7] []) (by refine⟨v8,by simp[hh,dc2],sp⟩) ?_
 clear hh
 rintro ρ H n15 ⟨a,hh,sp⟩
 exact aa.aV (v:=a) Tryz.func158 Tryz.results158 (by simp[hh]) (hQ _ _ _ _ (Sep.sub (ids':=[]) sp (by simp)) ⟨l7,h,rfl⟩)
theorem mI (s:List Str) (hp:kS s):a7 Tryz.prog 158 [.list false (s.map aL)] (.s [.c]) (fun r=>r = .list true ((pg s).map aL)):=(xd s _ (B6 s hp)).mono (by rintro _ ⟨_,rfl,rfl⟩;rfl)
theorem Ig:Ent Tryz.prog 160:=Ent.of Tryz.func160 (by kernel_rfl) rfl
theorem sV (l:List Str) (h:l.length≤1073741824):o8 Tryz.prog 160 (fun v=>[v]) (.s [.c]) (.list true (l.map aL)) (.s [.c]) (fun e=>e = .list true ((j8 l).map aL)):=o8.compact (sr l) (fun blk off cap w hH hc=>Tryz.slices_Compact_string blk off cap l w hH (by omega) hc) (fun _ w=>Tryz.slices_Compact_string_empty none 0 w)
theorem Ii:Ent Tryz.prog 110:=Ent.of Tryz.func110 (by kernel_rfl) rfl
theorem pw (l:List Str) (Z:(List Str)→Prop) (h:fj l Z):a7 Tryz.prog 110 [.list false (l.map aL)] (.s [.c]) (fun r=>∃ y:List Str,Z y∧r = .list true (y.map aL)):=by
 unfold fj at h
 have sp:Sep bc 0 [] []:=Sep.nil (by simp)
 refine a7.of Tryz.func110 rfl Tryz.ntmps110 (by simp) fun Q hQ=>?_
 refine aa.cut (fun ρ H n=>ρ 0 = .list false (l.map aL)∧Sep H n [] []) (by refine⟨by simp ,sp⟩) ?_
 rintro ρ H n1 ⟨hh,sp⟩
 refine zE fun k' hk'=>?_
 simp[hh]
 apply hk'
 refine zE fun k' hk'=>?_
 obtain⟨hb2,h⟩:=h
 obtain⟨r3,er3,h⟩:=atm h
 simp[hh]
 refine aG.cd ae (mI l hb2) Fp (.cons (o6 false l) .nil) sp (by decide) (by decide) rfl (by simp[hh]) ?_
 rintro v4 H5 n6 _ sp rfl hle8 hfr7
 rw[← er3] at sp
 simp[hh]
 apply hk'
 refine aa.cut (fun ρ H n=>∃ (v11:ag),ρ 3=v11∧Sep H n [oS v11 r3] []) (by refine⟨v4,by simp[hh],sp⟩) ?_
 clear hh
 rintro ρ H t ⟨v11,hh,sp⟩
 refine zE fun k' hk'=>?_
 obtain⟨g,h⟩:=h
 obtain⟨b,i,h⟩:=atm h
 have f15:=Sep.oc sp
 simp[hh,f15,-ar,-ay,cAx,o1x]
 refine aG.jh (v:=v11) ae (yP r3 g) Ja sp (by decide) (by decide) rfl (by simp[hh,f15,-ar,-ay,cAx,o1x]) ?_
 rintro _ j n17 _ ⟨rfl,rfl⟩ sp u A
 rw[← i] at sp
 replace sp:Sep j n17 [oS v11 b.1] []:=sp
 simp[hh,f15,-ar,-ay,cAx,o1x]
 apply hk'
 refine aa.cut (fun ρ H n=>∃ (v21:ag),ρ 3=v21∧Sep H n [oS v21 b.1] []) (by refine⟨v11,by simp[hh,f15,-ar,-ay,cAx,o1x],sp⟩) ?_
 clear hh
 rintro ρ H n22 ⟨v21,hh,sp⟩
 refine zE fun k' hk'=>?_
 obtain⟨o,h⟩:=h
 obtain⟨d,p,h⟩:=atm h
 simp[hh]
 refine aG.EO (v:=v21) ae (sV b.1 o) Ig sp (by decide) (by decide) rfl (by simp[hh]) ?_
 rintro e q n27 _ rfl sp B C
 rw[← p] at sp
 replace sp:Sep q n27 [oS e d] []:=sp
 simp[hh]
 apply hk'
 refine aa.cut (fun ρ H n=>∃ (a:ag),ρ 2=a∧Sep H n [oS a d] []) (by refine⟨e,by simp[hh],sp⟩) ?_
 clear hh
 rintro ρ H n33 ⟨a,hh,sp⟩
 exact aa.aV (v:=a) Tryz.func110 Tryz.results110 (by simp[hh]) (hQ _ _ _ _ (Sep.sub (ids':=[]) sp (by simp)) ⟨d,h,rfl⟩)
theorem rZ (l:List Str) (hp:gq l):a7 Tryz.prog 110 [.list false (l.map aL)] (.s [.c]) (fun r=>r = .list true ((bo l).map aL)):=(pw l _ (q7 l hp)).mono (by rintro _ ⟨_,rfl,rfl⟩;rfl)
theorem Hl:Ent Tryz.prog 111:=Ent.of Tryz.func111 (by kernel_rfl) rfl
theorem xc (s:List Str) (v_:Str) (Z:Int→Prop) (h:mS s v_ Z):aq Tryz.prog 111 [.list false (s.map aL),str v_] (fun r=>∃ y:Int,Z y∧r=int y):=by
 unfold mS at h
 refine aq.of Tryz.func111 rfl Tryz.ntmps111 (by simp) fun Q hQ=>?_
 refine aa.cut (fun ρ H n=>(ρ 0 = .list false (s.map aL)∧ρ 1=str v_)) (by simp) ?_
 rintro ρ H n1 hh
 refine zE fun k' hk'=>?_
 simp[hh]
 apply hk'
 refine aa.seq ?_
 refine zE fun k' hk'=>?_
 obtain⟨cf,elen2,h⟩:=atm h
 have f3:=fun H=>ax (H:=H) (fr:=false) (f:=aL) cy elen2
 simp[hh,f3,-aH]
 apply hk'
 refine aa.block ?_
 refine aa.aw h (fun (sJ:Int) ρ H n=>match sJ with | v6=>(ρ 0 = .list false (s.map aL)∧ρ 1=str v_∧ρ 7=int cf∧ρ 8=int v6)) (by simp[hh]) ?_
 clear hh
 rintro v6 ρ H n7 K h hh IH8
 refine zE fun k' hk'=>?_
 obtain⟨d,e,h⟩:=atm h
 have f11:=aT (k:=.i64) e
 simp[hh,f11,-ai]
 apply hk'
 refine aa.seq ?_
 refine aa.ite (b:=d) (by simp[hh]) (fun a=>?_) (fun a=>?_)
 ·replace h:=h.1 a
  refine aa.skip ?_
  refine aa.seq ?_
  refine aa.block ?_
  refine zE fun k' hk'=>?_
  simp[hh,a]
  apply hk'
  refine zE fun k' hk'=>?_
  obtain⟨g,h⟩:=h
  obtain⟨t,i,h⟩:=atm h
  have f14:=fun H=>aE (H:=H) (fr:=false) (f:=aL) (k:=.i64) cy (fun _=>rfl) g i
  obtain⟨j,l,h⟩:=atm h
  have f16:=DX l
  simp[hh,f14,f16,a,-ah,-et]
  apply hk'
  refine aa.ite (b:=j) (by simp[hh,a]) (fun c=>?_) (fun c=>?_)
  ·replace h:=h.1 c
   refine zE fun k' hk'=>?_
   simp[hh,a,c]
   apply hk'
   exact aa.aV (v:=int v6) Tryz.func111 Tryz.results111 (by simp[hh,a,c]) (hQ _ _ _ _ (.of (.v _)) ⟨v6,h,rfl⟩)
  replace h:=h.2 c
  refine aa.skip ?_
  refine aa.inBlock ?_
  refine zF fun k' hk'=>?_
  obtain⟨o,h⟩:=h
  obtain⟨p,q,h⟩:=atm h
  have f19:=aI o q
  simp[hh,f19,a,c,-ai]
  apply hk'
  refine IH8 (p) _ _ _ h (by simp[hh,a,c])
 replace h:=h.2 a
 refine aa.exit rfl ?_
 refine zE fun k' hk'=>?_
 simp[hh,a]
 apply hk'
 exact aa.aV (v:=int (-1)) Tryz.func111 Tryz.results111 (by simp[hh,a]) (hQ _ _ _ _ (.of (.v _)) ⟨(-1),h,rfl⟩)
theorem tN (s:List Str) (v_:Str) (hp:ir s v_):aq Tryz.prog 111 [.list false (s.map aL),str v_] (fun r=>r=int (dQ s v_)):=(xc s v_ _ (B4 s v_ hp)).mono (by rintro _ ⟨_,rfl,rfl⟩;rfl)
theorem e97:Ent Tryz.prog 97:=Ent.of Tryz.func97 (by kernel_rfl) rfl
theorem BT (list:List Str) (name:Str) (Z:Int→Prop) (h:qL list name Z):aq Tryz.prog 97 [.list false (list.map aL),str name] (fun r=>∃ y:Int,Z y∧r=int y):=by
 unfold qL at h
 refine aq.of Tryz.func97 rfl Tryz.ntmps97 (by simp) fun Q hQ=>?_
 refine aa.cut (fun ρ H n=>(ρ 0 = .list false (list.map aL)∧ρ 1=str name)) (by simp) ?_
 rintro ρ H n1 hh
 refine zE fun k' hk'=>?_
 simp[hh]
 apply hk'
 refine aa.seq ?_
 refine zE fun k' hk'=>?_
 simp[hh]
 apply hk'
 refine aa.block ?_
 refine aa.aw h (fun (sJ:Int) ρ H n=>match sJ with | i4=>(ρ 0 = .list false (list.map aL)∧ρ 1=str name∧ρ 5=int i4)) (by simp[hh]) ?_
 clear hh
 rintro i4 ρ H n5 K h hh IH6
 refine aa.seq ?_
 refine zE fun k' hk'=>?_
 obtain⟨len8,elen8,h⟩:=atm h
 have f9:=fun H=>ax (H:=H) (fr:=false) (f:=aL) cy elen8
 obtain⟨d,e,h⟩:=atm h
 have f11:=aT (k:=.i64) e
 simp[hh,f9,f11,-ai,-aH]
 apply hk'
 refine aa.ite (b:=d) (by simp[hh]) (fun a=>?_) (fun a=>?_)
 ·replace h:=h.1 a
  refine aa.skip ?_
  refine aa.seq ?_
  refine aa.block ?_
  refine zE fun k' hk'=>?_
  obtain⟨g,h⟩:=h
  obtain⟨t,i,h⟩:=atm h
  have f14:=fun H=>aE (H:=H) (fr:=false) (f:=aL) (k:=.i64) cy (fun _=>rfl) g i
  obtain⟨j,l,h⟩:=atm h
  have f16:=DX l
  simp[hh,f14,f16,a,-ah,-et]
  apply hk'
  refine aa.ite (b:=j) (by simp[hh,a]) (fun c=>?_) (fun c=>?_)
  ·replace h:=h.1 c
   refine zE fun k' hk'=>?_
   simp[hh,a,c]
   apply hk'
   exact aa.aV (v:=int i4) Tryz.func97 Tryz.results97 (by simp[hh,a,c]) (hQ _ _ _ _ (.of (.v _)) ⟨i4,h,rfl⟩)
  replace h:=h.2 c
  refine aa.skip ?_
  refine aa.inBlock ?_
  refine zF fun k' hk'=>?_
  obtain⟨o,h⟩:=h
  obtain⟨p,q,h⟩:=atm h
  have f19:=aI o q
  simp[hh,f19,a,c,-ai]
  apply hk'
  refine IH6 (p) _ _ _ h (by simp[hh,a,c])
 replace h:=h.2 a
 refine aa.exit rfl ?_
 refine zE fun k' hk'=>?_
 simp[hh,a]
 apply hk'
 exact aa.aV (v:=int (-1)) Tryz.func97 Tryz.results97 (by simp[hh,a]) (hQ _ _ _ _ (.of (.v _)) ⟨(-1),h,rfl⟩)
theorem Fy (list:List Str) (name:Str) (hp:oT list name):aq Tryz.prog 97 [.list false (list.map aL),str name] (fun r=>r=int (E0 list name)):=(BT list name _ (Fb list name hp)).mono (by rintro _ ⟨_,rfl,rfl⟩;rfl)
end Go.Ab.Vg
