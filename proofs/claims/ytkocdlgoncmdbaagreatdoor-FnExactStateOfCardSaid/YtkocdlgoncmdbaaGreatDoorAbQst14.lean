/- Merged texts (14 of 18) of the proof that ends in Sty: Lmw Nmw Mdw Krw Cow Mpw Emw. -/
import Derived.Test.YtkocdlgoncmdbaaGreatDoorAbQst13
open Go.Proofs.Tryz
set_option linter.unusedSimpArgs false
set_option linter.unusedVariables false
namespace Go.Ab.Vg
open Go.Proofs
set_option maxRecDepth 100000
attribute [local simp] Control.cells az.cells aQ.cells av gZ bg bC pA zB
theorem e37:a8 prog 37:=a8.of func37 (by kernel_rfl) rfl
theorem vP (a:List Int) (Z:(List Int)->Prop) (h:kE a Z):bG prog 37 [.list false (a.map av)] (.s [.c]) (fun r=>∃ y:List Int,Z y/\r = .list true (y.map av)):=by
 unfold kE at h;have M:Sep bw 0 [] []:=Sep.nil (by simp);refine bG.of func37 rfl ntmps37 (by simp) fun Q hQ=>?_
 refine J.cut (fun O H n=>O 0 = .list false (a.map av)/\Sep H n [] []) (by refine⟨by simp ,M⟩) ?_;rintro O H U ⟨E,M⟩;refine zE fun _ V=>?_
 simp[E];apply V;refine zE fun _ V=>?_
 obtain⟨bh,elen2,h⟩:=aK h;have f3:=fun H=>aI (H:=H) (fr:=false) (f:=av) aS elen2
 obtain⟨hb4,h⟩:=h;obtain⟨l5,el5,h⟩:=aK h;simp[E,f3,hb4,el5,-aL];apply V;refine J.cut (fun O H n=>∃ (v7:au),(O 0 = .list false (a.map av)/\O 3=v7)/\Sep H n [oI v7 l5] []) (by refine⟨.arr (U,7) bh.toNat 0 bh.toNat,by simp[E,f3,hb4,el5,-aL],(Sep.bx (z:=[int 0]) (f:=av) (k:=bh.toNat) el5 M (fun H=>by show Row H [.c] [int 0] [int 0] [];simp[Row,Tr]))⟩) ?_;clear E;rintro O H n8 ⟨v7,E,M⟩;refine zS fun _ V=>?_
 simp[E];apply V;apply J.block;refine J.aO h (fun (sJ:Int × (List Int)) O H n=>match sJ with | (i16,d)=>∃ (i:au),(O 0 = .list false (a.map av)/\O 3=i/\O 4=int i16)/\Sep H n [oI i d] []) (by refine⟨v7,by simp[E],M⟩) ?_;clear E;rintro⟨i16,d⟩ O H n19 K h ⟨i,E,M⟩ t;refine zS fun _ V=>?_
 obtain⟨Y,u,h⟩:=aK h;have f23:=fun H=>aI (H:=H) (fr:=false) (f:=av) aS u
 obtain⟨A,B,h⟩:=aK h;have f25:=aY (k:=.i64) B;simp[E,f23,f25,-aw,-aL];apply V;refine J.ite (b:=A) (by simp[E]) (fun e=>?_) (fun e=>?_)
 ·replace h:=h.1 e;apply zK;apply J.block;refine zF fun _ V=>?_
  obtain⟨C,h⟩:=h;obtain⟨D,F,h⟩:=aK h;have f28:=fun H=>aP (H:=H) (fr:=false) (f:=av) (k:=.i64) aS (fun _=>rfl) C F
  obtain⟨l,h⟩:=h;obtain⟨o,hv,G,ab,ac⟩:=Sep.eA M (by simp) l;subst hv;obtain⟨ad,L,h⟩:=aK h;have f35:=fun H (hm:H o=some ⟨1,d.map av⟩)=>cH (H:=H) (k:=.i64) (off:=0) (len:=d.length) (g:=d.length) aS hm (by simp) rfl l
  have f36:=cu (q:=i16.toNat) l L rfl;obtain⟨p,N,h⟩:=aK h;simp[E,G,f28,f35,f36,e,-ar,-cq];refine cL (q:=i16.toNat) (news:=av D) [] [] M (by simp) (by simp;omega) (by simp) (by simp[-aM,bu]) (bb.v _ bb.nil) ?_;rintro R M af;replace M:Sep R n19 [oI (.arr o d.length 0 d.length) p] []:=Sep.st N M;simp[E,f28,f35,f36,e,-ar];apply V;refine J.cut (fun O H n=>∃ (j:au),(O 0 = .list false (a.map av)/\O 3=j/\O 4=int i16)/\Sep H n [oI j p] []) (by refine⟨.arr o d.length 0 d.length,by simp[E,f28,f35,f36,e,-ar],M⟩) ?_;clear E;rintro O H am ⟨j,E,M⟩;refine zI fun _ V=>?_
  obtain⟨T,h⟩:=h;obtain⟨W,X,h⟩:=aK h;have f45:=aU T X;simp[E,f45,-aw];apply V;refine t (W,p) _ _ _ h (by refine⟨j,by simp[E],M⟩)
 replace h:=h.2 e;refine J.exit rfl ?_;refine zE fun _ V=>?_
 simp[E,e];apply V;exact J.bj (v:=i) func37 results37 (by simp[E,e]) (hQ _ _ _ _ (Sep.sub (dK:=[]) M (by simp)) ⟨d,h,rfl⟩)
theorem iJ (a:List Int) (hp:gQ a):bG prog 37 [.list false (a.map av)] (.s [.c]) (fun r=>r = .list true ((uw a).map av)):=(vP a _ (BO a hp)).mono (by rintro _ ⟨_,rfl,rfl⟩;rfl)
theorem e38:a8 prog 38:=a8.of func38 (by kernel_rfl) rfl
theorem rp (a:List cP) (Z:(List cP)->Prop) (h:gy a Z):bG prog 38 [.list false (a.map bg)] (.s [.c]) (fun r=>∃ y:List cP,Z y/\r = .list true (y.map bg)):=by
 unfold gy at h;have M:Sep bw 0 [] []:=Sep.nil (by simp);refine bG.of func38 rfl ntmps38 (by simp) fun Q hQ=>?_
 refine J.cut (fun O H n=>O 0 = .list false (a.map bg)/\Sep H n [] []) (by refine⟨by simp ,M⟩) ?_;rintro O H U ⟨E,M⟩;refine zE fun _ V=>?_
 simp[E];apply V;refine zE fun _ V=>?_
 obtain⟨bh,elen2,h⟩:=aK h;have f3:=fun H=>aI (H:=H) (fr:=false) (f:=bg) du elen2
 obtain⟨hb4,h⟩:=h;obtain⟨l5,el5,h⟩:=aK h;simp[E,f3,hb4,el5,-aL];apply V;refine J.cut (fun O H n=>∃ (v7:au),(O 0 = .list false (a.map bg)/\O 3=v7)/\Sep H n [oS v7 l5] []) (by refine⟨.arr (U,7) bh.toNat 0 bh.toNat,by simp[E,f3,hb4,el5,-aL],(Sep.bx (z:=[str []]) (f:=bg) (k:=bh.toNat) el5 M (fun H=>by show Row H [.c] [str []] [str []] [];simp[Row,Tr]))⟩) ?_;clear E;rintro O H n8 ⟨v7,E,M⟩;refine zS fun _ V=>?_
 simp[E];apply V;apply J.block;refine J.aO h (fun (sJ:Int × (List cP)) O H n=>match sJ with | (i16,d)=>∃ (i:au),(O 0 = .list false (a.map bg)/\O 3=i/\O 4=int i16)/\Sep H n [oS i d] []) (by refine⟨v7,by simp[E],M⟩) ?_;clear E;rintro⟨i16,d⟩ O H n19 K h ⟨i,E,M⟩ t;refine zS fun _ V=>?_
 obtain⟨Y,u,h⟩:=aK h;have f23:=fun H=>aI (H:=H) (fr:=false) (f:=bg) du u
 obtain⟨A,B,h⟩:=aK h;have f25:=aY (k:=.i64) B;simp[E,f23,f25,-aw,-aL];apply V;refine J.ite (b:=A) (by simp[E]) (fun e=>?_) (fun e=>?_)
 ·replace h:=h.1 e;apply zK;apply J.block;refine zF fun _ V=>?_
  obtain⟨C,h⟩:=h;obtain⟨D,F,h⟩:=aK h;have f28:=fun H=>aP (H:=H) (fr:=false) (f:=bg) (k:=.i64) du (fun _=>rfl) C F
  obtain⟨l,h⟩:=h;obtain⟨o,hv,G,ab,ac⟩:=Sep.eA M (by simp) l;subst hv;obtain⟨ad,L,h⟩:=aK h;have f35:=fun H (hm:H o=some ⟨1,d.map bg⟩)=>cH (H:=H) (k:=.i64) (off:=0) (len:=d.length) (g:=d.length) du hm (by simp) rfl l
  have f36:=cu (q:=i16.toNat) l L rfl;obtain⟨p,N,h⟩:=aK h;simp[E,G,f28,f35,f36,e,-ar,-cq];refine cL (q:=i16.toNat) (news:=bg D) [] [] M (by simp) (by simp;omega) (by simp) (by simp[-aM,bu]) (bb.v _ bb.nil) ?_;rintro R M af;replace M:Sep R n19 [oS (.arr o d.length 0 d.length) p] []:=Sep.st N M;simp[E,f28,f35,f36,e,-ar];apply V;refine J.cut (fun O H n=>∃ (j:au),(O 0 = .list false (a.map bg)/\O 3=j/\O 4=int i16)/\Sep H n [oS j p] []) (by refine⟨.arr o d.length 0 d.length,by simp[E,f28,f35,f36,e,-ar],M⟩) ?_;clear E;rintro O H am ⟨j,E,M⟩;refine zI fun _ V=>?_
  obtain⟨T,h⟩:=h;obtain⟨W,X,h⟩:=aK h;have f45:=aU T X;simp[E,f45,-aw];apply V;refine t (W,p) _ _ _ h (by refine⟨j,by simp[E],M⟩)
 replace h:=h.2 e;refine J.exit rfl ?_;refine zE fun _ V=>?_
 simp[E,e];apply V;exact J.bj (v:=i) func38 results38 (by simp[E,e]) (hQ _ _ _ _ (Sep.sub (dK:=[]) M (by simp)) ⟨d,h,rfl⟩)
theorem jJ (a:List cP) (hp:fJ a):bG prog 38 [.list false (a.map bg)] (.s [.c]) (fun r=>r = .list true ((oA a).map bg)):=(rp a _ (uT a hp)).mono (by rintro _ ⟨_,rfl,rfl⟩;rfl)
theorem e35:a8 prog 35:=a8.of func35 (by kernel_rfl) rfl
theorem rL (a:Control) (Z:Control->Prop) (h:jm a Z):aC prog 35 [.agg [str a.name,int a.ports,int a.kind]] (fun r=>∃ y:Control,Z y/\r = .agg [str y.name,int y.ports,int y.kind]):=by
 unfold jm at h;refine aC.of func35 rfl ntmps35 (by simp) fun Q hQ=>?_
 refine J.cut (fun O H n=>O 0 = .agg [str a.name,int a.ports,int a.kind]) (by simp[]) ?_;rintro O H U E;refine zE fun _ V=>?_
 simp[E];apply V;refine J.cut (fun O H n=>(O 1=pA U 1/\O 2=pA (U+1) 2)/\H (U,1)=some ⟨3,[[str a.name,int a.ports,int a.kind]]⟩/\H (U+1,2)=some ⟨3,[[str [],int 0,int 0]]⟩) (by refine⟨?_,?_,?_⟩<;>simp[E]) ?_;clear E;rintro O H n4 ⟨E,c,b⟩;refine zE fun _ V=>?_
 simp[E,c,b];apply V;refine J.cut (fun O H n=>(O 1=pA U 1/\O 2=pA (U+1) 2/\O 3=pA n4 3)/\H (U,1)=some ⟨3,[[str a.name,int a.ports,int a.kind]]⟩/\H (U+1,2)=some ⟨3,[[str [],int 0,int 0]]⟩/\H (n4,3)=some ⟨3,[[str [],int 0,int 0]]⟩) (by refine⟨?_,?_,?_,?_⟩<;>simp[E,c,b]) ?_;clear E c b;rintro O H n6 ⟨E,c,b,d⟩;refine zE fun _ V=>?_
 simp[E,c,b,d];apply V;refine J.cut (fun O H n=>(O 1=pA U 1/\O 2=pA (U+1) 2/\O 3=pA n4 3)/\H (U,1)=some ⟨3,[[str a.name,int a.ports,int a.kind]]⟩/\H (U+1,2)=some ⟨3,[[str [],int 0,int 0]]⟩/\H (n4,3)=some ⟨3,[[str a.name,int 0,int 0]]⟩) (by refine⟨?_,?_,?_,?_⟩<;>simp[E,c,b,d]) ?_;clear E c b d;rintro O H n7 ⟨E,c,b,d⟩;refine zE fun _ V=>?_
 simp[E,c,b,d];apply V;refine J.cut (fun O H n=>(O 1=pA U 1/\O 2=pA (U+1) 2/\O 3=pA n4 3)/\H (U,1)=some ⟨3,[[str a.name,int a.ports,int a.kind]]⟩/\H (U+1,2)=some ⟨3,[[str [],int 0,int 0]]⟩/\H (n4,3)=some ⟨3,[[str a.name,int a.ports,int 0]]⟩) (by refine⟨?_,?_,?_,?_⟩<;>simp[E,c,b,d]) ?_;clear E c b d;rintro O H n8 ⟨E,c,b,d⟩;refine zE fun _ V=>?_
 simp[E,c,b,d];apply V;refine J.cut (fun O H n=>(O 2=pA (U+1) 2/\O 3=pA n4 3)/\H (U+1,2)=some ⟨3,[[str [],int 0,int 0]]⟩/\H (n4,3)=some ⟨3,[[str a.name,int a.ports,int a.kind]]⟩) (by refine⟨?_,?_,?_⟩<;>simp[E,c,b,d]) ?_;clear E c b d;rintro O H n9 ⟨E,b,d⟩;refine zE fun _ V=>?_
 simp[E,b,d];apply V;refine J.cut (fun O H n=>O 2=pA (U+1) 2/\H (U+1,2)=some ⟨3,[[str a.name,int a.ports,int a.kind]]⟩) (by refine⟨?_,?_⟩<;>simp[E,b,d]) ?_;clear E b d;rintro O H e ⟨E,b⟩;exact J.uC ay (v:=.agg [str a.name,int a.ports,int a.kind]) func35 results35 (by simp[E,b,iT]) (hQ _ _ _ _ (.of (.Gd (.cons (.v _) (.cons (.v _) (.cons (.v _) .nil))))) ⟨a,h,rfl⟩)
theorem jI (a:Control)  : aC prog 35 [.agg [str a.name,int a.ports,int a.kind]] (fun r=>r = .agg [str ((iL a).name),int ((iL a).ports),int ((iL a).kind)]):=(rL a _ (uG a )).mono (by rintro _ ⟨_,rfl,rfl⟩;rfl)
theorem e10:a8 prog 10:=a8.of func10 (by kernel_rfl) rfl
theorem pM (a:List Control) (Z:(List Control)->Prop) (h:fG a Z):bG prog 10 [.list false (a.map Control.cells)] (.s [.c,.c,.c]) (fun r=>∃ y:List Control,Z y/\r = .list true (y.map Control.cells)):=by
 unfold fG at h;have M:Sep bw 0 [] []:=Sep.nil (by simp);refine bG.of func10 rfl ntmps10 (by simp) fun Q hQ=>?_
 refine J.cut (fun O H n=>O 0 = .list false (a.map Control.cells)/\Sep H n [] []) (by refine⟨by simp ,M⟩) ?_;rintro O H U ⟨E,M⟩;refine zE fun _ V=>?_
 simp[E];apply V;refine zE fun _ V=>?_
 obtain⟨bh,elen2,h⟩:=aK h;have f3:=fun H=>aI (H:=H) (fr:=false) (f:=Control.cells) Au elen2
 obtain⟨hb4,h⟩:=h;obtain⟨l5,el5,h⟩:=aK h;simp[E,f3,hb4,el5,-aL];apply V;refine J.cut (fun O H n=>∃ (v7:au),(O 0 = .list false (a.map Control.cells)/\O 3=v7)/\Sep H n [oE [.c,.c,.c] Control.cells v7 l5] []) (by refine⟨.arr (U,7) bh.toNat 0 bh.toNat,by simp[E,f3,hb4,el5,-aL],(Sep.bx (z:=[str [],int 0,int 0]) (f:=Control.cells) (k:=bh.toNat) el5 M (fun H=>by show Row H [.c,.c,.c] [str [],int 0,int 0] [str [],int 0,int 0] [];simp[Row,Tr]))⟩) ?_;clear E;rintro O H n8 ⟨v7,E,M⟩;refine zS fun _ V=>?_
 simp[E];apply V;apply J.block;refine J.aO h (fun (sJ:Int × (List Control)) O H n=>match sJ with | (i16,d)=>∃ (i:au),(O 0 = .list false (a.map Control.cells)/\O 3=i/\O 4=int i16)/\Sep H n [oE [.c,.c,.c] Control.cells i d] []) (by refine⟨v7,by simp[E],M⟩) ?_;clear E;rintro⟨i16,d⟩ O H n19 K h ⟨i,E,M⟩ t;refine zS fun _ V=>?_
 obtain⟨ab,u,h⟩:=aK h;have f23:=fun H=>aI (H:=H) (fr:=false) (f:=Control.cells) Au u
 obtain⟨A,B,h⟩:=aK h;have f25:=aY (k:=.i64) B;simp[E,f23,f25,-aw,-aL];apply V;refine J.ite (b:=A) (by simp[E]) (fun e=>?_) (fun e=>?_)
 ·replace h:=h.1 e;apply zK;apply J.block;refine zF fun _ V=>?_
  obtain⟨C,h⟩:=h;obtain⟨D,F,h⟩:=aK h;have f28:=fun H=>aP (H:=H) (fr:=false) (f:=Control.cells) (k:=.i64) Au (fun _=>rfl) C F
  obtain⟨r29,G,h⟩:=aK h;simp[E,f28,e,-ar];refine zA (jI D ) e35 (.cons (aJ.agg (.cons (.v _ _ _) (.cons (.v _ _ _) (.cons (.v _ _ _) .nil)))) .nil) (by simp[E,f28,e,-ar]) ?_;rintro _ rfl;rw[<- G];obtain⟨l,h⟩:=h;obtain⟨o,hv,L,ac,ad⟩:=Sep.eA M (by simp) l;subst hv;obtain⟨af,N,h⟩:=aK h;have f36:=fun H (hm:H o=some ⟨3,d.map Control.cells⟩)=>cH (H:=H) (k:=.i64) (off:=0) (len:=d.length) (g:=d.length) Hd hm (by simp) rfl l
  have f37:=cu (q:=i16.toNat) l N rfl;obtain⟨p,R,h⟩:=aK h;simp[E,L,f28,f36,f37,e,-ar,-cq];refine cL (q:=i16.toNat) (news:=Control.cells r29) [] [] M (by simp) (by simp;omega) (by simp) (by simp[-aM,bu]) (bb.v _ (bb.v _ (bb.v _ bb.nil))) ?_;rintro T M am;replace M:Sep T n19 [oE [.c,.c,.c] Control.cells (.arr o d.length 0 d.length) p] []:=Sep.st R M;simp[E,f28,f36,f37,e,-ar];apply V;refine J.cut (fun O H n=>∃ (j:au),(O 0 = .list false (a.map Control.cells)/\O 3=j/\O 4=int i16)/\Sep H n [oE [.c,.c,.c] Control.cells j p] []) (by refine⟨.arr o d.length 0 d.length,by simp[E,f28,f36,f37,e,-ar],M⟩) ?_;clear E;rintro O H ao ⟨j,E,M⟩;refine zI fun _ V=>?_
  obtain⟨W,h⟩:=h;obtain⟨X,Y,h⟩:=aK h;have f46:=aU W Y;simp[E,f46,-aw];apply V;refine t (X,p) _ _ _ h (by refine⟨j,by simp[E],M⟩)
 replace h:=h.2 e;refine J.exit rfl ?_;refine zE fun _ V=>?_
 simp[E,e];apply V;exact J.bj (v:=i) func10 results10 (by simp[E,e]) (hQ _ _ _ _ (Sep.sub (dK:=[]) M (by simp)) ⟨d,h,rfl⟩)
theorem fK (a:List Control) (hp:dy a):bG prog 10 [.list false (a.map Control.cells)] (.s [.c,.c,.c]) (fun r=>r = .list true ((fD a).map Control.cells)):=(pM a _ (sL a hp)).mono (by rintro _ ⟨_,rfl,rfl⟩;rfl)
theorem e88:a8 prog 88:=a8.of func88 (by kernel_rfl) rfl
theorem xn (a:aQ) (Z:aQ->Prop) (h:oL a Z):aC prog 88 [.agg [str a.name,int a.link]] (fun r=>∃ y:aQ,Z y/\r = .agg [str y.name,int y.link]):=by
 unfold oL at h;refine aC.of func88 rfl ntmps88 (by simp) fun Q hQ=>?_
 refine J.cut (fun O H n=>O 0 = .agg [str a.name,int a.link]) (by simp[]) ?_;rintro O H U E;refine zE fun _ V=>?_
 simp[E];apply V;refine J.cut (fun O H n=>(O 1=pA U 1/\O 2=pA (U+1) 2)/\H (U,1)=some ⟨2,[[str a.name,int a.link]]⟩/\H (U+1,2)=some ⟨2,[[str [],int 0]]⟩) (by refine⟨?_,?_,?_⟩<;>simp[E]) ?_;clear E;rintro O H n4 ⟨E,c,b⟩;refine zE fun _ V=>?_
 simp[E,c,b];apply V;refine J.cut (fun O H n=>(O 1=pA U 1/\O 2=pA (U+1) 2/\O 3=pA n4 3)/\H (U,1)=some ⟨2,[[str a.name,int a.link]]⟩/\H (U+1,2)=some ⟨2,[[str [],int 0]]⟩/\H (n4,3)=some ⟨2,[[str [],int 0]]⟩) (by refine⟨?_,?_,?_,?_⟩<;>simp[E,c,b]) ?_;clear E c b;rintro O H n6 ⟨E,c,b,d⟩;refine zE fun _ V=>?_
 simp[E,c,b,d];apply V;refine J.cut (fun O H n=>(O 1=pA U 1/\O 2=pA (U+1) 2/\O 3=pA n4 3)/\H (U,1)=some ⟨2,[[str a.name,int a.link]]⟩/\H (U+1,2)=some ⟨2,[[str [],int 0]]⟩/\H (n4,3)=some ⟨2,[[str a.name,int 0]]⟩) (by refine⟨?_,?_,?_,?_⟩<;>simp[E,c,b,d]) ?_;clear E c b d;rintro O H n7 ⟨E,c,b,d⟩;refine zE fun _ V=>?_
 simp[E,c,b,d];apply V;refine J.cut (fun O H n=>(O 2=pA (U+1) 2/\O 3=pA n4 3)/\H (U+1,2)=some ⟨2,[[str [],int 0]]⟩/\H (n4,3)=some ⟨2,[[str a.name,int a.link]]⟩) (by refine⟨?_,?_,?_⟩<;>simp[E,c,b,d]) ?_;clear E c b d;rintro O H n8 ⟨E,b,d⟩;refine zE fun _ V=>?_
 simp[E,b,d];apply V;refine J.cut (fun O H n=>O 2=pA (U+1) 2/\H (U+1,2)=some ⟨2,[[str a.name,int a.link]]⟩) (by refine⟨?_,?_⟩<;>simp[E,b,d]) ?_;clear E b d;rintro O H n9 ⟨E,b⟩;exact J.uC ay (v:=.agg [str a.name,int a.link]) func88 results88 (by simp[E,b,iT]) (hQ _ _ _ _ (.of (.Gd (.cons (.v _) (.cons (.v _) .nil)))) ⟨a,h,rfl⟩)
theorem ou (a:aQ)  : aC prog 88 [.agg [str a.name,int a.link]] (fun r=>r = .agg [str ((tU a).name),int ((tU a).link)]):=(xn a _ (C8 a )).mono (by rintro _ ⟨_,rfl,rfl⟩;rfl)
theorem e39:a8 prog 39:=a8.of func39 (by kernel_rfl) rfl
theorem uu (a:List aQ) (Z:(List aQ)->Prop) (h:jD a Z):bG prog 39 [.list false (a.map aQ.cells)] (.s [.c,.c]) (fun r=>∃ y:List aQ,Z y/\r = .list true (y.map aQ.cells)):=by
 unfold jD at h;have M:Sep bw 0 [] []:=Sep.nil (by simp);refine bG.of func39 rfl ntmps39 (by simp) fun Q hQ=>?_
 refine J.cut (fun O H n=>O 0 = .list false (a.map aQ.cells)/\Sep H n [] []) (by refine⟨by simp ,M⟩) ?_;rintro O H U ⟨E,M⟩;refine zE fun _ V=>?_
 simp[E];apply V;refine zE fun _ V=>?_
 obtain⟨bh,elen2,h⟩:=aK h;have f3:=fun H=>aI (H:=H) (fr:=false) (f:=aQ.cells) AH elen2
 obtain⟨hb4,h⟩:=h;obtain⟨l5,el5,h⟩:=aK h;simp[E,f3,hb4,el5,-aL];apply V;refine J.cut (fun O H n=>∃ (v7:au),(O 0 = .list false (a.map aQ.cells)/\O 3=v7)/\Sep H n [oW v7 l5] []) (by refine⟨.arr (U,7) bh.toNat 0 bh.toNat,by simp[E,f3,hb4,el5,-aL],(Sep.bx (z:=[str [],int 0]) (f:=aQ.cells) (k:=bh.toNat) el5 M (fun H=>by show Row H [.c,.c] [str [],int 0] [str [],int 0] [];simp[Row,Tr]))⟩) ?_;clear E;rintro O H n8 ⟨v7,E,M⟩;refine zS fun _ V=>?_
 simp[E];apply V;apply J.block;refine J.aO h (fun (sJ:Int × (List aQ)) O H n=>match sJ with | (i16,d)=>∃ (i:au),(O 0 = .list false (a.map aQ.cells)/\O 3=i/\O 4=int i16)/\Sep H n [oW i d] []) (by refine⟨v7,by simp[E],M⟩) ?_;clear E;rintro⟨i16,d⟩ O H n19 K h ⟨i,E,M⟩ t;refine zS fun _ V=>?_
 obtain⟨ab,u,h⟩:=aK h;have f23:=fun H=>aI (H:=H) (fr:=false) (f:=aQ.cells) AH u
 obtain⟨A,B,h⟩:=aK h;have f25:=aY (k:=.i64) B;simp[E,f23,f25,-aw,-aL];apply V;refine J.ite (b:=A) (by simp[E]) (fun e=>?_) (fun e=>?_)
 ·replace h:=h.1 e;apply zK;apply J.block;refine zF fun _ V=>?_
  obtain⟨C,h⟩:=h;obtain⟨D,F,h⟩:=aK h;have f28:=fun H=>aP (H:=H) (fr:=false) (f:=aQ.cells) (k:=.i64) AH (fun _=>rfl) C F
  obtain⟨r29,G,h⟩:=aK h;simp[E,f28,e,-ar];refine zA (ou D ) e88 (.cons (aJ.agg (.cons (.v _ _ _) (.cons (.v _ _ _) .nil))) .nil) (by simp[E,f28,e,-ar]) ?_;rintro _ rfl;rw[<- G];obtain⟨l,h⟩:=h;obtain⟨o,hv,L,ac,ad⟩:=Sep.eA M (by simp) l;subst hv;obtain⟨af,N,h⟩:=aK h;have f36:=fun H (hm:H o=some ⟨2,d.map aQ.cells⟩)=>cH (H:=H) (k:=.i64) (off:=0) (len:=d.length) (g:=d.length) dM hm (by simp) rfl l
  have f37:=cu (q:=i16.toNat) l N rfl;obtain⟨p,R,h⟩:=aK h;simp[E,L,f28,f36,f37,e,-ar,-cq];refine cL (q:=i16.toNat) (news:=aQ.cells r29) [] [] M (by simp) (by simp;omega) (by simp) (by simp[-aM,bu]) (bb.v _ (bb.v _ bb.nil)) ?_;rintro T M am;replace M:Sep T n19 [oW (.arr o d.length 0 d.length) p] []:=Sep.st R M;simp[E,f28,f36,f37,e,-ar];apply V;refine J.cut (fun O H n=>∃ (j:au),(O 0 = .list false (a.map aQ.cells)/\O 3=j/\O 4=int i16)/\Sep H n [oW j p] []) (by refine⟨.arr o d.length 0 d.length,by simp[E,f28,f36,f37,e,-ar],M⟩) ?_;clear E;rintro O H ao ⟨j,E,M⟩;refine zI fun _ V=>?_
  obtain⟨W,h⟩:=h;obtain⟨X,Y,h⟩:=aK h;have f46:=aU W Y;simp[E,f46,-aw];apply V;refine t (X,p) _ _ _ h (by refine⟨j,by simp[E],M⟩)
 replace h:=h.2 e;refine J.exit rfl ?_;refine zE fun _ V=>?_
 simp[E,e];apply V;exact J.bj (v:=i) func39 results39 (by simp[E,e]) (hQ _ _ _ _ (Sep.sub (dK:=[]) M (by simp)) ⟨d,h,rfl⟩)
theorem me (a:List aQ) (hp:hZ a):bG prog 39 [.list false (a.map aQ.cells)] (.s [.c,.c]) (fun r=>r = .list true ((uh a).map aQ.cells)):=(uu a _ (Aa a hp)).mono (by rintro _ ⟨_,rfl,rfl⟩;rfl)
theorem e87:a8 prog 87:=a8.of func87 (by kernel_rfl) rfl
theorem wv (a:az) (Z:az->Prop) (h:kF a Z):bG prog 87 [.agg [int a.control,int a.parent,.list false (a.links.map av)]] (.a [.c,.c,.s [.c]]) (fun r=>∃ y:az,Z y/\r = .agg [int y.control,int y.parent,.list true (y.links.map av)]):=by
 unfold kF at h;have M:Sep bw 0 [] []:=Sep.nil (by simp);refine bG.of func87 rfl ntmps87 (by simp) fun Q hQ=>?_
 refine J.cut (fun O H n=>O 0 = .agg [int a.control,int a.parent,.list false (a.links.map av)]/\Sep H n [] []) (by refine⟨by simp ,M⟩) ?_;rintro O H U ⟨E,M⟩;refine zE fun _ V=>?_
 simp[E];apply V;refine J.cut (fun O H n=>((O 1=pA U 1/\O 2=pA (U+1) 2)/\H (U,1)=some ⟨3,[[int a.control,int a.parent,.list false (a.links.map av)]]⟩/\H (U+1,2)=some ⟨3,[[int 0,int 0,.v (.slice none 0 0)]]⟩)/\Sep H n [] [(U+1,2),(U,1)]) (by refine⟨by simp[E],M.var.var⟩) ?_;clear E;rintro O H n4 ⟨⟨E,d,b⟩,M⟩;refine zE fun _ V=>?_
 simp[E,d,b];apply V;refine J.cut (fun O H n=>((O 1=pA U 1/\O 2=pA (U+1) 2/\O 3=pA n4 3)/\H (U,1)=some ⟨3,[[int a.control,int a.parent,.list false (a.links.map av)]]⟩/\H (U+1,2)=some ⟨3,[[int 0,int 0,.v (.slice none 0 0)]]⟩/\H (n4,3)=some ⟨3,[[int 0,int 0,.v (.slice none 0 0)]]⟩)/\Sep H n [] [(n4,3),(U+1,2),(U,1)]) (by refine⟨by simp[E,d,b],M.var⟩) ?_;clear E d b;rintro O H n6 ⟨⟨E,d,b,e⟩,M⟩;refine zE fun _ V=>?_
 simp[E,d,b,e];apply V;refine J.cut (fun O H n=>((O 1=pA U 1/\O 2=pA (U+1) 2/\O 3=pA n4 3)/\H (U,1)=some ⟨3,[[int a.control,int a.parent,.list false (a.links.map av)]]⟩/\H (U+1,2)=some ⟨3,[[int 0,int 0,.v (.slice none 0 0)]]⟩/\H (n4,3)=some ⟨3,[[int a.control,int 0,.v (.slice none 0 0)]]⟩)/\Sep H n [] [(n4,3),(U+1,2),(U,1)]) (by refine⟨by simp[E,d,b,e],(Sep.bH (w:=(n4,3)) M (by simp))⟩) ?_;clear E d b e;rintro O H n7 ⟨⟨E,d,b,e⟩,M⟩;refine zE fun _ V=>?_
 simp[E,d,b,e];apply V;refine J.cut (fun O H n=>((O 1=pA U 1/\O 2=pA (U+1) 2/\O 3=pA n4 3)/\H (U,1)=some ⟨3,[[int a.control,int a.parent,.list false (a.links.map av)]]⟩/\H (U+1,2)=some ⟨3,[[int 0,int 0,.v (.slice none 0 0)]]⟩/\H (n4,3)=some ⟨3,[[int a.control,int a.parent,.v (.slice none 0 0)]]⟩)/\Sep H n [] [(n4,3),(U+1,2),(U,1)]) (by refine⟨by simp[E,d,b,e],(Sep.bH (w:=(n4,3)) M (by simp))⟩) ?_;clear E d b e;rintro O H n8 ⟨⟨E,d,b,e⟩,M⟩;refine zE fun _ V=>?_
 obtain⟨hb9,h⟩:=h;obtain⟨i,l,h⟩:=aK h;simp[E,d,b,e];refine zW (iJ a.links hb9) e37 (.cons (cU false a.links) .nil) M (by simp[E,d,b,e]) ?_;rintro v11 o p _ M rfl q j;rw[<- l] at M;have d:=(j _ (by simp)).trans d;have b:=(j _ (by simp)).trans b;have e:=(j _ (by simp)).trans e;have f18:=Sep.oc M;simp[E,d,b,e,f18,-aE,-aM,bT,bu];apply V;refine J.cut (fun O H n=>∃ (g:au),((O 2=pA (U+1) 2/\O 3=pA n4 3)/\H (U+1,2)=some ⟨3,[[int 0,int 0,.v (.slice none 0 0)]]⟩/\H (n4,3)=some ⟨3,[[int a.control,int a.parent,g]]⟩)/\Sep H n [oI g i] [(n4,3),(U+1,2)]) (by refine⟨v11,by simp[E,d,b,e,f18,-aE,-aM,bT,bu],(Sep.sub (Sep.bH (w:=(n4,3)) M (by simp)) (by simp +contextual))⟩) ?_;clear E d b e;rintro O H n20 ⟨g,⟨E,b,e⟩,M⟩;refine zE fun _ V=>?_
 have f21:=Sep.oc M;simp[E,b,e,f21,-aE,-aM,bT,bu];apply V;refine J.cut (fun O H n=>∃ (v22:au),(O 2=pA (U+1) 2/\H (U+1,2)=some ⟨3,[[int a.control,int a.parent,v22]]⟩)/\Sep H n [oI v22 i] [(U+1,2)]) (by refine⟨g,by simp[E,b,e,f21,-aE,-aM,bT,bu],(Sep.sub (Sep.bH (w:=(U+1,2)) M (by simp)) (by simp +contextual))⟩) ?_;clear E b e;rintro O H n23 ⟨v22,⟨E,b⟩,M⟩;exact J.uC ay (v:=.agg [int a.control,int a.parent,v22]) func87 results87 (by simp[E,b,iT]) (hQ _ _ _ _ (Sep.sub (dK:=[]) (Sep.pack (bb.v _ (bb.v _ (bb.own bb.nil))) M) (by simp)) ⟨(az.mk a.control a.parent i),h,rfl⟩)
theorem oB (a:az) (hp:lW a):bG prog 87 [.agg [int a.control,int a.parent,.list false (a.links.map av)]] (.a [.c,.c,.s [.c]]) (fun r=>r = .agg [int ((rv a).control),int ((rv a).parent),.list true (((rv a).links).map av)]):=(wv a _ (CP a hp)).mono (by rintro _ ⟨_,rfl,rfl⟩;rfl)
theorem e36:a8 prog 36:=a8.of func36 (by kernel_rfl) rfl
theorem tX (a:List az) (Z:(List az)->Prop) (h:jq a Z):bG prog 36 [.list false (a.map (az.cells false))] (.s [.c,.c,.s [.c]]) (fun r=>∃ y:List az,Z y/\r = .list true (y.map (az.cells true))):=by
 unfold jq at h;have M:Sep bw 0 [] []:=Sep.nil (by simp);refine bG.of func36 rfl ntmps36 (by simp) fun Q hQ=>?_
 refine J.cut (fun O H n=>O 0 = .list false (a.map (az.cells false))/\Sep H n [] []) (by refine⟨by simp ,M⟩) ?_;rintro O H U ⟨E,M⟩;refine zE fun _ V=>?_
 simp[E];apply V;refine zE fun _ V=>?_
 obtain⟨bh,elen2,h⟩:=aK h;have f3:=fun H=>aI (H:=H) (fr:=false) (f:=(az.cells false)) Ak elen2
 obtain⟨hb4,h⟩:=h;obtain⟨l5,el5,h⟩:=aK h;simp[E,f3,hb4,el5,-aL];apply V;refine J.cut (fun O H n=>∃ (v7:au),(O 0 = .list false (a.map (az.cells false))/\O 3=v7)/\Sep H n [oN v7 l5] []) (by refine⟨.arr (U,7) bh.toNat 0 bh.toNat,by simp[E,f3,hb4,el5,-aL],(Sep.bx (z:=[int 0,int 0,.v (.slice none 0 0)]) (f:=(az.cells true)) (k:=bh.toNat) el5 M (fun H=>by show Row H [.c,.c,.s [.c]] [int 0,int 0,.v (.slice none 0 0)] [int 0,int 0,.list true []] [];simp[Row,Tr]))⟩) ?_;clear E;rintro O H n8 ⟨v7,E,M⟩;refine zS fun _ V=>?_
 simp[E];apply V;apply J.block;refine J.aO h (fun (sJ:Int × (List az)) O H n=>match sJ with | (i16,e)=>∃ (i:au),(O 0 = .list false (a.map (az.cells false))/\O 3=i/\O 4=int i16)/\Sep H n [oN i e] []) (by refine⟨v7,by simp[E],M⟩) ?_;clear E;rintro⟨i16,e⟩ O H n19 K h ⟨i,E,M⟩ G;refine zS fun _ V=>?_
 obtain⟨a3,L,h⟩:=aK h;have f23:=fun H=>aI (H:=H) (fr:=false) (f:=(az.cells false)) Ak L
 obtain⟨N,R,h⟩:=aK h;have f25:=aY (k:=.i64) R;simp[E,f23,f25,-aw,-aL];apply V;refine J.ite (b:=N) (by simp[E]) (fun d=>?_) (fun d=>?_)
 ·replace h:=h.1 d;apply zK;apply J.block;refine zF fun _ V=>?_
  obtain⟨T,h⟩:=h;obtain⟨u,W,h⟩:=aK h;have f28:=fun H=>aP (H:=H) (fr:=false) (f:=(az.cells false)) (k:=.i64) Ak (fun _=>rfl) T W
  obtain⟨X,h⟩:=h;obtain⟨r30,Y,h⟩:=aK h;simp[E,f28,d,-ar];refine zW (oB u X) e87 (.cons (aJ.agg (.cons (.v _ _ _) (.cons (.v _ _ _) (.cons (cU false u.links) .nil)))) .nil) M (by simp[E,f28,d,-ar]) ?_;rintro v31 a4 n33 _ M rfl a5 a9;rw[<- Y] at M;replace M:=Sep.unpack M;obtain⟨L40,hv,ab,M⟩:=M;subst hv;obtain⟨v37,bd,ac,hv⟩:=len3 (by simpa using ab);subst hv;simp only[gp,List.cons_append,List.nil_append] at M;replace M:=Sep.scalar M;obtain⟨hv,M⟩:=M;subst hv;replace M:=Sep.scalar M;obtain⟨hv,M⟩:=M;subst hv;replace M:=Sep.oo M;try simp only[List.append_eq,List.cons_append,List.nil_append,List.append_assoc] at M
  obtain⟨A,h⟩:=h;obtain⟨g,ad,h⟩:=aK h;obtain⟨B,be,bi,af,o,C,D,am,ao,br,bs,bv,j,bC⟩:=Sep.rowF (q:=i16.toNat) (f:=(az.cells true)) M A ad rfl;subst o;obtain⟨ap,F,p,o⟩:=len3 (by simpa using ao);subst o;replace j:Sep _ _ [(.c,ap,int g.control),(.c,F,int g.parent),(.s [.c],p,.list true (g.links.map av))] af:=j;obtain rfl:=Sep.cAt (K1:=[]) (K2:=[(.c,F,int g.parent),(.s [.c],p,.list true (g.links.map av))]) j;obtain rfl:=Sep.cAt (K1:=[(.c,int g.control,int g.control)]) (K2:=[(.s [.c],p,.list true (g.links.map av))]) j;have f62:=cH (k:=.i64) (off:=0) (len:=e.length) b9 C D rfl A;obtain⟨t,aX,h⟩:=aK h;simp[E,C,D,am,f28,f62,d,-ar,-cq];refine cL (q:=i16.toNat) (news:=(az.cells true) r30) [oI ac r30.links] [] M (by simp) (by simp;omega) (by simp) (by simp[-aM,bu,Sep.aM M.dr]) (bb.v _ (bb.v _ (bb.own bb.nil))) ?_;rintro a0 M b0;replace M:Sep a0 n33 [oN (.arr B e.length 0 e.length) t] []:=Sep.st aX M;simp[E,f28,f62,d,-ar];apply V;refine J.cut (fun O H n=>∃ (l:au),(O 0 = .list false (a.map (az.cells false))/\O 3=l/\O 4=int i16)/\Sep H n [oN l t] []) (by refine⟨.arr B e.length 0 e.length,by simp[E,f28,f62,d,-ar],M⟩) ?_;clear E;rintro O H b1 ⟨l,E,M⟩;refine zI fun _ V=>?_
  obtain⟨a1,h⟩:=h;obtain⟨v70,a2,h⟩:=aK h;have f71:=aU a1 a2;simp[E,f71,-aw];apply V;refine G (v70,t) _ _ _ h (by refine⟨l,by simp[E],M⟩)
 replace h:=h.2 d;refine J.exit rfl ?_;refine zE fun _ V=>?_
 simp[E,d];apply V;exact J.bj (v:=i) func36 results36 (by simp[E,d]) (hQ _ _ _ _ (Sep.sub (dK:=[]) M (by simp)) ⟨e,h,rfl⟩)
theorem mj (a:List az) (hp:j8 a):bG prog 36 [.list false (a.map (az.cells false))] (.s [.c,.c,.s [.c]]) (fun r=>r = .list true ((uP a).map (az.cells true))):=(tX a _ (yg a hp)).mono (by rintro _ ⟨_,rfl,rfl⟩;rfl)
theorem e11:a8 prog 11:=a8.of func11 (by kernel_rfl) rfl
theorem qy (a:I) (Z:I->Prop) (h:gB a Z):bG prog 11 [.agg (bC false a)] (.a [.c,.s [.c,.c,.s [.c]],.s [.c],.c,.s [.c],.s [.c,.c]]) (fun r=>∃ y:I,Z y/\r = .agg (bC true y)):=by
 unfold gB at h;have M:Sep bw 0 [] []:=Sep.nil (by simp);refine bG.of func11 rfl ntmps11 (by simp) fun Q hQ=>?_
 refine J.cut (fun O H n=>O 0 = .agg (bC false a)/\Sep H n [] []) (by refine⟨by simp ,M⟩) ?_;rintro O H U ⟨E,M⟩;refine zE fun _ V=>?_
 simp[E];apply V;refine J.cut (fun O H n=>((O 1=pA U 1/\O 2=pA (U+1) 2)/\H (U,1)=some ⟨6,[bC false a]⟩/\H (U+1,2)=some ⟨6,[zB]⟩)/\Sep H n [] [(U+1,2),(U,1)]) (by refine⟨by simp[E],M.var.var⟩) ?_;clear E;rintro O H n4 ⟨⟨E,d,b⟩,M⟩;refine zE fun _ V=>?_
 simp[E,d,b];apply V;refine J.cut (fun O H n=>((O 1=pA U 1/\O 2=pA (U+1) 2/\O 3=pA n4 3)/\H (U,1)=some ⟨6,[bC false a]⟩/\H (U+1,2)=some ⟨6,[zB]⟩/\H (n4,3)=some ⟨6,[zB]⟩)/\Sep H n [] [(n4,3),(U+1,2),(U,1)]) (by refine⟨by simp[E,d,b],M.var⟩) ?_;clear E d b;rintro O H n6 ⟨⟨E,d,b,e⟩,M⟩;refine zE fun _ V=>?_
 simp[E,d,b,e];apply V;refine J.cut (fun O H n=>((O 1=pA U 1/\O 2=pA (U+1) 2/\O 3=pA n4 3)/\H (U,1)=some ⟨6,[bC false a]⟩/\H (U+1,2)=some ⟨6,[zB]⟩/\H (n4,3)=some ⟨6,[[int a.roots,.v (.slice none 0 0),.v (.slice none 0 0),int 0,.v (.slice none 0 0),.v (.slice none 0 0)]]⟩)/\Sep H n [] [(n4,3),(U+1,2),(U,1)]) (by refine⟨by simp[E,d,b,e],(Sep.bH (w:=(n4,3)) M (by simp))⟩) ?_;clear E d b e;rintro O H n7 ⟨⟨E,d,b,e⟩,M⟩;refine zE fun _ V=>?_
 obtain⟨hb8,h⟩:=h;obtain⟨r9,er9,h⟩:=aK h;simp[E,d,b,e];refine zW (mj a.nodes hb8) e36 (.cons (aJ.ji false a.nodes) .nil) M (by simp[E,d,b,e]) ?_;rintro v10 ad af _ M rfl am D;rw[<- er9] at M;have d:=(D _ (by simp)).trans d;have b:=(D _ (by simp)).trans b;have e:=(D _ (by simp)).trans e;have f17:=Sep.oc M;simp[E,d,b,e,f17,-aE,-aM,bT,bu];apply V;refine J.cut (fun O H n=>∃ (i:au),((O 1=pA U 1/\O 2=pA (U+1) 2/\O 3=pA n4 3)/\H (U,1)=some ⟨6,[bC false a]⟩/\H (U+1,2)=some ⟨6,[zB]⟩/\H (n4,3)=some ⟨6,[[int a.roots,i,.v (.slice none 0 0),int 0,.v (.slice none 0 0),.v (.slice none 0 0)]]⟩)/\Sep H n [oN i r9] [(n4,3),(U+1,2),(U,1)]) (by refine⟨v10,by simp[E,d,b,e,f17,-aE,-aM,bT,bu],(Sep.bH (w:=(n4,3)) M (by simp))⟩) ?_;clear E d b e;rintro O H n19 ⟨i,⟨E,d,b,e⟩,M⟩;refine zE fun _ V=>?_
 obtain⟨N,h⟩:=h;obtain⟨g,R,h⟩:=aK h;simp[E,d,b,e];refine zW (iJ a.sites N) e37 (.cons (cU false a.sites) .nil) M (by simp[E,d,b,e]) ?_;rintro v22 ao n24 _ M rfl ap F;rw[<- R] at M;have d:=(F _ (by simp)).trans d;have b:=(F _ (by simp)).trans b;have e:=(F _ (by simp)).trans e;have f29:=Sep.oc M;simp[E,d,b,e,f29,-aE,-aM,bT,bu];apply V;refine J.cut (fun O H n=>∃ (v30 v31:au),((O 1=pA U 1/\O 2=pA (U+1) 2/\O 3=pA n4 3)/\H (U,1)=some ⟨6,[bC false a]⟩/\H (U+1,2)=some ⟨6,[zB]⟩/\H (n4,3)=some ⟨6,[[int a.roots,v31,v30,int 0,.v (.slice none 0 0),.v (.slice none 0 0)]]⟩)/\Sep H n [oI v30 g,oN v31 r9] [(n4,3),(U+1,2),(U,1)]) (by refine⟨v22,i,by simp[E,d,b,e,f29,-aE,-aM,bT,bu],(Sep.bH (w:=(n4,3)) M (by simp))⟩) ?_;clear E d b e;rintro O H n32 ⟨v30,v31,⟨E,d,b,e⟩,M⟩;refine zE fun _ V=>?_
 simp[E,d,b,e];apply V;refine J.cut (fun O H n=>∃ (j l:au),((O 1=pA U 1/\O 2=pA (U+1) 2/\O 3=pA n4 3)/\H (U,1)=some ⟨6,[bC false a]⟩/\H (U+1,2)=some ⟨6,[zB]⟩/\H (n4,3)=some ⟨6,[[int a.roots,l,j,int a.edges,.v (.slice none 0 0),.v (.slice none 0 0)]]⟩)/\Sep H n [oI j g,oN l r9] [(n4,3),(U+1,2),(U,1)]) (by refine⟨v30,v31,by simp[E,d,b,e],(Sep.bH (w:=(n4,3)) M (by simp))⟩) ?_;clear E d b e;rintro O H n35 ⟨j,l,⟨E,d,b,e⟩,M⟩;refine zE fun _ V=>?_
 obtain⟨T,h⟩:=h;obtain⟨r37,W,h⟩:=aK h;simp[E,d,b,e];refine zW (jJ a.outer T) e38 (.cons (BB false a.outer) .nil) M (by simp[E,d,b,e]) ?_;rintro X aX a0 _ M rfl a1 G;rw[<- W] at M;have d:=(G _ (by simp)).trans d;have b:=(G _ (by simp)).trans b;have e:=(G _ (by simp)).trans e;have f45:=Sep.oc M;simp[E,d,b,e,f45,-aE,-aM,bT,bu];apply V;refine J.cut (fun O H n=>∃ (v46 o p:au),((O 1=pA U 1/\O 2=pA (U+1) 2/\O 3=pA n4 3)/\H (U,1)=some ⟨6,[bC false a]⟩/\H (U+1,2)=some ⟨6,[zB]⟩/\H (n4,3)=some ⟨6,[[int a.roots,p,o,int a.edges,v46,.v (.slice none 0 0)]]⟩)/\Sep H n [oS v46 r37,oI o g,oN p r9] [(n4,3),(U+1,2),(U,1)]) (by refine⟨X,j,l,by simp[E,d,b,e,f45,-aE,-aM,bT,bu],(Sep.bH (w:=(n4,3)) M (by simp))⟩) ?_;clear E d b e;rintro O H a2 ⟨v46,o,p,⟨E,d,b,e⟩,M⟩;refine zE fun _ V=>?_
 obtain⟨Y,h⟩:=h;obtain⟨K,ab,h⟩:=aK h;simp[E,d,b,e];refine zW (me a.inner Y) e39 (.cons (Ee false a.inner) .nil) M (by simp[E,d,b,e]) ?_;rintro ac a3 a4 _ M rfl a5 L;rw[<- ab] at M;have d:=(L _ (by simp)).trans d;have b:=(L _ (by simp)).trans b;have e:=(L _ (by simp)).trans e;have f59:=Sep.oc M;simp[E,d,b,e,f59,-aE,-aM,bT,bu];apply V;refine J.cut (fun O H n=>∃ (q t u A:au),((O 2=pA (U+1) 2/\O 3=pA n4 3)/\H (U+1,2)=some ⟨6,[zB]⟩/\H (n4,3)=some ⟨6,[[int a.roots,A,u,int a.edges,t,q]]⟩)/\Sep H n [oW q K,oS t r37,oI u g,oN A r9] [(n4,3),(U+1,2)]) (by refine⟨ac,v46,o,p,by simp[E,d,b,e,f59,-aE,-aM,bT,bu],(Sep.sub (Sep.bH (w:=(n4,3)) M (by simp)) (by simp +contextual))⟩) ?_;clear E d b e;rintro O H a9 ⟨q,t,u,A,⟨E,b,e⟩,M⟩;refine zE fun _ V=>?_
 have f65:=Sep.oc M.f3;have f66:=Sep.oc M.f2;have f67:=Sep.oc M.f1;have f68:=Sep.oc M;simp[E,b,e,f65,f66,f67,f68,-aE,-aM,bT,bu];apply V;refine J.cut (fun O H n=>∃ (B v70 C v72:au),(O 2=pA (U+1) 2/\H (U+1,2)=some ⟨6,[[int a.roots,v72,C,int a.edges,v70,B]]⟩)/\Sep H n [oW B K,oS v70 r37,oI C g,oN v72 r9] [(U+1,2)]) (by refine⟨q,t,u,A,by simp[E,b,e,f65,f66,f67,f68,-aE,-aM,bT,bu],(Sep.sub (Sep.bH (w:=(U+1,2)) M (by simp)) (by simp +contextual))⟩) ?_;clear E b e;rintro O H bd ⟨B,v70,C,v72,⟨E,b⟩,M⟩;exact J.uC ay (v:=.agg [int a.roots,v72,C,int a.edges,v70,B]) func11 results11 (by simp[E,b,iT]) (hQ _ _ _ _ (Sep.sub (dK:=[]) (Sep.pack (bb.v _ (bb.own (bb.own (bb.v _ (bb.own (bb.own bb.nil)))))) M.f1.f2.f3) (by simp)) ⟨(I.mk a.roots r9 g a.edges r37 K),h,rfl⟩)
theorem fi (a:I) (hp:cR a):bG prog 11 [.agg (bC false a)] (.a [.c,.s [.c,.c,.s [.c]],.s [.c],.c,.s [.c],.s [.c,.c]]) (fun r=>r = .agg [int ((de a).roots),.list true (((de a).nodes).map (az.cells true)),.list true (((de a).sites).map av),int ((de a).edges),.list true (((de a).outer).map bg),.list true (((de a).inner).map aQ.cells)]):=(qy a _ (vf a hp)).mono (by rintro _ ⟨_,rfl,rfl⟩;rfl)
end Go.Ab.Vg
namespace Go.Ab.Vg
open Go.Proofs
set_option maxRecDepth 100000
attribute [local simp] az.cells aQ.cells av gZ bg bC pA
end Go.Ab.Vg
namespace Go.Ab.Vg
open Go.Proofs
set_option maxRecDepth 100000
end Go.Ab.Vg
namespace Go.Ab.Vg
open Go.Proofs
set_option maxRecDepth 100000
attribute [local simp] az.cells aQ.cells av gZ bg bC pA
theorem Gr (b:I) (h:vZ b):aC prog 105 [.agg (I.cells false b)] (fun r=>∃ y0 y1 y2 y3 y4 y5 y6:Value,(one y0=true/\one y1=true/\one y2=true/\one y3=true/\one y4=true/\one y5=true/\one y6=true)/\r = .tup [.list true ((uc b).1.map av),.agg [.v y0,.v y1,.v y2,.v y3,.v y4,.v y5,.list true ((uc b).2.edges.map av),.list true ((uc b).2.places.map av),.v y6]]):=let ⟨_,hv⟩:=h;oG hv hv.even hv.tC
theorem e105:a8 prog 105:=a8.of func105 (by kernel_rfl) rfl
theorem e83:a8 prog 83:=a8.of func83 (by kernel_rfl) rfl
theorem vd (b:I) (Z:(List Int)->Prop) (h:jF b Z):aC prog 83 [.agg (bC false b)] (fun r=>∃ y:List Int,Z y/\r = .list true (y.map av)):=by
 unfold jF at h;refine aC.of func83 rfl ntmps83 (by simp) fun Q hQ=>?_
 refine J.cut (fun O H n=>O 0 = .agg (bC false b)) (by simp) ?_;rintro O H U E;refine zE fun _ V=>?_
 simp[E];apply V;refine J.cut (fun O H n=>O 1=pA U 1/\H (U,1)=some ⟨6,[bC false b]⟩) (by refine⟨?_,?_⟩<;>simp[E]) ?_;clear E;rintro O H n3 ⟨E,a⟩;refine J.cO ay aA bq (by decide) (by kernel_rfl) fun _ V=>?_
 obtain⟨cM,elen4,h⟩:=aK h;have f5:=fun H=>aI (H:=H) (fr:=false) (f:=(az.cells false)) b9 elen4
 obtain⟨hb6,h⟩:=h;obtain⟨r7,er7,h⟩:=aK h;simp[E,a,f5,-aL];refine bf.bN ay aA ((m0 cM hb6).pure) GP (.cons (.v _ _ _) .nil) (by decide) rfl (by simp[E,a,f5,-aL]) ?_;rw[<- er7];obtain⟨hb8,h⟩:=h;obtain⟨r9,er9,h⟩:=aK h;simp[E,a,f5,-aL];refine bf.bN ay aA ((m0 b.edges hb8).pure) GP (.cons (.v _ _ _) .nil) (by decide) rfl (by simp[E,a,f5,-aL]) ?_;rw[<- er9];obtain⟨d,h⟩:=h;obtain⟨c,e,h⟩:=aK h;simp[E,a,f5,-aL];refine bf.bN ay aA ((DU b r7 r9 0 d).pure) e128 (.cons (cN false b) (.cons (cU true r7) (.cons (cU true r9) (.cons (.v _ _ _) .nil)))) (by decide) rfl (by simp[E,a,f5,-aL]) ?_;rw[<- e];simp[E,a,f5,-aL];apply V;refine zE fun _ V=>?_
 simp[E,a];apply V;refine J.cut (fun O H n=>O 2 = .list true (c.2.map av)) (by simp[E,a]) ?_;clear E a;rintro O H g E;exact J.bj (v:=.list true (c.2.map av)) func83 results83 (by simp[E]) (hQ _ _ _ _ (.of (.fresh (by simp))) ⟨c.2,h,rfl⟩)
theorem Ag (b:I) (hp:ks b):aC prog 83 [.agg (bC false b)] (fun r=>r = .list true ((pP b).map av)):=(vd b _ (xK b hp)).mono (by rintro _ ⟨_,rfl,rfl⟩;rfl)
end Go.Ab.Vg
namespace Go.Ab.Vg
open Go.Proofs
set_option maxRecDepth 100000
end Go.Ab.Vg
namespace Go.Ab.Vg
open Go.Proofs
set_option maxRecDepth 100000
end Go.Ab.Vg
namespace Go.Ab.Vg
open Go.Proofs
set_option maxRecDepth 100000
attribute [local simp] bg
theorem e111:a8 prog 111:=a8.of func111 (by kernel_rfl) rfl
theorem wS (s:List cP) (Z:(List cP)->Prop) (h:lq s Z):bG prog 111 [.list false (s.map bg)] (.s [.c]) (fun r=>∃ y:List cP,Z y/\r = .list true (y.map bg)):=by
 unfold lq at h;have M:Sep bw 0 [] []:=Sep.nil (by simp);refine bG.of func111 rfl ntmps111 (by simp) fun Q hQ=>?_
 refine J.cut (fun O H n=>O 0 = .list false (s.map bg)/\Sep H n [] []) (by refine⟨by simp ,M⟩) ?_;rintro O H U ⟨E,M⟩;refine zE fun _ V=>?_
 simp[E];apply V;refine zS fun _ V=>?_
 simp[E];refine bz.isNil (fr:=false) (els:=s.map bg) ay (by decide) (by decide) du (by simp[E]) (by simp[E]) ?_;rintro c2 hc3;replace h:=h c2 (fun hq=>by simpa using hc3 hq);simp[E];apply V;refine J.ite (b:=c2) (by simp[E]) (fun dc2=>?_) (fun dc2=>?_)
 ·replace h:=h.1 dc2;refine zE fun _ V=>?_
  simp[E,dc2];apply V;exact J.bj (v:=.v (.slice none 0 0)) func111 results111 (by simp[E,dc2]) (hQ _ _ _ _ (Sep.sub (dK:=[]) (Sep.ju M) (by simp)) ⟨[],h,rfl⟩)
 replace h:=h.2 dc2;apply J.skip;refine zE fun _ V=>?_
 obtain⟨hb6,h⟩:=h;obtain⟨l7,el7,h⟩:=aK h;simp[E,dc2,-bo];refine dg (s.map bg) (Sep.addEmpty (l:=[.c]) M) (by simp) du (by simp) (by simp) (by simp[cA]) (by simp[-aM,bu]) (by simpa using hb6) ?_;rintro v8 H9 d M e g;replace M:Sep H9 d [oS v8 l7] []:=by refine Sep.ap el7 ?_;exact M
 simp[E,dc2];apply V;refine J.cut (fun O H n=>∃ (a:au),O 2=a/\Sep H n [oS a l7] []) (by refine⟨v8,by simp[E,dc2],M⟩) ?_;clear E;rintro O H n15 ⟨a,E,M⟩;exact J.bj (v:=a) func111 results111 (by simp[E]) (hQ _ _ _ _ (Sep.sub (dK:=[]) M (by simp)) ⟨l7,h,rfl⟩)
theorem BL (s:List cP) (hp:jL s):bG prog 111 [.list false (s.map bg)] (.s [.c]) (fun r=>r = .list true ((yR s).map bg)):=(wS s _ (Be s hp)).mono (by rintro _ ⟨_,rfl,rfl⟩;rfl)
end Go.Ab.Vg
