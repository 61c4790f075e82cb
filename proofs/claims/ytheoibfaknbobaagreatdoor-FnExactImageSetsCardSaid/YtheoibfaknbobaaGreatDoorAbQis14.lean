/- Merged texts (14 of 16) of the proof that ends in Isy: Lmw Nmw Mdw Muw Cow Mpw Emw Naw Sh. -/
import Derived.Test.YtheoibfaknbobaaGreatDoorAbQis13
open Go.Proofs.Tryz
set_option linter.unusedSimpArgs false
set_option linter.unusedVariables false
namespace Go.Ab.Vg
open Go.Proofs
set_option maxRecDepth 100000
attribute [local simp] Control.cells aA.cells aQ.cells ay aI bm bC pA zB
theorem e28:aW prog 28:=aW.of func28 (by kernel_rfl) rfl
theorem xQ (a:List Int) (Z:(List Int)->Prop) (h:mz a Z):br prog 28 [.list false (a.map ay)] (.s [.c]) (fun r=>∃ y:List Int,Z y/\r = .list true (y.map ay)):=by
 unfold mz at h;have M:Sep bA 0 [] []:=Sep.nil (by simp);refine br.of func28 rfl ntmps28 (by simp) fun Q hQ=>?_
 refine J.cut (fun O H n=>O 0 = .list false (a.map ay)/\Sep H n [] []) (by refine⟨by simp ,M⟩) ?_;rintro O H U ⟨E,M⟩;refine zE fun _ V=>?_
 simp[E];apply V;refine zE fun _ V=>?_
 obtain⟨cq,elen2,h⟩:=aC h;have f3:=fun H=>aE (H:=H) (fr:=false) (f:=ay) aR elen2
 obtain⟨hb4,h⟩:=h;obtain⟨l5,el5,h⟩:=aC h;simp[E,f3,hb4,el5,-aP];apply V;refine J.cut (fun O H n=>∃ (v7:au),(O 0 = .list false (a.map ay)/\O 3=v7)/\Sep H n [oI v7 l5] []) (by refine⟨.arr (U,7) cq.toNat 0 cq.toNat,by simp[E,f3,hb4,el5,-aP],(by rw[el5];exact Sep.sB (z:=[int 0]) (f:=ay) (k:=cq.toNat) M (fun H=>by show Row H [.c] [int 0] [int 0] [];simp[Row,Tr]))⟩) ?_;clear E;rintro O H n8 ⟨v7,E,M⟩;refine zS fun _ V=>?_
 simp[E];apply V;apply J.block;refine J.aG h (fun (sJ:Int × (List Int)) O H n=>match sJ with | (i16,d)=>∃ (i:au),(O 0 = .list false (a.map ay)/\O 3=i/\O 4=int i16)/\Sep H n [oI i d] []) (by refine⟨v7,by simp[E],M⟩) ?_;clear E;rintro⟨i16,d⟩ O H n19 K h ⟨i,E,M⟩ p;refine zS fun _ V=>?_
 obtain⟨W,t,h⟩:=aC h;have f23:=fun H=>aE (H:=H) (fr:=false) (f:=ay) aR t
 obtain⟨u,A,h⟩:=aC h;have f25:=aY (k:=.i64) A;simp[E,f23,f25,-ax,-aP];apply V;refine J.ite (b:=u) (by simp[E]) (fun e=>?_) (fun e=>?_)
 ·replace h:=h.1 e;apply zK;apply J.block;refine zF fun _ V=>?_
  obtain⟨B,h⟩:=h;obtain⟨C,D,h⟩:=aC h;have f28:=fun H=>aL (H:=H) (fr:=false) (f:=ay) (k:=.i64) aR (fun _=>rfl) B D
  obtain⟨j,h⟩:=h;obtain⟨l,hv,F,X,Y⟩:=Sep.fM M (by simp) j;subst hv;obtain⟨ab,G,h⟩:=aC h;have f35:=fun H (hm:H l=some ⟨1,d.map ay⟩)=>cP (H:=H) (k:=.i64) (off:=0) (len:=d.length) (g:=d.length) aR hm (by simp) rfl j
  have f36:=cO (q:=i16.toNat) j G rfl;obtain⟨o,L,h⟩:=aC h;simp[E,F,f28,f35,f36,e,-aw,-bL];refine ei (q:=i16.toNat) (news:=ay C) [] [] M (by simp) (by simp;omega) (by simp) (by simp[-aT,cx]) (aV.v _ aV.nil) ?_;rintro N M ac;replace M:Sep N n19 [oI (.arr l d.length 0 d.length) o] []:=Sep.st L M;simp[E,f28,f35,f36,e,-aw];apply V;refine J.cut (fun O H n=>∃ (v41:au),(O 0 = .list false (a.map ay)/\O 3=v41/\O 4=int i16)/\Sep H n [oI v41 o] []) (by refine⟨.arr l d.length 0 d.length,by simp[E,f28,f35,f36,e,-aw],M⟩) ?_;clear E;rintro O H n42 ⟨v41,E,M⟩;refine zI fun _ V=>?_
  obtain⟨R,h⟩:=h;obtain⟨v44,T,h⟩:=aC h;have f45:=aU R T;simp[E,f45,-ax];apply V;refine p (v44,o) _ _ _ h (by refine⟨v41,by simp[E],M⟩)
 replace h:=h.2 e;refine J.exit rfl ?_;refine zE fun _ V=>?_
 simp[E,e];apply V;exact J.bg (v:=i) func28 results28 (by simp[E,e]) (hQ _ _ _ _ (Sep.sub (dD:=[]) M (by simp)) ⟨d,h,rfl⟩)
theorem j4 (a:List Int) (hp:iX a):br prog 28 [.list false (a.map ay)] (.s [.c]) (fun r=>r = .list true ((uN a).map ay)):=(xQ a _ (CW a hp)).mono (by rintro _ ⟨_,rfl,rfl⟩;rfl)
theorem e29:aW prog 29:=aW.of func29 (by kernel_rfl) rfl
theorem rQ (a:List cB) (Z:(List cB)->Prop) (h:gU a Z):br prog 29 [.list false (a.map bm)] (.s [.c]) (fun r=>∃ y:List cB,Z y/\r = .list true (y.map bm)):=by
 unfold gU at h;have M:Sep bA 0 [] []:=Sep.nil (by simp);refine br.of func29 rfl ntmps29 (by simp) fun Q hQ=>?_
 refine J.cut (fun O H n=>O 0 = .list false (a.map bm)/\Sep H n [] []) (by refine⟨by simp ,M⟩) ?_;rintro O H U ⟨E,M⟩;refine zE fun _ V=>?_
 simp[E];apply V;refine zE fun _ V=>?_
 obtain⟨cq,elen2,h⟩:=aC h;have f3:=fun H=>aE (H:=H) (fr:=false) (f:=bm) iY elen2
 obtain⟨hb4,h⟩:=h;obtain⟨l5,el5,h⟩:=aC h;simp[E,f3,hb4,el5,-aP];apply V;refine J.cut (fun O H n=>∃ (v7:au),(O 0 = .list false (a.map bm)/\O 3=v7)/\Sep H n [oS v7 l5] []) (by refine⟨.arr (U,7) cq.toNat 0 cq.toNat,by simp[E,f3,hb4,el5,-aP],(by rw[el5];exact Sep.sB (z:=[str []]) (f:=bm) (k:=cq.toNat) M (fun H=>by show Row H [.c] [str []] [str []] [];simp[Row,Tr]))⟩) ?_;clear E;rintro O H n8 ⟨v7,E,M⟩;refine zS fun _ V=>?_
 simp[E];apply V;apply J.block;refine J.aG h (fun (sJ:Int × (List cB)) O H n=>match sJ with | (i16,d)=>∃ (i:au),(O 0 = .list false (a.map bm)/\O 3=i/\O 4=int i16)/\Sep H n [oS i d] []) (by refine⟨v7,by simp[E],M⟩) ?_;clear E;rintro⟨i16,d⟩ O H n19 K h ⟨i,E,M⟩ p;refine zS fun _ V=>?_
 obtain⟨W,t,h⟩:=aC h;have f23:=fun H=>aE (H:=H) (fr:=false) (f:=bm) iY t
 obtain⟨u,A,h⟩:=aC h;have f25:=aY (k:=.i64) A;simp[E,f23,f25,-ax,-aP];apply V;refine J.ite (b:=u) (by simp[E]) (fun e=>?_) (fun e=>?_)
 ·replace h:=h.1 e;apply zK;apply J.block;refine zF fun _ V=>?_
  obtain⟨B,h⟩:=h;obtain⟨C,D,h⟩:=aC h;have f28:=fun H=>aL (H:=H) (fr:=false) (f:=bm) (k:=.i64) iY (fun _=>rfl) B D
  obtain⟨j,h⟩:=h;obtain⟨l,hv,F,X,Y⟩:=Sep.fM M (by simp) j;subst hv;obtain⟨ab,G,h⟩:=aC h;have f35:=fun H (hm:H l=some ⟨1,d.map bm⟩)=>cP (H:=H) (k:=.i64) (off:=0) (len:=d.length) (g:=d.length) iY hm (by simp) rfl j
  have f36:=cO (q:=i16.toNat) j G rfl;obtain⟨o,L,h⟩:=aC h;simp[E,F,f28,f35,f36,e,-aw,-bL];refine ei (q:=i16.toNat) (news:=bm C) [] [] M (by simp) (by simp;omega) (by simp) (by simp[-aT,cx]) (aV.v _ aV.nil) ?_;rintro N M ac;replace M:Sep N n19 [oS (.arr l d.length 0 d.length) o] []:=Sep.st L M;simp[E,f28,f35,f36,e,-aw];apply V;refine J.cut (fun O H n=>∃ (v41:au),(O 0 = .list false (a.map bm)/\O 3=v41/\O 4=int i16)/\Sep H n [oS v41 o] []) (by refine⟨.arr l d.length 0 d.length,by simp[E,f28,f35,f36,e,-aw],M⟩) ?_;clear E;rintro O H n42 ⟨v41,E,M⟩;refine zI fun _ V=>?_
  obtain⟨R,h⟩:=h;obtain⟨v44,T,h⟩:=aC h;have f45:=aU R T;simp[E,f45,-ax];apply V;refine p (v44,o) _ _ _ h (by refine⟨v41,by simp[E],M⟩)
 replace h:=h.2 e;refine J.exit rfl ?_;refine zE fun _ V=>?_
 simp[E,e];apply V;exact J.bg (v:=i) func29 results29 (by simp[E,e]) (hQ _ _ _ _ (Sep.sub (dD:=[]) M (by simp)) ⟨d,h,rfl⟩)
theorem k6 (a:List cB) (hp:gh a):br prog 29 [.list false (a.map bm)] (.s [.c]) (fun r=>r = .list true ((pG a).map bm)):=(rQ a _ (uj a hp)).mono (by rintro _ ⟨_,rfl,rfl⟩;rfl)
theorem e26:aW prog 26:=aW.of func26 (by kernel_rfl) rfl
theorem rO (a:Control) (Z:Control->Prop) (h:kN a Z):aB prog 26 [.agg [str a.name,int a.ports,int a.kind]] (fun r=>∃ y:Control,Z y/\r = .agg [str y.name,int y.ports,int y.kind]):=by
 unfold kN at h;refine aB.of func26 rfl ntmps26 (by simp) fun Q hQ=>?_
 refine J.cut (fun O H n=>O 0 = .agg [str a.name,int a.ports,int a.kind]) (by simp[]) ?_;rintro O H U E;refine zE fun _ V=>?_
 simp[E];apply V;refine J.cut (fun O H n=>(O 1=pA U 1/\O 2=pA (U+1) 2)/\H (U,1)=some ⟨3,[[str a.name,int a.ports,int a.kind]]⟩/\H (U+1,2)=some ⟨3,[[str [],int 0,int 0]]⟩) (by refine⟨?_,?_,?_⟩<;>simp[E]) ?_;clear E;rintro O H n4 ⟨E,c,b⟩;refine zE fun _ V=>?_
 simp[E,c,b];apply V;refine J.cut (fun O H n=>(O 1=pA U 1/\O 2=pA (U+1) 2/\O 3=pA n4 3)/\H (U,1)=some ⟨3,[[str a.name,int a.ports,int a.kind]]⟩/\H (U+1,2)=some ⟨3,[[str [],int 0,int 0]]⟩/\H (n4,3)=some ⟨3,[[str [],int 0,int 0]]⟩) (by refine⟨?_,?_,?_,?_⟩<;>simp[E,c,b]) ?_;clear E c b;rintro O H n6 ⟨E,c,b,d⟩;refine zE fun _ V=>?_
 simp[E,c,b,d];apply V;refine J.cut (fun O H n=>(O 1=pA U 1/\O 2=pA (U+1) 2/\O 3=pA n4 3)/\H (U,1)=some ⟨3,[[str a.name,int a.ports,int a.kind]]⟩/\H (U+1,2)=some ⟨3,[[str [],int 0,int 0]]⟩/\H (n4,3)=some ⟨3,[[str a.name,int 0,int 0]]⟩) (by refine⟨?_,?_,?_,?_⟩<;>simp[E,c,b,d]) ?_;clear E c b d;rintro O H n7 ⟨E,c,b,d⟩;refine zE fun _ V=>?_
 simp[E,c,b,d];apply V;refine J.cut (fun O H n=>(O 1=pA U 1/\O 2=pA (U+1) 2/\O 3=pA n4 3)/\H (U,1)=some ⟨3,[[str a.name,int a.ports,int a.kind]]⟩/\H (U+1,2)=some ⟨3,[[str [],int 0,int 0]]⟩/\H (n4,3)=some ⟨3,[[str a.name,int a.ports,int 0]]⟩) (by refine⟨?_,?_,?_,?_⟩<;>simp[E,c,b,d]) ?_;clear E c b d;rintro O H n8 ⟨E,c,b,d⟩;refine zE fun _ V=>?_
 simp[E,c,b,d];apply V;refine J.cut (fun O H n=>(O 2=pA (U+1) 2/\O 3=pA n4 3)/\H (U+1,2)=some ⟨3,[[str [],int 0,int 0]]⟩/\H (n4,3)=some ⟨3,[[str a.name,int a.ports,int a.kind]]⟩) (by refine⟨?_,?_,?_⟩<;>simp[E,c,b,d]) ?_;clear E c b d;rintro O H n9 ⟨E,b,d⟩;refine zE fun _ V=>?_
 simp[E,b,d];apply V;refine J.cut (fun O H n=>O 2=pA (U+1) 2/\H (U+1,2)=some ⟨3,[[str a.name,int a.ports,int a.kind]]⟩) (by refine⟨?_,?_⟩<;>simp[E,b,d]) ?_;clear E b d;rintro O H n10 ⟨E,b⟩;exact J.Ep aH (v:=.agg [str a.name,int a.ports,int a.kind]) func26 results26 (by simp[E,b,wD]) (hQ _ _ _ _ (.of (.aggL (.cons (.v _) (.cons (.v _) (.cons (.v _) .nil))))) ⟨a,h,rfl⟩)
theorem kZ (a:Control)  : aB prog 26 [.agg [str a.name,int a.ports,int a.kind]] (fun r=>r = .agg [str ((jY a).name),int ((jY a).ports),int ((jY a).kind)]):=(rO a _ (uC a )).mono (by rintro _ ⟨_,rfl,rfl⟩;rfl)
theorem e7:aW prog 7:=aW.of func7 (by kernel_rfl) rfl
theorem qp (a:List Control) (Z:(List Control)->Prop) (h:gr a Z):br prog 7 [.list false (a.map Control.cells)] (.s [.c,.c,.c]) (fun r=>∃ y:List Control,Z y/\r = .list true (y.map Control.cells)):=by
 unfold gr at h;have M:Sep bA 0 [] []:=Sep.nil (by simp);refine br.of func7 rfl ntmps7 (by simp) fun Q hQ=>?_
 refine J.cut (fun O H n=>O 0 = .list false (a.map Control.cells)/\Sep H n [] []) (by refine⟨by simp ,M⟩) ?_;rintro O H U ⟨E,M⟩;refine zE fun _ V=>?_
 simp[E];apply V;refine zE fun _ V=>?_
 obtain⟨cq,elen2,h⟩:=aC h;have f3:=fun H=>aE (H:=H) (fr:=false) (f:=Control.cells) A4 elen2
 obtain⟨hb4,h⟩:=h;obtain⟨l5,el5,h⟩:=aC h;simp[E,f3,hb4,el5,-aP];apply V;refine J.cut (fun O H n=>∃ (v7:au),(O 0 = .list false (a.map Control.cells)/\O 3=v7)/\Sep H n [oE [.c,.c,.c] Control.cells v7 l5] []) (by refine⟨.arr (U,7) cq.toNat 0 cq.toNat,by simp[E,f3,hb4,el5,-aP],(by rw[el5];exact Sep.sB (z:=[str [],int 0,int 0]) (f:=Control.cells) (k:=cq.toNat) M (fun H=>by show Row H [.c,.c,.c] [str [],int 0,int 0] [str [],int 0,int 0] [];simp[Row,Tr]))⟩) ?_;clear E;rintro O H n8 ⟨v7,E,M⟩;refine zS fun _ V=>?_
 simp[E];apply V;apply J.block;refine J.aG h (fun (sJ:Int × (List Control)) O H n=>match sJ with | (i16,d)=>∃ (i:au),(O 0 = .list false (a.map Control.cells)/\O 3=i/\O 4=int i16)/\Sep H n [oE [.c,.c,.c] Control.cells i d] []) (by refine⟨v7,by simp[E],M⟩) ?_;clear E;rintro⟨i16,d⟩ O H n19 K h ⟨i,E,M⟩ t;refine zS fun _ V=>?_
 obtain⟨ab,u,h⟩:=aC h;have f23:=fun H=>aE (H:=H) (fr:=false) (f:=Control.cells) A4 u
 obtain⟨A,B,h⟩:=aC h;have f25:=aY (k:=.i64) B;simp[E,f23,f25,-ax,-aP];apply V;refine J.ite (b:=A) (by simp[E]) (fun e=>?_) (fun e=>?_)
 ·replace h:=h.1 e;apply zK;apply J.block;refine zF fun _ V=>?_
  obtain⟨C,h⟩:=h;obtain⟨D,F,h⟩:=aC h;have f28:=fun H=>aL (H:=H) (fr:=false) (f:=Control.cells) (k:=.i64) A4 (fun _=>rfl) C F
  obtain⟨G,L,h⟩:=aC h;simp[E,f28,e,-aw];refine zA (kZ D ) e26 (.cons (aM.agg (.cons (.v _ _ _) (.cons (.v _ _ _) (.cons (.v _ _ _) .nil)))) .nil) (by simp[E,f28,e,-aw]) ?_;rintro _ rfl;rw[<- L];obtain⟨l,h⟩:=h;obtain⟨o,hv,N,ac,ad⟩:=Sep.fM M (by simp) l;subst hv;obtain⟨af,R,h⟩:=aC h;have f36:=fun H (hm:H o=some ⟨3,d.map Control.cells⟩)=>cP (H:=H) (k:=.i64) (off:=0) (len:=d.length) (g:=d.length) tQ hm (by simp) rfl l
  have f37:=cO (q:=i16.toNat) l R rfl;obtain⟨p,T,h⟩:=aC h;simp[E,N,f28,f36,f37,e,-aw,-bL];refine ei (q:=i16.toNat) (news:=Control.cells G) [] [] M (by simp) (by simp;omega) (by simp) (by simp[-aT,cx]) (aV.v _ (aV.v _ (aV.v _ aV.nil))) ?_;rintro W M am;replace M:Sep W n19 [oE [.c,.c,.c] Control.cells (.arr o d.length 0 d.length) p] []:=Sep.st T M;simp[E,f28,f36,f37,e,-aw];apply V;refine J.cut (fun O H n=>∃ (j:au),(O 0 = .list false (a.map Control.cells)/\O 3=j/\O 4=int i16)/\Sep H n [oE [.c,.c,.c] Control.cells j p] []) (by refine⟨.arr o d.length 0 d.length,by simp[E,f28,f36,f37,e,-aw],M⟩) ?_;clear E;rintro O H n43 ⟨j,E,M⟩;refine zI fun _ V=>?_
  obtain⟨X,h⟩:=h;obtain⟨v45,Y,h⟩:=aC h;have f46:=aU X Y;simp[E,f46,-ax];apply V;refine t (v45,p) _ _ _ h (by refine⟨j,by simp[E],M⟩)
 replace h:=h.2 e;refine J.exit rfl ?_;refine zE fun _ V=>?_
 simp[E,e];apply V;exact J.bg (v:=i) func7 results7 (by simp[E,e]) (hQ _ _ _ _ (Sep.sub (dD:=[]) M (by simp)) ⟨d,h,rfl⟩)
theorem eJ (a:List Control) (hp:cY a):br prog 7 [.list false (a.map Control.cells)] (.s [.c,.c,.c]) (fun r=>r = .list true ((eT a).map Control.cells)):=(qp a _ (tp a hp)).mono (by rintro _ ⟨_,rfl,rfl⟩;rfl)
theorem e56:aW prog 56:=aW.of func56 (by kernel_rfl) rfl
theorem xE (a:aQ) (Z:aQ->Prop) (h:py a Z):aB prog 56 [.agg [str a.name,int a.link]] (fun r=>∃ y:aQ,Z y/\r = .agg [str y.name,int y.link]):=by
 unfold py at h;refine aB.of func56 rfl ntmps56 (by simp) fun Q hQ=>?_
 refine J.cut (fun O H n=>O 0 = .agg [str a.name,int a.link]) (by simp[]) ?_;rintro O H U E;refine zE fun _ V=>?_
 simp[E];apply V;refine J.cut (fun O H n=>(O 1=pA U 1/\O 2=pA (U+1) 2)/\H (U,1)=some ⟨2,[[str a.name,int a.link]]⟩/\H (U+1,2)=some ⟨2,[[str [],int 0]]⟩) (by refine⟨?_,?_,?_⟩<;>simp[E]) ?_;clear E;rintro O H n4 ⟨E,c,b⟩;refine zE fun _ V=>?_
 simp[E,c,b];apply V;refine J.cut (fun O H n=>(O 1=pA U 1/\O 2=pA (U+1) 2/\O 3=pA n4 3)/\H (U,1)=some ⟨2,[[str a.name,int a.link]]⟩/\H (U+1,2)=some ⟨2,[[str [],int 0]]⟩/\H (n4,3)=some ⟨2,[[str [],int 0]]⟩) (by refine⟨?_,?_,?_,?_⟩<;>simp[E,c,b]) ?_;clear E c b;rintro O H n6 ⟨E,c,b,d⟩;refine zE fun _ V=>?_
 simp[E,c,b,d];apply V;refine J.cut (fun O H n=>(O 1=pA U 1/\O 2=pA (U+1) 2/\O 3=pA n4 3)/\H (U,1)=some ⟨2,[[str a.name,int a.link]]⟩/\H (U+1,2)=some ⟨2,[[str [],int 0]]⟩/\H (n4,3)=some ⟨2,[[str a.name,int 0]]⟩) (by refine⟨?_,?_,?_,?_⟩<;>simp[E,c,b,d]) ?_;clear E c b d;rintro O H n7 ⟨E,c,b,d⟩;refine zE fun _ V=>?_
 simp[E,c,b,d];apply V;refine J.cut (fun O H n=>(O 2=pA (U+1) 2/\O 3=pA n4 3)/\H (U+1,2)=some ⟨2,[[str [],int 0]]⟩/\H (n4,3)=some ⟨2,[[str a.name,int a.link]]⟩) (by refine⟨?_,?_,?_⟩<;>simp[E,c,b,d]) ?_;clear E c b d;rintro O H n8 ⟨E,b,d⟩;refine zE fun _ V=>?_
 simp[E,b,d];apply V;refine J.cut (fun O H n=>O 2=pA (U+1) 2/\H (U+1,2)=some ⟨2,[[str a.name,int a.link]]⟩) (by refine⟨?_,?_⟩<;>simp[E,b,d]) ?_;clear E b d;rintro O H n9 ⟨E,b⟩;exact J.Ep aH (v:=.agg [str a.name,int a.link]) func56 results56 (by simp[E,b,wD]) (hQ _ _ _ _ (.of (.aggL (.cons (.v _) (.cons (.v _) .nil)))) ⟨a,h,rfl⟩)
theorem pn (a:aQ)  : aB prog 56 [.agg [str a.name,int a.link]] (fun r=>r = .agg [str ((uu a).name),int ((uu a).link)]):=(xE a _ (CC a )).mono (by rintro _ ⟨_,rfl,rfl⟩;rfl)
theorem e30:aW prog 30:=aW.of func30 (by kernel_rfl) rfl
theorem vf (a:List aQ) (Z:(List aQ)->Prop) (h:lf a Z):br prog 30 [.list false (a.map aQ.cells)] (.s [.c,.c]) (fun r=>∃ y:List aQ,Z y/\r = .list true (y.map aQ.cells)):=by
 unfold lf at h;have M:Sep bA 0 [] []:=Sep.nil (by simp);refine br.of func30 rfl ntmps30 (by simp) fun Q hQ=>?_
 refine J.cut (fun O H n=>O 0 = .list false (a.map aQ.cells)/\Sep H n [] []) (by refine⟨by simp ,M⟩) ?_;rintro O H U ⟨E,M⟩;refine zE fun _ V=>?_
 simp[E];apply V;refine zE fun _ V=>?_
 obtain⟨cq,elen2,h⟩:=aC h;have f3:=fun H=>aE (H:=H) (fr:=false) (f:=aQ.cells) Ba elen2
 obtain⟨hb4,h⟩:=h;obtain⟨l5,el5,h⟩:=aC h;simp[E,f3,hb4,el5,-aP];apply V;refine J.cut (fun O H n=>∃ (v7:au),(O 0 = .list false (a.map aQ.cells)/\O 3=v7)/\Sep H n [oW v7 l5] []) (by refine⟨.arr (U,7) cq.toNat 0 cq.toNat,by simp[E,f3,hb4,el5,-aP],(by rw[el5];exact Sep.sB (z:=[str [],int 0]) (f:=aQ.cells) (k:=cq.toNat) M (fun H=>by show Row H [.c,.c] [str [],int 0] [str [],int 0] [];simp[Row,Tr]))⟩) ?_;clear E;rintro O H n8 ⟨v7,E,M⟩;refine zS fun _ V=>?_
 simp[E];apply V;apply J.block;refine J.aG h (fun (sJ:Int × (List aQ)) O H n=>match sJ with | (i16,d)=>∃ (i:au),(O 0 = .list false (a.map aQ.cells)/\O 3=i/\O 4=int i16)/\Sep H n [oW i d] []) (by refine⟨v7,by simp[E],M⟩) ?_;clear E;rintro⟨i16,d⟩ O H n19 K h ⟨i,E,M⟩ t;refine zS fun _ V=>?_
 obtain⟨ab,u,h⟩:=aC h;have f23:=fun H=>aE (H:=H) (fr:=false) (f:=aQ.cells) Ba u
 obtain⟨A,B,h⟩:=aC h;have f25:=aY (k:=.i64) B;simp[E,f23,f25,-ax,-aP];apply V;refine J.ite (b:=A) (by simp[E]) (fun e=>?_) (fun e=>?_)
 ·replace h:=h.1 e;apply zK;apply J.block;refine zF fun _ V=>?_
  obtain⟨C,h⟩:=h;obtain⟨D,F,h⟩:=aC h;have f28:=fun H=>aL (H:=H) (fr:=false) (f:=aQ.cells) (k:=.i64) Ba (fun _=>rfl) C F
  obtain⟨G,L,h⟩:=aC h;simp[E,f28,e,-aw];refine zA (pn D ) e56 (.cons (aM.agg (.cons (.v _ _ _) (.cons (.v _ _ _) .nil))) .nil) (by simp[E,f28,e,-aw]) ?_;rintro _ rfl;rw[<- L];obtain⟨l,h⟩:=h;obtain⟨o,hv,N,ac,ad⟩:=Sep.fM M (by simp) l;subst hv;obtain⟨af,R,h⟩:=aC h;have f36:=fun H (hm:H o=some ⟨2,d.map aQ.cells⟩)=>cP (H:=H) (k:=.i64) (off:=0) (len:=d.length) (g:=d.length) jk hm (by simp) rfl l
  have f37:=cO (q:=i16.toNat) l R rfl;obtain⟨p,T,h⟩:=aC h;simp[E,N,f28,f36,f37,e,-aw,-bL];refine ei (q:=i16.toNat) (news:=aQ.cells G) [] [] M (by simp) (by simp;omega) (by simp) (by simp[-aT,cx]) (aV.v _ (aV.v _ aV.nil)) ?_;rintro W M am;replace M:Sep W n19 [oW (.arr o d.length 0 d.length) p] []:=Sep.st T M;simp[E,f28,f36,f37,e,-aw];apply V;refine J.cut (fun O H n=>∃ (j:au),(O 0 = .list false (a.map aQ.cells)/\O 3=j/\O 4=int i16)/\Sep H n [oW j p] []) (by refine⟨.arr o d.length 0 d.length,by simp[E,f28,f36,f37,e,-aw],M⟩) ?_;clear E;rintro O H n43 ⟨j,E,M⟩;refine zI fun _ V=>?_
  obtain⟨X,h⟩:=h;obtain⟨v45,Y,h⟩:=aC h;have f46:=aU X Y;simp[E,f46,-ax];apply V;refine t (v45,p) _ _ _ h (by refine⟨j,by simp[E],M⟩)
 replace h:=h.2 e;refine J.exit rfl ?_;refine zE fun _ V=>?_
 simp[E,e];apply V;exact J.bg (v:=i) func30 results30 (by simp[E,e]) (hQ _ _ _ _ (Sep.sub (dD:=[]) M (by simp)) ⟨d,h,rfl⟩)
theorem od (a:List aQ) (hp:jm a):br prog 30 [.list false (a.map aQ.cells)] (.s [.c,.c]) (fun r=>r = .list true ((uT a).map aQ.cells)):=(vf a _ (zc a hp)).mono (by rintro _ ⟨_,rfl,rfl⟩;rfl)
theorem e55:aW prog 55:=aW.of func55 (by kernel_rfl) rfl
theorem xd (a:aA) (Z:aA->Prop) (h:mD a Z):br prog 55 [.agg [int a.control,int a.parent,.list false (a.links.map ay)]] (.a [.c,.c,.s [.c]]) (fun r=>∃ y:aA,Z y/\r = .agg [int y.control,int y.parent,.list true (y.links.map ay)]):=by
 unfold mD at h;have M:Sep bA 0 [] []:=Sep.nil (by simp);refine br.of func55 rfl ntmps55 (by simp) fun Q hQ=>?_
 refine J.cut (fun O H n=>O 0 = .agg [int a.control,int a.parent,.list false (a.links.map ay)]/\Sep H n [] []) (by refine⟨by simp ,M⟩) ?_;rintro O H U ⟨E,M⟩;refine zE fun _ V=>?_
 simp[E];apply V;refine J.cut (fun O H n=>((O 1=pA U 1/\O 2=pA (U+1) 2)/\H (U,1)=some ⟨3,[[int a.control,int a.parent,.list false (a.links.map ay)]]⟩/\H (U+1,2)=some ⟨3,[[int 0,int 0,.v (.slice none 0 0)]]⟩)/\Sep H n [] [(U+1,2),(U,1)]) (by refine⟨by simp[E],M.var.var⟩) ?_;clear E;rintro O H n4 ⟨⟨E,d,b⟩,M⟩;refine zE fun _ V=>?_
 simp[E,d,b];apply V;refine J.cut (fun O H n=>((O 1=pA U 1/\O 2=pA (U+1) 2/\O 3=pA n4 3)/\H (U,1)=some ⟨3,[[int a.control,int a.parent,.list false (a.links.map ay)]]⟩/\H (U+1,2)=some ⟨3,[[int 0,int 0,.v (.slice none 0 0)]]⟩/\H (n4,3)=some ⟨3,[[int 0,int 0,.v (.slice none 0 0)]]⟩)/\Sep H n [] [(n4,3),(U+1,2),(U,1)]) (by refine⟨by simp[E,d,b],M.var⟩) ?_;clear E d b;rintro O H n6 ⟨⟨E,d,b,e⟩,M⟩;refine zE fun _ V=>?_
 simp[E,d,b,e];apply V;refine J.cut (fun O H n=>((O 1=pA U 1/\O 2=pA (U+1) 2/\O 3=pA n4 3)/\H (U,1)=some ⟨3,[[int a.control,int a.parent,.list false (a.links.map ay)]]⟩/\H (U+1,2)=some ⟨3,[[int 0,int 0,.v (.slice none 0 0)]]⟩/\H (n4,3)=some ⟨3,[[int a.control,int 0,.v (.slice none 0 0)]]⟩)/\Sep H n [] [(n4,3),(U+1,2),(U,1)]) (by refine⟨by simp[E,d,b,e],(Sep.eG (w:=(n4,3)) M (by simp))⟩) ?_;clear E d b e;rintro O H n7 ⟨⟨E,d,b,e⟩,M⟩;refine zE fun _ V=>?_
 simp[E,d,b,e];apply V;refine J.cut (fun O H n=>((O 1=pA U 1/\O 2=pA (U+1) 2/\O 3=pA n4 3)/\H (U,1)=some ⟨3,[[int a.control,int a.parent,.list false (a.links.map ay)]]⟩/\H (U+1,2)=some ⟨3,[[int 0,int 0,.v (.slice none 0 0)]]⟩/\H (n4,3)=some ⟨3,[[int a.control,int a.parent,.v (.slice none 0 0)]]⟩)/\Sep H n [] [(n4,3),(U+1,2),(U,1)]) (by refine⟨by simp[E,d,b,e],(Sep.eG (w:=(n4,3)) M (by simp))⟩) ?_;clear E d b e;rintro O H n8 ⟨⟨E,d,b,e⟩,M⟩;refine zE fun _ V=>?_
 obtain⟨hb9,h⟩:=h;obtain⟨i,l,h⟩:=aC h;simp[E,d,b,e];refine zW (j4 a.links hb9) e28 (.cons (eC false a.links) .nil) M (by simp[E,d,b,e]) ?_;rintro v11 o n13 _ M rfl p j;rw[<- l] at M;have d:=(j _ (by simp)).trans d;have b:=(j _ (by simp)).trans b;have e:=(j _ (by simp)).trans e;have f18:=Sep.oc M;simp[E,d,b,e,f18,-aK,-aT,du,cx];apply V;refine J.cut (fun O H n=>∃ (g:au),((O 2=pA (U+1) 2/\O 3=pA n4 3)/\H (U+1,2)=some ⟨3,[[int 0,int 0,.v (.slice none 0 0)]]⟩/\H (n4,3)=some ⟨3,[[int a.control,int a.parent,g]]⟩)/\Sep H n [oI g i] [(n4,3),(U+1,2)]) (by refine⟨v11,by simp[E,d,b,e,f18,-aK,-aT,du,cx],(Sep.sub (Sep.eG (w:=(n4,3)) M (by simp)) (by simp +contextual))⟩) ?_;clear E d b e;rintro O H n20 ⟨g,⟨E,b,e⟩,M⟩;refine zE fun _ V=>?_
 have f21:=Sep.oc M;simp[E,b,e,f21,-aK,-aT,du,cx];apply V;refine J.cut (fun O H n=>∃ (v22:au),(O 2=pA (U+1) 2/\H (U+1,2)=some ⟨3,[[int a.control,int a.parent,v22]]⟩)/\Sep H n [oI v22 i] [(U+1,2)]) (by refine⟨g,by simp[E,b,e,f21,-aK,-aT,du,cx],(Sep.sub (Sep.eG (w:=(U+1,2)) M (by simp)) (by simp +contextual))⟩) ?_;clear E b e;rintro O H n23 ⟨v22,⟨E,b⟩,M⟩;exact J.Ep aH (v:=.agg [int a.control,int a.parent,v22]) func55 results55 (by simp[E,b,wD]) (hQ _ _ _ _ (Sep.sub (dD:=[]) (Sep.pack (aV.v _ (aV.v _ (aV.own aV.nil))) M) (by simp)) ⟨(aA.mk a.control a.parent i),h,rfl⟩)
theorem pO (a:aA) (hp:nH a):br prog 55 [.agg [int a.control,int a.parent,.list false (a.links.map ay)]] (.a [.c,.c,.s [.c]]) (fun r=>r = .agg [int ((q8 a).control),int ((q8 a).parent),.list true (((q8 a).links).map ay)]):=(xd a _ (BA a hp)).mono (by rintro _ ⟨_,rfl,rfl⟩;rfl)
theorem e27:aW prog 27:=aW.of func27 (by kernel_rfl) rfl
theorem uZ (a:List aA) (Z:(List aA)->Prop) (h:kG a Z):br prog 27 [.list false (a.map (aA.cells false))] (.s [.c,.c,.s [.c]]) (fun r=>∃ y:List aA,Z y/\r = .list true (y.map (aA.cells true))):=by
 unfold kG at h;have M:Sep bA 0 [] []:=Sep.nil (by simp);refine br.of func27 rfl ntmps27 (by simp) fun Q hQ=>?_
 refine J.cut (fun O H n=>O 0 = .list false (a.map (aA.cells false))/\Sep H n [] []) (by refine⟨by simp ,M⟩) ?_;rintro O H U ⟨E,M⟩;refine zE fun _ V=>?_
 simp[E];apply V;refine zE fun _ V=>?_
 obtain⟨cq,elen2,h⟩:=aC h;have f3:=fun H=>aE (H:=H) (fr:=false) (f:=(aA.cells false)) AH elen2
 obtain⟨hb4,h⟩:=h;obtain⟨l5,el5,h⟩:=aC h;simp[E,f3,hb4,el5,-aP];apply V;refine J.cut (fun O H n=>∃ (v7:au),(O 0 = .list false (a.map (aA.cells false))/\O 3=v7)/\Sep H n [oN v7 l5] []) (by refine⟨.arr (U,7) cq.toNat 0 cq.toNat,by simp[E,f3,hb4,el5,-aP],(by rw[el5];exact Sep.sB (z:=[int 0,int 0,.v (.slice none 0 0)]) (f:=(aA.cells true)) (k:=cq.toNat) M (fun H=>by show Row H [.c,.c,.s [.c]] [int 0,int 0,.v (.slice none 0 0)] [int 0,int 0,.list true []] [];simp[Row,Tr]))⟩) ?_;clear E;rintro O H n8 ⟨v7,E,M⟩;refine zS fun _ V=>?_
 simp[E];apply V;apply J.block;refine J.aG h (fun (sJ:Int × (List aA)) O H n=>match sJ with | (i16,e)=>∃ (i:au),(O 0 = .list false (a.map (aA.cells false))/\O 3=i/\O 4=int i16)/\Sep H n [oN i e] []) (by refine⟨v7,by simp[E],M⟩) ?_;clear E;rintro⟨i16,e⟩ O H n19 K h ⟨i,E,M⟩ G;refine zS fun _ V=>?_
 obtain⟨a2,L,h⟩:=aC h;have f23:=fun H=>aE (H:=H) (fr:=false) (f:=(aA.cells false)) AH L
 obtain⟨N,R,h⟩:=aC h;have f25:=aY (k:=.i64) R;simp[E,f23,f25,-ax,-aP];apply V;refine J.ite (b:=N) (by simp[E]) (fun d=>?_) (fun d=>?_)
 ·replace h:=h.1 d;apply zK;apply J.block;refine zF fun _ V=>?_
  obtain⟨T,h⟩:=h;obtain⟨t,W,h⟩:=aC h;have f28:=fun H=>aL (H:=H) (fr:=false) (f:=(aA.cells false)) (k:=.i64) AH (fun _=>rfl) T W
  obtain⟨X,h⟩:=h;obtain⟨u,Y,h⟩:=aC h;simp[E,f28,d,-aw];refine zW (pO t X) e55 (.cons (aM.agg (.cons (.v _ _ _) (.cons (.v _ _ _) (.cons (eC false t.links) .nil)))) .nil) M (by simp[E,f28,d,-aw]) ?_;rintro v31 a3 n33 _ M rfl a4 a5;rw[<- Y] at M;replace M:=Sep.unpack M;obtain⟨L40,hv,ab,M⟩:=M;subst hv;obtain⟨v37,a9,v39,hv⟩:=ED (by simpa using ab);subst hv;simp only[fu,List.cons_append,List.nil_append] at M;replace M:=Sep.scalar M;obtain⟨hv,M⟩:=M;subst hv;replace M:=Sep.scalar M;obtain⟨hv,M⟩:=M;subst hv;replace M:=Sep.nF M;try simp only[List.append_eq,List.cons_append,List.nil_append,List.append_assoc] at M
  obtain⟨A,h⟩:=h;obtain⟨g,ac,h⟩:=aC h;obtain⟨B,bd,be,ad,l,C,D,af,am,bi,bk,bs,j,bv⟩:=Sep.D5 (q:=i16.toNat) (f:=(aA.cells true)) M A ac rfl;subst l;obtain⟨ao,F,o,l⟩:=ED (by simpa using am);subst l;replace j:Sep _ _ [(.c,ao,int g.control),(.c,F,int g.parent),(.s [.c],o,.list true (g.links.map ay))] ad:=j;obtain rfl:=Sep.FI (K1:=[]) (K2:=[(.c,F,int g.parent),(.s [.c],o,.list true (g.links.map ay))]) j;obtain rfl:=Sep.FI (K1:=[(.c,int g.control,int g.control)]) (K2:=[(.s [.c],o,.list true (g.links.map ay))]) j;have f62:=cP (k:=.i64) (off:=0) (len:=e.length) bK C D rfl A;obtain⟨p,ap,h⟩:=aC h;simp[E,C,D,af,f28,f62,d,-aw,-bL];refine ei (q:=i16.toNat) (news:=(aA.cells true) u) [oI v39 u.links] [] M (by simp) (by simp;omega) (by simp) (by simp[-aT,cx,Sep.aT M.dr]) (aV.v _ (aV.v _ (aV.own aV.nil))) ?_;rintro av M bC;replace M:Sep av n33 [oN (.arr B e.length 0 e.length) p] []:=Sep.st ap M;simp[E,f28,f62,d,-aw];apply V;refine J.cut (fun O H n=>∃ (v67:au),(O 0 = .list false (a.map (aA.cells false))/\O 3=v67/\O 4=int i16)/\Sep H n [oN v67 p] []) (by refine⟨.arr B e.length 0 e.length,by simp[E,f28,f62,d,-aw],M⟩) ?_;clear E;rintro O H n68 ⟨v67,E,M⟩;refine zI fun _ V=>?_
  obtain⟨a0,h⟩:=h;obtain⟨v70,a1,h⟩:=aC h;have f71:=aU a0 a1;simp[E,f71,-ax];apply V;refine G (v70,p) _ _ _ h (by refine⟨v67,by simp[E],M⟩)
 replace h:=h.2 d;refine J.exit rfl ?_;refine zE fun _ V=>?_
 simp[E,d];apply V;exact J.bg (v:=i) func27 results27 (by simp[E,d]) (hQ _ _ _ _ (Sep.sub (dD:=[]) M (by simp)) ⟨e,h,rfl⟩)
theorem nr (a:List aA) (hp:lx a):br prog 27 [.list false (a.map (aA.cells false))] (.s [.c,.c,.s [.c]]) (fun r=>r = .list true ((u9 a).map (aA.cells true))):=(uZ a _ (zD a hp)).mono (by rintro _ ⟨_,rfl,rfl⟩;rfl)
theorem e8:aW prog 8:=aW.of func8 (by kernel_rfl) rfl
theorem rM (a:aD) (Z:aD->Prop) (h:ie a Z):br prog 8 [.agg (bC false a)] (.a [.c,.s [.c,.c,.s [.c]],.s [.c],.c,.s [.c],.s [.c,.c]]) (fun r=>∃ y:aD,Z y/\r = .agg (bC true y)):=by
 unfold ie at h;have M:Sep bA 0 [] []:=Sep.nil (by simp);refine br.of func8 rfl ntmps8 (by simp) fun Q hQ=>?_
 refine J.cut (fun O H n=>O 0 = .agg (bC false a)/\Sep H n [] []) (by refine⟨by simp ,M⟩) ?_;rintro O H U ⟨E,M⟩;refine zE fun _ V=>?_
 simp[E];apply V;refine J.cut (fun O H n=>((O 1=pA U 1/\O 2=pA (U+1) 2)/\H (U,1)=some ⟨6,[bC false a]⟩/\H (U+1,2)=some ⟨6,[zB]⟩)/\Sep H n [] [(U+1,2),(U,1)]) (by refine⟨by simp[E],M.var.var⟩) ?_;clear E;rintro O H n4 ⟨⟨E,d,b⟩,M⟩;refine zE fun _ V=>?_
 simp[E,d,b];apply V;refine J.cut (fun O H n=>((O 1=pA U 1/\O 2=pA (U+1) 2/\O 3=pA n4 3)/\H (U,1)=some ⟨6,[bC false a]⟩/\H (U+1,2)=some ⟨6,[zB]⟩/\H (n4,3)=some ⟨6,[zB]⟩)/\Sep H n [] [(n4,3),(U+1,2),(U,1)]) (by refine⟨by simp[E,d,b],M.var⟩) ?_;clear E d b;rintro O H n6 ⟨⟨E,d,b,e⟩,M⟩;refine zE fun _ V=>?_
 simp[E,d,b,e];apply V;refine J.cut (fun O H n=>((O 1=pA U 1/\O 2=pA (U+1) 2/\O 3=pA n4 3)/\H (U,1)=some ⟨6,[bC false a]⟩/\H (U+1,2)=some ⟨6,[zB]⟩/\H (n4,3)=some ⟨6,[[int a.roots,.v (.slice none 0 0),.v (.slice none 0 0),int 0,.v (.slice none 0 0),.v (.slice none 0 0)]]⟩)/\Sep H n [] [(n4,3),(U+1,2),(U,1)]) (by refine⟨by simp[E,d,b,e],(Sep.eG (w:=(n4,3)) M (by simp))⟩) ?_;clear E d b e;rintro O H n7 ⟨⟨E,d,b,e⟩,M⟩;refine zE fun _ V=>?_
 obtain⟨hb8,h⟩:=h;obtain⟨r9,er9,h⟩:=aC h;simp[E,d,b,e];refine zW (nr a.nodes hb8) e27 (.cons (aM.BM false a.nodes) .nil) M (by simp[E,d,b,e]) ?_;rintro v10 ac n12 _ M rfl ad C;rw[<- er9] at M;have d:=(C _ (by simp)).trans d;have b:=(C _ (by simp)).trans b;have e:=(C _ (by simp)).trans e;have f17:=Sep.oc M;simp[E,d,b,e,f17,-aK,-aT,du,cx];apply V;refine J.cut (fun O H n=>∃ (i:au),((O 1=pA U 1/\O 2=pA (U+1) 2/\O 3=pA n4 3)/\H (U,1)=some ⟨6,[bC false a]⟩/\H (U+1,2)=some ⟨6,[zB]⟩/\H (n4,3)=some ⟨6,[[int a.roots,i,.v (.slice none 0 0),int 0,.v (.slice none 0 0),.v (.slice none 0 0)]]⟩)/\Sep H n [oN i r9] [(n4,3),(U+1,2),(U,1)]) (by refine⟨v10,by simp[E,d,b,e,f17,-aK,-aT,du,cx],(Sep.eG (w:=(n4,3)) M (by simp))⟩) ?_;clear E d b e;rintro O H n19 ⟨i,⟨E,d,b,e⟩,M⟩;refine zE fun _ V=>?_
 obtain⟨L,h⟩:=h;obtain⟨g,N,h⟩:=aC h;simp[E,d,b,e];refine zW (j4 a.sites L) e28 (.cons (eC false a.sites) .nil) M (by simp[E,d,b,e]) ?_;rintro v22 af n24 _ M rfl am D;rw[<- N] at M;have d:=(D _ (by simp)).trans d;have b:=(D _ (by simp)).trans b;have e:=(D _ (by simp)).trans e;have f29:=Sep.oc M;simp[E,d,b,e,f29,-aK,-aT,du,cx];apply V;refine J.cut (fun O H n=>∃ (v30 v31:au),((O 1=pA U 1/\O 2=pA (U+1) 2/\O 3=pA n4 3)/\H (U,1)=some ⟨6,[bC false a]⟩/\H (U+1,2)=some ⟨6,[zB]⟩/\H (n4,3)=some ⟨6,[[int a.roots,v31,v30,int 0,.v (.slice none 0 0),.v (.slice none 0 0)]]⟩)/\Sep H n [oI v30 g,oN v31 r9] [(n4,3),(U+1,2),(U,1)]) (by refine⟨v22,i,by simp[E,d,b,e,f29,-aK,-aT,du,cx],(Sep.eG (w:=(n4,3)) M (by simp))⟩) ?_;clear E d b e;rintro O H n32 ⟨v30,v31,⟨E,d,b,e⟩,M⟩;refine zE fun _ V=>?_
 simp[E,d,b,e];apply V;refine J.cut (fun O H n=>∃ (v33 j:au),((O 1=pA U 1/\O 2=pA (U+1) 2/\O 3=pA n4 3)/\H (U,1)=some ⟨6,[bC false a]⟩/\H (U+1,2)=some ⟨6,[zB]⟩/\H (n4,3)=some ⟨6,[[int a.roots,j,v33,int a.edges,.v (.slice none 0 0),.v (.slice none 0 0)]]⟩)/\Sep H n [oI v33 g,oN j r9] [(n4,3),(U+1,2),(U,1)]) (by refine⟨v30,v31,by simp[E,d,b,e],(Sep.eG (w:=(n4,3)) M (by simp))⟩) ?_;clear E d b e;rintro O H n35 ⟨v33,j,⟨E,d,b,e⟩,M⟩;refine zE fun _ V=>?_
 obtain⟨R,h⟩:=h;obtain⟨l,T,h⟩:=aC h;simp[E,d,b,e];refine zW (k6 a.outer R) e29 (.cons (argS false a.outer) .nil) M (by simp[E,d,b,e]) ?_;rintro W ao n40 _ M rfl ap F;rw[<- T] at M;have d:=(F _ (by simp)).trans d;have b:=(F _ (by simp)).trans b;have e:=(F _ (by simp)).trans e;have f45:=Sep.oc M;simp[E,d,b,e,f45,-aK,-aT,du,cx];apply V;refine J.cut (fun O H n=>∃ (v46 o p:au),((O 1=pA U 1/\O 2=pA (U+1) 2/\O 3=pA n4 3)/\H (U,1)=some ⟨6,[bC false a]⟩/\H (U+1,2)=some ⟨6,[zB]⟩/\H (n4,3)=some ⟨6,[[int a.roots,p,o,int a.edges,v46,.v (.slice none 0 0)]]⟩)/\Sep H n [oS v46 l,oI o g,oN p r9] [(n4,3),(U+1,2),(U,1)]) (by refine⟨W,v33,j,by simp[E,d,b,e,f45,-aK,-aT,du,cx],(Sep.eG (w:=(n4,3)) M (by simp))⟩) ?_;clear E d b e;rintro O H n49 ⟨v46,o,p,⟨E,d,b,e⟩,M⟩;refine zE fun _ V=>?_
 obtain⟨X,h⟩:=h;obtain⟨G,Y,h⟩:=aC h;simp[E,d,b,e];refine zW (od a.inner X) e30 (.cons (argW false a.inner) .nil) M (by simp[E,d,b,e]) ?_;rintro ab av a0 _ M rfl a1 K;rw[<- Y] at M;have d:=(K _ (by simp)).trans d;have b:=(K _ (by simp)).trans b;have e:=(K _ (by simp)).trans e;have f59:=Sep.oc M;simp[E,d,b,e,f59,-aK,-aT,du,cx];apply V;refine J.cut (fun O H n=>∃ (v60 q t u:au),((O 2=pA (U+1) 2/\O 3=pA n4 3)/\H (U+1,2)=some ⟨6,[zB]⟩/\H (n4,3)=some ⟨6,[[int a.roots,u,t,int a.edges,q,v60]]⟩)/\Sep H n [oW v60 G,oS q l,oI t g,oN u r9] [(n4,3),(U+1,2)]) (by refine⟨ab,v46,o,p,by simp[E,d,b,e,f59,-aK,-aT,du,cx],(Sep.sub (Sep.eG (w:=(n4,3)) M (by simp)) (by simp +contextual))⟩) ?_;clear E d b e;rintro O H a2 ⟨v60,q,t,u,⟨E,b,e⟩,M⟩;refine zE fun _ V=>?_
 have f65:=Sep.oc M.f3;have f66:=Sep.oc M.f2;have f67:=Sep.oc M.f1;have f68:=Sep.oc M;simp[E,b,e,f65,f66,f67,f68,-aK,-aT,du,cx];apply V;refine J.cut (fun O H n=>∃ (A v70 B v72:au),(O 2=pA (U+1) 2/\H (U+1,2)=some ⟨6,[[int a.roots,v72,B,int a.edges,v70,A]]⟩)/\Sep H n [oW A G,oS v70 l,oI B g,oN v72 r9] [(U+1,2)]) (by refine⟨v60,q,t,u,by simp[E,b,e,f65,f66,f67,f68,-aK,-aT,du,cx],(Sep.sub (Sep.eG (w:=(U+1,2)) M (by simp)) (by simp +contextual))⟩) ?_;clear E b e;rintro O H a3 ⟨A,v70,B,v72,⟨E,b⟩,M⟩;exact J.Ep aH (v:=.agg [int a.roots,v72,B,int a.edges,v70,A]) func8 results8 (by simp[E,b,wD]) (hQ _ _ _ _ (Sep.sub (dD:=[]) (Sep.pack (aV.v _ (aV.own (aV.own (aV.v _ (aV.own (aV.own aV.nil)))))) M.f1.f2.f3) (by simp)) ⟨(aD.mk a.roots r9 g a.edges l G),h,rfl⟩)
theorem cN (a:aD) (hp:bW a):br prog 8 [.agg (bC false a)] (.a [.c,.s [.c,.c,.s [.c]],.s [.c],.c,.s [.c],.s [.c,.c]]) (fun r=>r = .agg [int ((cr a).roots),.list true (((cr a).nodes).map (aA.cells true)),.list true (((cr a).sites).map ay),int ((cr a).edges),.list true (((cr a).outer).map bm),.list true (((cr a).inner).map aQ.cells)]):=(rM a _ (vK a hp)).mono (by rintro _ ⟨_,rfl,rfl⟩;rfl)
theorem e47:aW prog 47:=aW.of func47 (by kernel_rfl) rfl
theorem tw (a:List Int) (k_:Int) (Z:((List Int) × Int)->Prop) (h:ji a k_ Z):ej prog 47 (fun v=>[v,int k_]) (.s [.c]) (.list true (a.map ay)) (fun e' r=>∃ y:(List Int) × Int,Z y/\e' = .list true (y.1.map ay)/\r=int y.2):=by
 unfold ji at h;refine ej.of func47 rfl ntmps47 (fun _=>by simp) fun H0 n0 v0 K0 aS M Q hQ=>?_
 have h00:=M.1;have hid:∀ i ∈ aS,H0 i=H0 i:=fun _ _=>rfl
 have hnn:n0<=n0:=Nat.le_refl _;refine J.cut (fun O H n=>(O 0=v0/\O 1=int k_)/\n0<=n/\(∀ i ∈ aS,H i=H0 i)/\Sep H n (oI v0 a::K0) (aS)) (by refine⟨?_,(by omega),hid,M⟩<;>simp ) ?_;rintro O H n2 ⟨E,hnn,hid,M⟩;have hq_n2:=hnn;refine zE fun _ V=>?_
 simp[E];apply V;refine zS fun _ V=>?_
 simp[E];apply V;apply J.block;refine J.aG h (fun (sJ:Int × Int × (List Int)) O H n=>match sJ with | (k10,i11,d)=>(O 0=v0/\O 1=int k10/\O 5=int i11)/\n0<=n/\(∀ i ∈ aS,H i=H0 i)/\Sep H n (oI v0 d::K0) (aS)) (by refine⟨?_,(by omega),hid,M⟩<;>simp[E]) ?_;clear E;rintro⟨k10,i11,d⟩ O H n13 K h ⟨E,hnn,hid,M⟩ t;have hq_n13:=hnn;refine zS fun _ V=>?_
 obtain⟨u,A,h⟩:=aC h;have f17:=eb (Sep.len (m:=u) M aR (by rw[A,List.length_map]));obtain⟨B,C,h⟩:=aC h;have f19:=aY (k:=.i64) C;simp[E,f17,f19,-ax,-aP];apply V;refine J.ite (b:=B) (by simp[E]) (fun e=>?_) (fun e=>?_)
 ·replace h:=h.1 e;apply zK;apply J.block;refine zE fun _ V=>?_
  obtain⟨l,h⟩:=h;obtain⟨j,hv,D,Y,ab⟩:=Sep.fM M (by simp) l;subst hv;obtain⟨ac,F,h⟩:=aC h;have f26:=fun H (hm:H j=some ⟨1,d.map ay⟩)=>cP (H:=H) (k:=.i64) (off:=0) (len:=d.length) (g:=d.length) aR hm (by simp) rfl l
  have f27:=cO (q:=i11.toNat) l F rfl;obtain⟨o,G,h⟩:=aC h;simp[E,D,f26,f27,e,-aw,-bL];refine ei (q:=i11.toNat) (news:=ay k10) [] (K0) M (by simp) (by simp;omega) (by simp) (by simp[-aT,cx]) (aV.v _ aV.nil) ?_;rintro p M L;replace M:Sep p n13 (oI (.arr j d.length 0 d.length) o::K0) (aS):=Sep.st G M;have hid:∀ i ∈ aS,p i=H0 i:=fun i hi=>(L i (by simp[hi])).trans (hid i hi)
  simp[E,f26,f27,e,-aw];apply V;refine J.cut (fun O H n=>(O 0 = .arr j d.length 0 d.length/\O 1=int k10/\O 5=int i11)/\n0<=n/\(∀ i ∈ aS,H i=H0 i)/\Sep H n (oI (.arr j d.length 0 d.length) o::K0) (aS)) (by refine⟨?_,(by omega),hid,M⟩<;>simp[E,f26,f27,e,-aw]) ?_;clear E;rintro O H n32 ⟨E,hnn,hid,M⟩;have hq_n32:=hnn;refine zF fun _ V=>?_
  obtain⟨N,h⟩:=h;obtain⟨R,T,h⟩:=aC h;have f35:=aU N T;simp[E,f35,-ax];apply V;refine zI fun _ V=>?_
  obtain⟨W,h⟩:=h;obtain⟨v37,X,h⟩:=aC h;have f38:=aU W X;simp[E,f38,-ax];apply V;refine t (R,v37,o) _ _ _ h (by refine⟨?_,(by omega),hid,M⟩<;>simp[E])
 replace h:=h.2 e;refine J.exit rfl ?_;refine zE fun _ V=>?_
 simp[E,e];apply V;exact J.bg (v:=int k10) func47 results47 (by simp[E,e]) (hQ _ _ _ _ (Sep.sub M (by simp +contextual)) hid (by omega) ⟨(d,k10),h,rfl,rfl⟩)
theorem mb (a:List Int) (k_:Int) (hp:fG a k_):ej prog 47 (fun v=>[v,int k_]) (.s [.c]) (.list true (a.map ay)) (fun e' r=>e' = .list true (((bG a k_).1).map ay)/\r=int ((bG a k_).2)):=(tw a k_ _ (xr a k_ hp)).mono (by rintro _ _ ⟨_,rfl,rfl,rfl⟩;exact⟨rfl,rfl⟩)
theorem e48:aW prog 48:=aW.of func48 (by kernel_rfl) rfl
theorem pw (a:List cB) (k_:Int) (Z:((List cB) × Int)->Prop) (h:fA a k_ Z):ej prog 48 (fun v=>[v,int k_]) (.s [.c]) (.list true (a.map bm)) (fun e' r=>∃ y:(List cB) × Int,Z y/\e' = .list true (y.1.map bm)/\r=int y.2):=by
 unfold fA at h;refine ej.of func48 rfl ntmps48 (fun _=>by simp) fun H0 n0 v0 K0 aS M Q hQ=>?_
 have h00:=M.1;have hid:∀ i ∈ aS,H0 i=H0 i:=fun _ _=>rfl
 have hnn:n0<=n0:=Nat.le_refl _;refine J.cut (fun O H n=>(O 0=v0/\O 1=int k_)/\n0<=n/\(∀ i ∈ aS,H i=H0 i)/\Sep H n (oS v0 a::K0) (aS)) (by refine⟨?_,(by omega),hid,M⟩<;>simp ) ?_;rintro O H n2 ⟨E,hnn,hid,M⟩;have hq_n2:=hnn;refine zE fun _ V=>?_
 simp[E];apply V;refine zS fun _ V=>?_
 simp[E];apply V;apply J.block;refine J.aG h (fun (sJ:Int × Int × (List cB)) O H n=>match sJ with | (k10,i11,d)=>(O 0=v0/\O 1=int k10/\O 5=int i11)/\n0<=n/\(∀ i ∈ aS,H i=H0 i)/\Sep H n (oS v0 d::K0) (aS)) (by refine⟨?_,(by omega),hid,M⟩<;>simp[E]) ?_;clear E;rintro⟨k10,i11,d⟩ O H n13 K h ⟨E,hnn,hid,M⟩ t;have hq_n13:=hnn;refine zS fun _ V=>?_
 obtain⟨u,A,h⟩:=aC h;have f17:=eb (Sep.len (m:=u) M iY (by rw[A,List.length_map]));obtain⟨B,C,h⟩:=aC h;have f19:=aY (k:=.i64) C;simp[E,f17,f19,-ax,-aP];apply V;refine J.ite (b:=B) (by simp[E]) (fun e=>?_) (fun e=>?_)
 ·replace h:=h.1 e;apply zK;apply J.block;refine zE fun _ V=>?_
  obtain⟨D,h⟩:=h;obtain⟨F,G,h⟩:=aC h;simp[E,e];refine zA (nz k10 D) e45 (.cons (.v _ _ _) .nil) (by simp[E,e]) ?_;rintro _ rfl;rw[<- G];obtain⟨l,h⟩:=h;obtain⟨j,hv,L,ad,af⟩:=Sep.fM M (by simp) l;subst hv;obtain⟨am,N,h⟩:=aC h;have f28:=fun H (hm:H j=some ⟨1,d.map bm⟩)=>cP (H:=H) (k:=.i64) (off:=0) (len:=d.length) (g:=d.length) iY hm (by simp) rfl l
  have f29:=cO (q:=i11.toNat) l N rfl;obtain⟨o,R,h⟩:=aC h;simp[E,L,f28,f29,e,-aw,-bL];refine ei (q:=i11.toNat) (news:=bm F) [] (K0) M (by simp) (by simp;omega) (by simp) (by simp[-aT,cx]) (aV.v _ aV.nil) ?_;rintro p M T;replace M:Sep p n13 (oS (.arr j d.length 0 d.length) o::K0) (aS):=Sep.st R M;have hid:∀ i ∈ aS,p i=H0 i:=fun i hi=>(T i (by simp[hi])).trans (hid i hi)
  simp[E,f28,f29,e,-aw];apply V;refine J.cut (fun O H n=>(O 0 = .arr j d.length 0 d.length/\O 1=int k10/\O 5=int i11)/\n0<=n/\(∀ i ∈ aS,H i=H0 i)/\Sep H n (oS (.arr j d.length 0 d.length) o::K0) (aS)) (by refine⟨?_,(by omega),hid,M⟩<;>simp[E,f28,f29,e,-aw]) ?_;clear E;rintro O H n34 ⟨E,hnn,hid,M⟩;have hq_n34:=hnn;refine zF fun _ V=>?_
  obtain⟨W,h⟩:=h;obtain⟨X,Y,h⟩:=aC h;have f37:=aU W Y;simp[E,f37,-ax];apply V;refine zI fun _ V=>?_
  obtain⟨ab,h⟩:=h;obtain⟨v39,ac,h⟩:=aC h;have f40:=aU ab ac;simp[E,f40,-ax];apply V;refine t (X,v39,o) _ _ _ h (by refine⟨?_,(by omega),hid,M⟩<;>simp[E])
 replace h:=h.2 e;refine J.exit rfl ?_;refine zE fun _ V=>?_
 simp[E,e];apply V;exact J.bg (v:=int k10) func48 results48 (by simp[E,e]) (hQ _ _ _ _ (Sep.sub M (by simp +contextual)) hid (by omega) ⟨(d,k10),h,rfl,rfl⟩)
theorem r0 (a:List cB) (k_:Int) (hp:gK a k_):ej prog 48 (fun v=>[v,int k_]) (.s [.c]) (.list true (a.map bm)) (fun e' r=>e' = .list true (((fa a k_).1).map bm)/\r=int ((fa a k_).2)):=(pw a k_ _ (sA a k_ hp)).mono (by rintro _ _ ⟨_,rfl,rfl,rfl⟩;exact⟨rfl,rfl⟩)
theorem e49:aW prog 49:=aW.of func49 (by kernel_rfl) rfl
theorem rN (a:List aQ) (k_:Int) (Z:((List aQ) × Int)->Prop) (h:im a k_ Z):ej prog 49 (fun v=>[v,int k_]) (.s [.c,.c]) (.list true (a.map aQ.cells)) (fun e' r=>∃ y:(List aQ) × Int,Z y/\e' = .list true (y.1.map aQ.cells)/\r=int y.2):=by
 unfold im at h;refine ej.of func49 rfl ntmps49 (fun _=>by simp) fun H0 n0 v0 K0 aS M Q hQ=>?_
 have h00:=M.1;have hid:∀ i ∈ aS,H0 i=H0 i:=fun _ _=>rfl
 have hnn:n0<=n0:=Nat.le_refl _;refine J.cut (fun O H n=>(O 0=v0/\O 1=int k_)/\n0<=n/\(∀ i ∈ aS,H i=H0 i)/\Sep H n (oW v0 a::K0) (aS)) (by refine⟨?_,(by omega),hid,M⟩<;>simp ) ?_;rintro O H n2 ⟨E,hnn,hid,M⟩;have hq_n2:=hnn;refine zE fun _ V=>?_
 simp[E];apply V;refine zS fun _ V=>?_
 simp[E];apply V;apply J.block;refine J.aG h (fun (sJ:Int × Int × (List aQ)) O H n=>match sJ with | (k10,i11,d)=>(O 0=v0/\O 1=int k10/\O 5=int i11)/\n0<=n/\(∀ i ∈ aS,H i=H0 i)/\Sep H n (oW v0 d::K0) (aS)) (by refine⟨?_,(by omega),hid,M⟩<;>simp[E]) ?_;clear E;rintro⟨k10,i11,d⟩ O H n13 K h ⟨E,hnn,hid,M⟩ N;have hq_n13:=hnn;refine zS fun _ V=>?_
 obtain⟨R,T,h⟩:=aC h;have f17:=eb (Sep.len (m:=R) M jk (by rw[T,List.length_map]));obtain⟨W,X,h⟩:=aC h;have f19:=aY (k:=.i64) X;simp[E,f17,f19,-ax,-aP];apply V;refine J.ite (b:=W) (by simp[E]) (fun e=>?_) (fun e=>?_)
 ·replace h:=h.1 e;apply zK;apply J.block;refine zE fun _ V=>?_
  obtain⟨Y,h⟩:=h;obtain⟨A,ab,h⟩:=aC h;simp[E,e];refine zA (nz k10 Y) e45 (.cons (.v _ _ _) .nil) (by simp[E,e]) ?_;rintro _ rfl;rw[<- ab];obtain⟨l,h⟩:=h;obtain⟨j,hv,ac,a9,bd⟩:=Sep.fM M (by simp) l;subst hv;obtain⟨B,C,h⟩:=aC h;have f28:=fun H (hm:H j=some ⟨2,d.map aQ.cells⟩)=>cP (H:=H) (k:=.i64) (off:=0) (len:=d.length) (g:=d.length) jk hm (by simp) rfl l
  have f29:=cO (q:=i11.toNat) l C rfl;obtain⟨p,ad,h⟩:=aC h;simp[E,ac,f28,f29,e,-aw,-bL];refine iS (i:=AZ) (q:=i11.toNat) (off:=0) (new:=[str A]) (ix:=i11) (x:=B) (y:=(aQ.mk A B.link)) (f:=aQ.cells) M (by simp) (by simp) l C rfl rfl (fun _=>rfl) (by simp) (by simp) (by simp[dx]) (by simp) ?_;rintro D M af;replace M:Sep D n13 (oW (.arr j d.length 0 d.length) p::K0) (aS):=by rw[ad];exact M
  have hid:∀ i ∈ aS,D i=H0 i:=fun i hi=>(af i (by simp[hi])).trans (hid i hi)
  simp[E,f28,f29,e,-aw];apply V;refine J.cut (fun O H n=>(O 0 = .arr j d.length 0 d.length/\O 1=int k10/\O 5=int i11)/\n0<=n/\(∀ i ∈ aS,H i=H0 i)/\Sep H n (oW (.arr j d.length 0 d.length) p::K0) (aS)) (by refine⟨?_,(by omega),hid,M⟩<;>simp[E,f28,f29,e,-aw]) ?_;clear E;rintro O H n34 ⟨E,hnn,hid,M⟩;have hq_n34:=hnn;refine zE fun _ V=>?_
  obtain⟨am,h⟩:=h;obtain⟨t,ao,h⟩:=aC h;have f37:=aU am ao;simp[E,f37,-ax];apply V;refine zE fun _ V=>?_
  obtain⟨o,h⟩:=h;obtain⟨be,hv,ap,bi,bk⟩:=Sep.fM M (by simp) o;simp only[au.arr.injEq] at hv;obtain⟨hv,hln43,-⟩:=hv;subst hv;have hlshln43:=hln43.symm;obtain⟨F,G,h⟩:=aC h;have f45:=fun H (hm:H j=some ⟨2,p.map aQ.cells⟩)=>cP (H:=H) (k:=.i64) (off:=0) (len:=d.length) (g:=d.length) jk hm (by simp[hln43]) rfl (by rw[hln43];exact o)
  have f46:=cO (q:=i11.toNat) o G rfl;obtain⟨u,av,h⟩:=aC h;simp[E,hlshln43,ap,f45,f46,-aw,-bL];refine iS (i:=pf) (q:=i11.toNat) (off:=1) (new:=[int t]) (ix:=i11) (x:=F) (y:=(aQ.mk F.name t)) (f:=aQ.cells) M (by simp) (by simp) o G rfl hln43 (fun _=>rfl) (by simp) (by simp) (by simp[dx]) (by simp) ?_;rintro L M a0;replace M:Sep L n34 (oW (.arr j d.length 0 d.length) u::K0) (aS):=by rw[av];exact M
  have hid:∀ i ∈ aS,L i=H0 i:=fun i hi=>(a0 i (by simp[hi])).trans (hid i hi)
  simp[E,hlshln43,f45,f46,-aw];apply V;refine J.cut (fun O H n=>(O 0 = .arr j d.length 0 d.length/\O 1=int t/\O 5=int i11)/\n0<=n/\(∀ i ∈ aS,H i=H0 i)/\Sep H n (oW (.arr j d.length 0 d.length) u::K0) (aS)) (by refine⟨?_,(by omega),hid,M⟩<;>simp[E,hlshln43,f45,f46,-aw]) ?_;clear E hlshln43;rintro O H n51 ⟨E,hnn,hid,M⟩;have hq_n51:=hnn;refine zF fun _ V=>?_
  obtain⟨a1,h⟩:=h;obtain⟨v53,a2,h⟩:=aC h;have f54:=aU a1 a2;simp[E,f54,-ax];apply V;refine zI fun _ V=>?_
  obtain⟨a3,h⟩:=h;obtain⟨a4,a5,h⟩:=aC h;have f57:=aU a3 a5;simp[E,f57,-ax];apply V;refine N (v53,a4,u) _ _ _ h (by refine⟨?_,(by omega),hid,M⟩<;>simp[E])
 replace h:=h.2 e;refine J.exit rfl ?_;refine zE fun _ V=>?_
 simp[E,e];apply V;exact J.bg (v:=int k10) func49 results49 (by simp[E,e]) (hQ _ _ _ _ (Sep.sub M (by simp +contextual)) hid (by omega) ⟨(d,k10),h,rfl,rfl⟩)
theorem uG (a:List aQ) (k_:Int) (hp:jR a k_):ej prog 49 (fun v=>[v,int k_]) (.s [.c,.c]) (.list true (a.map aQ.cells)) (fun e' r=>e' = .list true (((iv a k_).1).map aQ.cells)/\r=int ((iv a k_).2)):=(rN a k_ _ (uM a k_ hp)).mono (by rintro _ _ ⟨_,rfl,rfl,rfl⟩;exact⟨rfl,rfl⟩)
theorem e13:aW prog 13:=aW.of func13 (by kernel_rfl) rfl
theorem o4 (a:List Control) (k_:Int) (Z:((List Control) × Int)->Prop) (h:eO a k_ Z):ej prog 13 (fun v=>[v,int k_]) (.s [.c,.c,.c]) (.list true (a.map Control.cells)) (fun e' r=>∃ y:(List Control) × Int,Z y/\e' = .list true (y.1.map Control.cells)/\r=int y.2):=by
 unfold eO at h;refine ej.of func13 rfl ntmps13 (fun _=>by simp) fun H0 n0 v0 K0 aS M Q hQ=>?_
 have h00:=M.1;have hid:∀ i ∈ aS,H0 i=H0 i:=fun _ _=>rfl
 have hnn:n0<=n0:=Nat.le_refl _;refine J.cut (fun O H n=>(O 0=v0/\O 1=int k_)/\n0<=n/\(∀ i ∈ aS,H i=H0 i)/\Sep H n (oE [.c,.c,.c] Control.cells v0 a::K0) (aS)) (by refine⟨?_,(by omega),hid,M⟩<;>simp ) ?_;rintro O H n2 ⟨E,hnn,hid,M⟩;have hq_n2:=hnn;refine zE fun _ V=>?_
 simp[E];apply V;refine zS fun _ V=>?_
 simp[E];apply V;apply J.block;refine J.aG h (fun (sJ:Int × Int × (List Control)) O H n=>match sJ with | (k10,i11,d)=>(O 0=v0/\O 1=int k10/\O 5=int i11)/\n0<=n/\(∀ i ∈ aS,H i=H0 i)/\Sep H n (oE [.c,.c,.c] Control.cells v0 d::K0) (aS)) (by refine⟨?_,(by omega),hid,M⟩<;>simp[E]) ?_;clear E;rintro⟨k10,i11,d⟩ O H n13 K h ⟨E,hnn,hid,M⟩ Y;have hq_n13:=hnn;refine zS fun _ V=>?_
 obtain⟨ab,ac,h⟩:=aC h;have f17:=eb (Sep.len (m:=ab) M tQ (by rw[ac,List.length_map]));obtain⟨ad,af,h⟩:=aC h;have f19:=aY (k:=.i64) af;simp[E,f17,f19,-ax,-aP];apply V;refine J.ite (b:=ad) (by simp[E]) (fun j=>?_) (fun j=>?_)
 ·replace h:=h.1 j;apply zK;apply J.block;refine zE fun _ V=>?_
  obtain⟨am,h⟩:=h;obtain⟨G,ao,h⟩:=aC h;simp[E,j];refine zA (nz k10 am) e45 (.cons (.v _ _ _) .nil) (by simp[E,j]) ?_;rintro _ rfl;rw[<- ao];obtain⟨l,h⟩:=h;obtain⟨e,hv,ap,b2,b3⟩:=Sep.fM M (by simp) l;subst hv;obtain⟨t,L,h⟩:=aC h;have f28:=fun H (hm:H e=some ⟨3,d.map Control.cells⟩)=>cP (H:=H) (k:=.i64) (off:=0) (len:=d.length) (g:=d.length) tQ hm (by simp) rfl l
  have f29:=cO (q:=i11.toNat) l L rfl;obtain⟨u,av,h⟩:=aC h;simp[E,ap,f28,f29,j,-aw,-bL];refine iS (i:=AZ) (q:=i11.toNat) (off:=0) (new:=[str G]) (ix:=i11) (x:=t) (y:=(Control.mk G t.ports t.kind)) (f:=Control.cells) M (by simp) (by simp) l L rfl rfl (fun _=>rfl) (by simp) (by simp) (by simp[dx]) (by simp) ?_;rintro N M a0;replace M:Sep N n13 (oE [.c,.c,.c] Control.cells (.arr e d.length 0 d.length) u::K0) (aS):=by rw[av];exact M
  have hid:∀ i ∈ aS,N i=H0 i:=fun i hi=>(a0 i (by simp[hi])).trans (hid i hi)
  simp[E,f28,f29,j,-aw];apply V;refine J.cut (fun O H n=>(O 0 = .arr e d.length 0 d.length/\O 1=int k10/\O 5=int i11)/\n0<=n/\(∀ i ∈ aS,H i=H0 i)/\Sep H n (oE [.c,.c,.c] Control.cells (.arr e d.length 0 d.length) u::K0) (aS)) (by refine⟨?_,(by omega),hid,M⟩<;>simp[E,f28,f29,j,-aw]) ?_;clear E;rintro O H n34 ⟨E,hnn,hid,M⟩;have hq_n34:=hnn;refine zE fun _ V=>?_
  obtain⟨a1,h⟩:=h;obtain⟨A,a2,h⟩:=aC h;have f37:=aU a1 a2;simp[E,f37,-ax];apply V;refine zE fun _ V=>?_
  obtain⟨o,h⟩:=h;obtain⟨b5,hv,a3,b7,b8⟩:=Sep.fM M (by simp) o;simp only[au.arr.injEq] at hv;obtain⟨hv,hln43,-⟩:=hv;subst hv;have hlshln43:=hln43.symm;obtain⟨B,R,h⟩:=aC h;have f45:=fun H (hm:H e=some ⟨3,u.map Control.cells⟩)=>cP (H:=H) (k:=.i64) (off:=0) (len:=d.length) (g:=d.length) tQ hm (by simp[hln43]) rfl (by rw[hln43];exact o)
  have f46:=cO (q:=i11.toNat) o R rfl;obtain⟨C,a4,h⟩:=aC h;simp[E,hlshln43,a3,f45,f46,-aw,-bL];refine iS (i:=pf) (q:=i11.toNat) (off:=1) (new:=[int A]) (ix:=i11) (x:=B) (y:=(Control.mk B.name A B.kind)) (f:=Control.cells) M (by simp) (by simp) o R rfl hln43 (fun _=>rfl) (by simp) (by simp) (by simp[dx]) (by simp) ?_;rintro T M a5;replace M:Sep T n34 (oE [.c,.c,.c] Control.cells (.arr e d.length 0 d.length) C::K0) (aS):=by rw[a4];exact M
  have hid:∀ i ∈ aS,T i=H0 i:=fun i hi=>(a5 i (by simp[hi])).trans (hid i hi)
  simp[E,hlshln43,f45,f46,-aw];apply V;refine J.cut (fun O H n=>(O 0 = .arr e d.length 0 d.length/\O 1=int A/\O 5=int i11)/\n0<=n/\(∀ i ∈ aS,H i=H0 i)/\Sep H n (oE [.c,.c,.c] Control.cells (.arr e d.length 0 d.length) C::K0) (aS)) (by refine⟨?_,(by omega),hid,M⟩<;>simp[E,hlshln43,f45,f46,-aw]) ?_;clear E hlshln43;rintro O H n51 ⟨E,hnn,hid,M⟩;have hq_n51:=hnn;refine zE fun _ V=>?_
  obtain⟨a9,h⟩:=h;obtain⟨v53,bd,h⟩:=aC h;have f54:=aU a9 bd;simp[E,f54,-ax];apply V;refine zE fun _ V=>?_
  obtain⟨p,h⟩:=h;obtain⟨b9,hv,be,cc,ce⟩:=Sep.fM M (by simp) p;simp only[au.arr.injEq] at hv;obtain⟨hv,hln60,-⟩:=hv;subst hv;have hlshln60:=hln60.symm;obtain⟨D,W,h⟩:=aC h;have f62:=fun H (hm:H e=some ⟨3,C.map Control.cells⟩)=>cP (H:=H) (k:=.i64) (off:=0) (len:=d.length) (g:=d.length) tQ hm (by simp[hln60]) rfl (by rw[hln60];exact p)
  have f63:=cO (q:=i11.toNat) p W rfl;obtain⟨F,bi,h⟩:=aC h;simp[E,hlshln60,be,f62,f63,-aw,-bL];refine iS (i:=pf) (q:=i11.toNat) (off:=2) (new:=[int v53]) (ix:=i11) (x:=D) (y:=(Control.mk D.name D.ports v53)) (f:=Control.cells) M (by simp) (by simp) p W rfl hln60 (fun _=>rfl) (by simp) (by simp) (by simp[dx]) (by simp) ?_;rintro X M bk;replace M:Sep X n51 (oE [.c,.c,.c] Control.cells (.arr e d.length 0 d.length) F::K0) (aS):=by rw[bi];exact M
  have hid:∀ i ∈ aS,X i=H0 i:=fun i hi=>(bk i (by simp[hi])).trans (hid i hi)
  simp[E,hlshln60,f62,f63,-aw];apply V;refine J.cut (fun O H n=>(O 0 = .arr e d.length 0 d.length/\O 1=int v53/\O 5=int i11)/\n0<=n/\(∀ i ∈ aS,H i=H0 i)/\Sep H n (oE [.c,.c,.c] Control.cells (.arr e d.length 0 d.length) F::K0) (aS)) (by refine⟨?_,(by omega),hid,M⟩<;>simp[E,hlshln60,f62,f63,-aw]) ?_;clear E hlshln60;rintro O H n68 ⟨E,hnn,hid,M⟩;have hq_n68:=hnn;refine zF fun _ V=>?_
  obtain⟨bs,h⟩:=h;obtain⟨v70,bv,h⟩:=aC h;have f71:=aU bs bv;simp[E,f71,-ax];apply V;refine zI fun _ V=>?_
  obtain⟨bC,h⟩:=h;obtain⟨b0,b1,h⟩:=aC h;have f74:=aU bC b1;simp[E,f74,-ax];apply V;refine Y (v70,b0,F) _ _ _ h (by refine⟨?_,(by omega),hid,M⟩<;>simp[E])
 replace h:=h.2 j;refine J.exit rfl ?_;refine zE fun _ V=>?_
 simp[E,j];apply V;exact J.bg (v:=int k10) func13 results13 (by simp[E,j]) (hQ _ _ _ _ (Sep.sub M (by simp +contextual)) hid (by omega) ⟨(d,k10),h,rfl,rfl⟩)
theorem qj (a:List Control) (k_:Int) (hp:fU a k_):ej prog 13 (fun v=>[v,int k_]) (.s [.c,.c,.c]) (.list true (a.map Control.cells)) (fun e' r=>e' = .list true (((dH a k_).1).map Control.cells)/\r=int ((dH a k_).2)):=(o4 a k_ _ (qm a k_ hp)).mono (by rintro _ _ ⟨_,rfl,rfl,rfl⟩;exact⟨rfl,rfl⟩)
theorem e50:aW prog 50:=aW.of func50 (by kernel_rfl) rfl
theorem td (a:List Int) (k_:Int) (Z:Int->Prop) (h:ju a k_ Z):aB prog 50 [.list false (a.map ay),int k_] (fun r=>∃ y:Int,Z y/\r=int y):=by
 unfold ju at h;refine aB.of func50 rfl ntmps50 (by simp) fun Q hQ=>?_
 refine J.cut (fun O H n=>(O 0 = .list false (a.map ay)/\O 1=int k_)) (by simp) ?_;rintro O H U E;refine zE fun _ V=>?_
 simp[E];apply V;refine zS fun _ V=>?_
 simp[E];apply V;apply J.block;refine J.aG h (fun (sJ:Int × Int) O H n=>match sJ with | (k5,i6)=>(O 0 = .list false (a.map ay)/\O 1=int k5/\O 5=int i6)) (by simp[E]) ?_;clear E;rintro⟨k5,i6⟩ O H n7 K h E IH8;refine zS fun _ V=>?_
 obtain⟨gT,e,h⟩:=aC h;have f11:=fun H=>aE (H:=H) (fr:=false) (f:=ay) aR e
 obtain⟨g,i,h⟩:=aC h;have f13:=aY (k:=.i64) i;simp[E,f11,f13,-ax,-aP];apply V;refine J.ite (b:=g) (by simp[E]) (fun c=>?_) (fun c=>?_)
 ·replace h:=h.1 c;apply zK;apply J.block;refine zS fun _ V=>?_
  obtain⟨j,h⟩:=h;obtain⟨B,l,h⟩:=aC h;have f16:=fun H=>aL (H:=H) (fr:=false) (f:=ay) (k:=.i64) aR (fun _=>rfl) j l
  obtain⟨o,p,h⟩:=aC h;have f18:=c4 (k:=.i64) p;simp[E,f16,f18,c,-aw,-ax];apply V;refine J.ite (b:=o) (by simp[E,c]) (fun d=>?_) (fun d=>?_)
  ·replace h:=h.1 d;refine zE fun _ V=>?_
   simp[E,c,d];apply V;exact J.bg (v:=int (-1)) func50 results50 (by simp[E,c,d]) (hQ _ _ _ _ (.of (.v _)) ⟨(-1),h,rfl⟩)
  replace h:=h.2 d;apply J.skip;refine zF fun _ V=>?_
  obtain⟨q,h⟩:=h;obtain⟨v20,t,h⟩:=aC h;have f21:=aU q t;simp[E,f21,c,d,-ax];apply V;refine zI fun _ V=>?_
  obtain⟨u,h⟩:=h;obtain⟨v23,A,h⟩:=aC h;have f24:=aU u A;simp[E,f24,c,d,-ax];apply V;refine J.cut (fun O H n=>(O 0 = .list false (a.map ay)/\O 1=int v20/\O 5=int v23)) (by simp[E,f24,c,d,-ax]) ?_;clear E;rintro O H n25 E;refine IH8 (v20,v23) _ _ _ h (by simp[E])
 replace h:=h.2 c;refine J.exit rfl ?_;refine zE fun _ V=>?_
 simp[E,c];apply V;exact J.bg (v:=int k5) func50 results50 (by simp[E,c]) (hQ _ _ _ _ (.of (.v _)) ⟨k5,h,rfl⟩)
theorem yh (a:List Int) (k_:Int) (hp:ks a k_):aB prog 50 [.list false (a.map ay),int k_] (fun r=>r=int (dB a k_)):=(td a k_ _ (xZ a k_ hp)).mono (by rintro _ ⟨_,rfl,rfl⟩;rfl)
end Go.Ab.Vg
namespace Go.Ab.Vg
open Go.Proofs
set_option maxRecDepth 100000
attribute [local simp] aA.cells aQ.cells ay aI bm bC pA
theorem e46:aW prog 46:=aW.of func46 (by kernel_rfl) rfl
theorem qQ (a:List aA) (k_:Int) (Z:((List aA) × Int)->Prop) (h:hZ a k_ Z):ej prog 46 (fun v=>[v,int k_]) (.s [.c,.c,.s [.c]]) (.list true (a.map (aA.cells true))) (fun e' r=>∃ y:(List aA) × Int,Z y/\e' = .list true (y.1.map (aA.cells true))/\r=int y.2):=by
 unfold hZ at h;refine ej.of func46 rfl ntmps46 (fun _=>by simp) fun H0 n0 v0 K0 aS M Q hQ=>?_
 have h00:=M.1;have hid:∀ i ∈ aS,H0 i=H0 i:=fun _ _=>rfl
 have hnn:n0<=n0:=Nat.le_refl _;refine J.cut (fun O H n=>(O 0=v0/\O 1=int k_)/\n0<=n/\(∀ i ∈ aS,H i=H0 i)/\Sep H n (oN v0 a::K0) (aS)) (by refine⟨?_,(by omega),hid,M⟩<;>simp ) ?_;rintro O H n2 ⟨E,hnn,hid,M⟩;have hq_n2:=hnn;refine zE fun _ V=>?_
 simp[E];apply V;refine zS fun _ V=>?_
 simp[E];apply V;apply J.block;refine J.aG h (fun (sJ:Int × Int × (List aA)) O H n=>match sJ with | (k10,i11,d)=>(O 0=v0/\O 1=int k10/\O 5=int i11)/\n0<=n/\(∀ i ∈ aS,H i=H0 i)/\Sep H n (oN v0 d::K0) (aS)) (by refine⟨?_,(by omega),hid,M⟩<;>simp[E]) ?_;clear E;rintro⟨k10,i11,d⟩ O H n13 K h ⟨E,hnn,hid,M⟩ be;have hq_n13:=hnn;refine zS fun _ V=>?_
 obtain⟨bi,bk,h⟩:=aC h;have f17:=eb (Sep.len (m:=bi) M bK (by rw[bk,List.length_map]));obtain⟨bs,bv,h⟩:=aC h;have f19:=aY (k:=.i64) bv;simp[E,f17,f19,-ax,-aP];apply V;refine J.ite (b:=bs) (by simp[E]) (fun o=>?_) (fun o=>?_)
 ·replace h:=h.1 o;apply zK;apply J.block;refine zE fun _ V=>?_
  obtain⟨G,h⟩:=h;obtain⟨g,ac,h⟩:=aC h;obtain⟨l,dk,dl,bC,L,ad,af,b0,b1,dr,ds,d0,B,d1⟩:=Sep.D5 (q:=i11.toNat) (f:=(aA.cells true)) M G ac rfl;subst L;obtain⟨b2,am,N,L⟩:=ED (by simpa using b1);subst L;replace B:Sep _ _ [(.c,b2,int g.control),(.c,am,int g.parent),(.s [.c],N,.list true (g.links.map ay))] bC:=B;obtain rfl:=Sep.FI (K1:=[]) (K2:=[(.c,am,int g.parent),(.s [.c],N,.list true (g.links.map ay))]) B;obtain rfl:=Sep.FI (K1:=[(.c,int g.control,int g.control)]) (K2:=[(.s [.c],N,.list true (g.links.map ay))]) B;have f39:=cP (k:=.i64) (off:=0) (len:=d.length) bK ad af rfl G;obtain⟨ao,b3,h⟩:=aC h;simp[E,ad,af,b0,f39,o,-aw,-bL];refine ue (i:=pf) (q:=i11.toNat) (off:=0) (ix:=i11) (x:=g) (y:=(aA.mk k10 g.parent g.links)) (f:=(aA.cells true)) [] [.c,.s [.c]] [] [int g.parent,.list true (g.links.map ay)] M rfl rfl G ac rfl rfl rfl rfl rfl rfl rfl ?_;rintro ap M b5;replace M:Sep ap n13 (oN (.arr l d.length 0 d.length) ao::K0) (aS):=by rw[b3];exact M
  have hid:∀ i ∈ aS,ap i=H0 i:=fun i hi=>(b5 i (by simp[hi])).trans (hid i hi)
  simp[E,f39,o,-aw];apply V;refine J.cut (fun O H n=>(O 0 = .arr l d.length 0 d.length/\O 1=int k10/\O 5=int i11)/\n0<=n/\(∀ i ∈ aS,H i=H0 i)/\Sep H n (oN (.arr l d.length 0 d.length) ao::K0) (aS)) (by refine⟨?_,(by omega),hid,M⟩<;>simp[E,f39,o,-aw]) ?_;clear E;rintro O H n44 ⟨E,hnn,hid,M⟩;have hq_n44:=hnn;refine zE fun _ V=>?_
  obtain⟨b7,h⟩:=h;obtain⟨v46,b8,h⟩:=aC h;have f47:=aU b7 b8;simp[E,f47,-ax];apply V;refine zE fun _ V=>?_
  obtain⟨R,h⟩:=h;obtain⟨j,av,h⟩:=aC h;obtain⟨d2,d3,d4,b9,p,a0,C,cc,ce,d5,d6,d7,D,d8⟩:=Sep.D5 (q:=i11.toNat) (f:=(aA.cells true)) M R av rfl;simp only[au.arr.injEq] at p;obtain⟨p,hln64,-⟩:=p;subst p;replace C:=C.trans hln64.symm;obtain⟨ci,a1,T,p⟩:=ED (by simpa using ce);subst p;replace D:Sep _ _ [(.c,ci,int j.control),(.c,a1,int j.parent),(.s [.c],T,.list true (j.links.map ay))] b9:=D;obtain rfl:=Sep.FI (K1:=[]) (K2:=[(.c,a1,int j.parent),(.s [.c],T,.list true (j.links.map ay))]) D;obtain rfl:=Sep.FI (K1:=[(.c,int j.control,int j.control)]) (K2:=[(.s [.c],T,.list true (j.links.map ay))]) D;have f68:=cP (k:=.i64) (off:=0) (len:=d.length) bK a0 C rfl (by rw[hln64];exact R);obtain⟨a2,cj,h⟩:=aC h;simp[E,a0,C,cc,f68,-aw,-bL];refine ue (i:=pf) (q:=i11.toNat) (off:=1) (ix:=i11) (x:=j) (y:=(aA.mk j.control v46 j.links)) (f:=(aA.cells true)) [.c] [.s [.c]] [int j.control] [.list true (j.links.map ay)] M rfl rfl R av rfl hln64 rfl rfl rfl rfl rfl ?_;rintro a3 M ck;replace M:Sep a3 n44 (oN (.arr l d.length 0 d.length) a2::K0) (aS):=by rw[cj];exact M
  have hid:∀ i ∈ aS,a3 i=H0 i:=fun i hi=>(ck i (by simp[hi])).trans (hid i hi)
  simp[E,f68,-aw];apply V;refine J.cut (fun O H n=>(O 0 = .arr l d.length 0 d.length/\O 1=int v46/\O 5=int i11)/\n0<=n/\(∀ i ∈ aS,H i=H0 i)/\Sep H n (oN (.arr l d.length 0 d.length) a2::K0) (aS)) (by refine⟨?_,(by omega),hid,M⟩<;>simp[E,f68,-aw]) ?_;clear E;rintro O H d9 ⟨E,hnn,hid,M⟩;have hq_n73:=hnn;refine zE fun _ V=>?_
  obtain⟨cl,h⟩:=h;obtain⟨v75,cm,h⟩:=aC h;have f76:=aU cl cm;simp[E,f76,-ax];apply V;refine zF fun _ V=>?_
  obtain⟨a4,h⟩:=h;obtain⟨e,co,h⟩:=aC h;obtain⟨eg,el,em,cp,t,W,u,a5,cs,es,c0,ev,A,c1⟩:=Sep.D5 (q:=i11.toNat) (f:=(aA.cells true)) M a4 co rfl;simp only[au.arr.injEq] at t;obtain⟨t,hln93,-⟩:=t;subst t;replace u:=u.trans hln93.symm;obtain⟨c2,a9,F,t⟩:=ED (by simpa using cs);subst t;replace A:Sep _ _ [(.c,c2,int e.control),(.c,a9,int e.parent),(.s [.c],F,.list true (e.links.map ay))] cp:=A;obtain rfl:=Sep.FI (K1:=[]) (K2:=[(.c,a9,int e.parent),(.s [.c],F,.list true (e.links.map ay))]) A;obtain rfl:=Sep.FI (K1:=[(.c,int e.control,int e.control)]) (K2:=[(.s [.c],F,.list true (e.links.map ay))]) A;have f97:=cP (k:=.i64) (off:=0) (len:=d.length) bK W u rfl (by rw[hln93];exact a4);obtain⟨c3,h⟩:=h;obtain⟨X,bd,h⟩:=aC h;simp[E,W,u,a5,f97,-aw];refine bE.ll (v:=F) aH (mb e.links v75 c3) e47 (Sep.front (K1:=[(.c,int e.control,int e.control),(.c,int e.parent,int e.parent)]) (K2:=[]) A) (by decide) (by decide) rfl (by simp[E,W,u,a5,f97,-aw]) ?_;rintro _ Y n101 _ ⟨rfl,rfl⟩ spx c6 hfrW102;rw[<- bd] at spx;rw[<- bd];obtain⟨ab,c7,h⟩:=aC h;replace M:=c1 Y n101 (aA.mk e.control e.parent X.1) (Sep.qM (K1:=[(.c,int e.control,int e.control),(.c,int e.parent,int e.parent)]) (K2:=[]) spx) rfl hfrW102 c6;have c9:=fun i hi=>hfrW102 i (c0 i hi)
  replace M:Sep Y n101 (oN (.arr l d.length 0 d.length) ab::K0) (aS):=by rw[c7];exact M
  have hid:∀ i ∈ aS,Y i=H0 i:=fun i hi=>(c9 i (by simp[hi])).trans (hid i hi)
  have hnn:n0<=n101:=by omega
  have hq_n101:=hnn;simp[E,f97,-aw];apply V;refine J.cut (fun O H n=>(O 0 = .arr l d.length 0 d.length/\O 1=int X.2/\O 5=int i11)/\n0<=n/\(∀ i ∈ aS,H i=H0 i)/\Sep H n (oN (.arr l d.length 0 d.length) ab::K0) (aS)) (by refine⟨?_,(by omega),hid,M⟩<;>simp[E,f97,-aw]) ?_;clear E;rintro O H n107 ⟨E,hnn,hid,M⟩;have hq_n107:=hnn;refine zI fun _ V=>?_
  obtain⟨da,h⟩:=h;obtain⟨v109,dc,h⟩:=aC h;have f110:=aU da dc;simp[E,f110,-ax];apply V;refine be (X.2,v109,ab) _ _ _ h (by refine⟨?_,(by omega),hid,M⟩<;>simp[E])
 replace h:=h.2 o;refine J.exit rfl ?_;refine zE fun _ V=>?_
 simp[E,o];apply V;exact J.bg (v:=int k10) func46 results46 (by simp[E,o]) (hQ _ _ _ _ (Sep.sub M (by simp +contextual)) hid (by omega) ⟨(d,k10),h,rfl,rfl⟩)
theorem uP (a:List aA) (k_:Int) (hp:jP a k_):ej prog 46 (fun v=>[v,int k_]) (.s [.c,.c,.s [.c]]) (.list true (a.map (aA.cells true))) (fun e' r=>e' = .list true (((iy a k_).1).map (aA.cells true))/\r=int ((iy a k_).2)):=(qQ a k_ _ (vq a k_ hp)).mono (by rintro _ _ ⟨_,rfl,rfl,rfl⟩;exact⟨rfl,rfl⟩)
theorem e14:aW prog 14:=aW.of func14 (by kernel_rfl) rfl
theorem vo (a:aD) (k_:Int) (Z:(aD × Int)->Prop) (h:kP a k_ Z):ej prog 14 (fun v=>[v,int k_]) (.a [.c,.s [.c,.c,.s [.c]],.s [.c],.c,.s [.c],.s [.c,.c]]) (.agg (bC true a)) (fun e' r=>∃ y:aD × Int,Z y/\e' = .agg (bC true y.1)/\r=int y.2):=by
 unfold kP at h;refine ej.of func14 rfl ntmps14 (fun _=>by simp) fun H0 n0 v0 K0 aS M Q hQ=>?_
 have h00:=M.1;have hid:∀ i ∈ aS,H0 i=H0 i:=fun _ _=>rfl
 have hnn:n0<=n0:=Nat.le_refl _;replace M:=Sep.unpack M;obtain⟨L0,hv,hl0,M⟩:=M;subst hv;obtain⟨a0_,a1_,a2_,a3_,a4_,a5_,hv⟩:=kS (by simpa using hl0);subst hv;simp only[fu,List.cons_append,List.nil_append] at M;replace M:=Sep.scalar M;obtain⟨hv,M⟩:=M;subst hv;replace M:=Sep.nF M;replace M:=Sep.nF M;replace M:=Sep.scalar M;obtain⟨hv,M⟩:=M;subst hv;replace M:=Sep.nF M;replace M:=Sep.nF M;try simp only[List.append_eq,List.cons_append,List.nil_append,List.append_assoc] at M
 replace M:=Sep.swap (K1:=K0) M;simp only[List.cons_append,List.nil_append] at M;refine J.cut (fun O H n=>(O 0 = .agg [int a.roots,a1_,a2_,int a.edges,a4_,a5_]/\O 1=int k_)/\n0<=n/\(∀ i ∈ aS,H i=H0 i)/\Sep H n (oN a1_ a.nodes::oI a2_ a.sites::oS a4_ a.outer::oW a5_ a.inner::K0) (aS)) (by refine⟨?_,(by omega),hid,M⟩<;>simp ) ?_;rintro O H n5 ⟨E,hnn,hid,M⟩;have hq_n5:=hnn;refine zE fun _ V=>?_
 have f6:=Sep.oc M;have f7:=Sep.oc M.f1;have f8:=Sep.oc M.f2;have f9:=Sep.oc M.f3;simp[E,f6,f7,f8,f9,-aK,-aT,du,cx];apply V;refine J.cut (fun O H n=>(O 1=int k_/\O 2=pA n5 2)/\H (n5,2)=some ⟨6,[[int a.roots,a1_,a2_,int a.edges,a4_,a5_]]⟩/\n0<=n/\(∀ i ∈ aS,H i=H0 i)/\Sep H n (oN a1_ a.nodes::oI a2_ a.sites::oS a4_ a.outer::oW a5_ a.inner::K0) ((n5,2)::aS)) (by refine⟨?_,?_,(by omega),(by intro i hi;have hlt:=h00 i (by simp[hi]);repeat (first | exact hid i hi | rw[az.aJ _ _ (by rintro rfl;simp at hlt;omega)])),M.var⟩<;>simp[E,f6,f7,f8,f9,-aK,-aT,du,cx]) ?_;clear E;rintro O H n11 ⟨E,b,hnn,hid,M⟩;have hq_n11:=hnn;refine zE fun _ V=>?_
 obtain⟨K,h⟩:=h;obtain⟨d,l,h⟩:=aC h;have f14:=Sep.oc M;simp[E,b,f14,-aK,-aT,du,cx];refine bE.ll (v:=a1_) aH (uP a.nodes k_ K) e46 M (by decide) (by decide) rfl (by simp[E,b,f14,-aK,-aT,du,cx]) ?_;rintro _ o n16 _ ⟨rfl,rfl⟩ M T p;rw[<- l] at M;rw[<- l];replace M:Sep o n16 (oN a1_ d.1::oI a2_ a.sites::oS a4_ a.outer::oW a5_ a.inner::K0) ((n5,2)::aS):=M;have hid:∀ i ∈ aS,o i=H0 i:=fun i hi=>(p i (by simp[hi])).trans (hid i hi)
 have hnn:n0<=n16:=by omega
 have hq_n16:=hnn;have b:=(p _ (by simp)).trans b;simp[E,b,f14,-aK,-aT,du,cx];apply V;refine J.cut (fun O H n=>(O 1=int d.2/\O 2=pA n5 2)/\H (n5,2)=some ⟨6,[[int a.roots,a1_,a2_,int a.edges,a4_,a5_]]⟩/\n0<=n/\(∀ i ∈ aS,H i=H0 i)/\Sep H n (oN a1_ d.1::oI a2_ a.sites::oS a4_ a.outer::oW a5_ a.inner::K0) ((n5,2)::aS)) (by refine⟨?_,?_,(by omega),hid,M⟩<;>simp[E,b,f14,-aK,-aT,du,cx]) ?_;clear E b;rintro O H n20 ⟨E,b,hnn,hid,M⟩;have hq_n20:=hnn;refine zE fun _ V=>?_
 obtain⟨L,h⟩:=h;obtain⟨e,q,h⟩:=aC h;have f23:=Sep.oc M.f1;simp[E,b,f23,-aK,-aT,du,cx];refine bE.ll (v:=a2_) aH (mb a.sites d.2 L) e47 M.f1 (by decide) (by decide) rfl (by simp[E,b,f23,-aK,-aT,du,cx]) ?_;rintro _ t n25 _ ⟨rfl,rfl⟩ M W u;rw[<- q] at M;rw[<- q];replace M:Sep t n25 (oI a2_ e.1::oN a1_ d.1::oS a4_ a.outer::oW a5_ a.inner::K0) ((n5,2)::aS):=M;have hid:∀ i ∈ aS,t i=H0 i:=fun i hi=>(u i (by simp[hi])).trans (hid i hi)
 have hnn:n0<=n25:=by omega
 have hq_n25:=hnn;have b:=(u _ (by simp)).trans b;simp[E,b,f23,-aK,-aT,du,cx];apply V;refine J.cut (fun O H n=>(O 1=int e.2/\O 2=pA n5 2)/\H (n5,2)=some ⟨6,[[int a.roots,a1_,a2_,int a.edges,a4_,a5_]]⟩/\n0<=n/\(∀ i ∈ aS,H i=H0 i)/\Sep H n (oI a2_ e.1::oN a1_ d.1::oS a4_ a.outer::oW a5_ a.inner::K0) ((n5,2)::aS)) (by refine⟨?_,?_,(by omega),hid,M⟩<;>simp[E,b,f23,-aK,-aT,du,cx]) ?_;clear E b;rintro O H n29 ⟨E,b,hnn,hid,M⟩;have hq_n29:=hnn;refine zE fun _ V=>?_
 obtain⟨N,h⟩:=h;obtain⟨g,A,h⟩:=aC h;have f32:=Sep.oc M.f2;simp[E,b,f32,-aK,-aT,du,cx];refine bE.ll (v:=a4_) aH (r0 a.outer e.2 N) e48 M.f2 (by decide) (by decide) rfl (by simp[E,b,f32,-aK,-aT,du,cx]) ?_;rintro _ B n34 _ ⟨rfl,rfl⟩ M X C;rw[<- A] at M;rw[<- A];replace M:Sep B n34 (oS a4_ g.1::oI a2_ e.1::oN a1_ d.1::oW a5_ a.inner::K0) ((n5,2)::aS):=M;have hid:∀ i ∈ aS,B i=H0 i:=fun i hi=>(C i (by simp[hi])).trans (hid i hi)
 have hnn:n0<=n34:=by omega
 have hq_n34:=hnn;have b:=(C _ (by simp)).trans b;simp[E,b,f32,-aK,-aT,du,cx];apply V;refine J.cut (fun O H n=>(O 1=int g.2/\O 2=pA n5 2)/\H (n5,2)=some ⟨6,[[int a.roots,a1_,a2_,int a.edges,a4_,a5_]]⟩/\n0<=n/\(∀ i ∈ aS,H i=H0 i)/\Sep H n (oS a4_ g.1::oI a2_ e.1::oN a1_ d.1::oW a5_ a.inner::K0) ((n5,2)::aS)) (by refine⟨?_,?_,(by omega),hid,M⟩<;>simp[E,b,f32,-aK,-aT,du,cx]) ?_;clear E b;rintro O H n38 ⟨E,b,hnn,hid,M⟩;have hq_n38:=hnn;refine zE fun _ V=>?_
 obtain⟨R,h⟩:=h;obtain⟨j,D,h⟩:=aC h;have f41:=Sep.oc M.f3;simp[E,b,f41,-aK,-aT,du,cx];refine bE.ll (v:=a5_) aH (uG a.inner g.2 R) e49 M.f3 (by decide) (by decide) rfl (by simp[E,b,f41,-aK,-aT,du,cx]) ?_;rintro _ F n43 _ ⟨rfl,rfl⟩ M Y G;rw[<- D] at M;rw[<- D];replace M:Sep F n43 (oW a5_ j.1::oS a4_ g.1::oI a2_ e.1::oN a1_ d.1::K0) ((n5,2)::aS):=M;have hid:∀ i ∈ aS,F i=H0 i:=fun i hi=>(G i (by simp[hi])).trans (hid i hi)
 have hnn:n0<=n43:=by omega
 have hq_n43:=hnn;have b:=(G _ (by simp)).trans b;simp[E,b,f41,-aK,-aT,du,cx];apply V;refine J.cut (fun O H n=>O 1=int j.2/\n0<=n/\(∀ i ∈ aS,H i=H0 i)/\Sep H n (oW a5_ j.1::oS a4_ g.1::oI a2_ e.1::oN a1_ d.1::K0) (aS)) (by refine⟨?_,(by omega),hid,(Sep.sub M (by simp +contextual))⟩<;>simp[E,b,f41,-aK,-aT,du,cx]) ?_;clear E b;rintro O H n47 ⟨E,hnn,hid,M⟩;have hq_n47:=hnn;refine zE fun _ V=>?_
 simp[E];apply V;exact J.bg (v:=int j.2) func14 results14 (by simp[E]) (hQ _ _ _ _ (Sep.sub (Sep.pack (aV.v _ (aV.own (aV.own (aV.v _ (aV.own (aV.own aV.nil)))))) M.f1.f2.f3) (by simp +contextual)) hid (by omega) ⟨((aD.mk a.roots d.1 e.1 a.edges g.1 j.1),j.2),h,rfl,rfl⟩)
theorem qW (a:aD) (k_:Int) (hp:gC a k_):ej prog 14 (fun v=>[v,int k_]) (.a [.c,.s [.c,.c,.s [.c]],.s [.c],.c,.s [.c],.s [.c,.c]]) (.agg (bC true a)) (fun e' r=>e' = .agg [int (((dX a k_).1).roots),.list true ((((dX a k_).1).nodes).map (aA.cells true)),.list true ((((dX a k_).1).sites).map ay),int (((dX a k_).1).edges),.list true ((((dX a k_).1).outer).map bm),.list true ((((dX a k_).1).inner).map aQ.cells)]/\r=int ((dX a k_).2)):=(vo a k_ _ (yD a k_ hp)).mono (by rintro _ _ ⟨_,rfl,rfl,rfl⟩;exact⟨rfl,rfl⟩)
end Go.Ab.Vg
namespace Go.Ab.Vg
open Go.Proofs
set_option maxRecDepth 100000
end Go.Ab.Vg
namespace Go.Ab.Vg
open Go.Proofs
set_option maxRecDepth 100000
end Go.Ab.Vg
namespace Go.Ab.Vg
open Go.Proofs
set_option maxRecDepth 100000
end Go.Ab.Vg
namespace Go.Ab.Vg
open Go.Proofs
set_option maxRecDepth 100000
end Go.Ab.Vg
namespace Go.Ab.Vg
open Go.Proofs
set_option maxRecDepth 100000
end Go.Ab.Vg
namespace Go.Ab.Vg
open Go.Proofs
set_option maxRecDepth 100000
theorem e33:aW prog 33:=aW.of func33 (by kernel_rfl) rfl
theorem yX (l:List Int) (h:l.length<=1073741824):ej prog 33 (fun v=>[v]) (.s [.c]) (.list true (l.map ay)) (fun e r=>e = .list true ((lT l).1.map ay)/\r = .tup []):=ej.sortI (by omega) (fun blk off cap w hH hb=>Tryz.slices_Sort_int blk off cap l w hH hb (by omega)) (fun w=>(Tryz.slices_Sort_int_none none 0 w).mono (by rintro e w' ⟨h1,h2⟩;exact⟨h1,h2 ▸ Go.RowKit.Below.refl _ _⟩))
end Go.Ab.Vg
namespace Go.Ab
theorem je.pN {n:Nat} {a:au} (h:je a):pU n a:=by
 induction h with
 | v x=>exact .v x
 | agg cs _ ih=>exact .agg cs ih
 | tup cs _ ih=>exact .tup cs ih
 | list fr els _ ih=>exact .list fr els ih
 | iface t a _ ih=>exact .iface t a ih
section
variable {H:az} {n:Nat}
end
section
variable {P:Program} {f:FuncId} {N:Nat} {k:List Item} {Q:au->az->Nat->Prop} {Ty:Types} {l:List Oper} {O:Env} {H:az} {n:Nat}
theorem bE.callQ (hT:aX P Ty) {d:Option Tmp} {g:Operand} {args:Array Operand} {ats:Array TypeId} {ty:TypeId} {pos:String} {af:Array Edge} {R:au->Prop} {f':FuncId} {as1 bs:List au} {ops:List Oper}
  (h:jV P f' bs R) (cK:aW P f') (hs:lM as1 bs)
  (hN:ops.all (fun o=>dM N o.dst)=true) (hl:(⟨d,.call ⟨.value g,args,ats⟩,ty,pos,af,none⟩::l:List Oper).all (fun o=>dM N o.dst)=true) (hg:O.ev g = .fn (.func f') [] []) (has:args.toList.map O.ev=as1)
  (hk:∀ v,R v->bR P f N k Q Ty ops.toArray l (O.put d v) H n) :
  bE P f N k Q ops.toArray (⟨d,.call ⟨.value g,args,ats⟩,ty,pos,af,none⟩::l) O H n:=bE.callH hT h cK hs hN hl hg has hk
end
end Go.Ab
