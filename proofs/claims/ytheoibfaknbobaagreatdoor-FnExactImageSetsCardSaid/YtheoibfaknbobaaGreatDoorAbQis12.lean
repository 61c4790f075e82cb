/- Merged texts (12 of 16) of the proof that ends in Isy: Maw ae Mbw. -/
import Derived.Test.YtheoibfaknbobaaGreatDoorAbQis11
open Go.Proofs.Tryz
set_option linter.unusedSimpArgs false
set_option linter.unusedVariables false
namespace Go.Ab.Vg
open Go.Proofs
set_option maxRecDepth 100000
attribute [local simp] Control.cells aA.cells aQ.cells ay cb aI bm bC pA
theorem e156:aW prog 156:=aW.of func156 (by kernel_rfl) rfl
theorem uR (b:aD) (link:Int) (Z:(List (Int × Int))->Prop) (h:kU b link Z):br prog 156 [.agg (bC false b),int link] (.s [.c,.c]) (fun r=>∃ y:List (Int × Int),Z y/\r = .list true (y.map cb)):=by
 unfold kU at h;have M:Sep bA 0 [] []:=Sep.nil (by simp);refine br.of func156 rfl ntmps156 (by simp) fun Q hQ=>?_
 refine J.cut (fun O H n=>(O 0 = .agg (bC false b)/\O 1=int link)/\Sep H n [] []) (by refine⟨by simp ,M⟩) ?_;rintro O H U ⟨E,M⟩;refine zE fun _ V=>?_
 simp[E];apply V;refine J.cut (fun O H n=>((O 1=int link/\O 2=pA U 2)/\H (U,2)=some ⟨6,[bC false b]⟩)/\Sep H n [] [(U,2)]) (by refine⟨by simp[E],M.var⟩) ?_;clear E;rintro O H n3 ⟨⟨E,a⟩,M⟩;refine zE fun _ V=>?_
 simp[E,a];apply V;refine J.cut (fun O H n=>∃ (v5:au),((O 1=int link/\O 2=pA U 2/\O 5=v5)/\H (U,2)=some ⟨6,[bC false b]⟩)/\Sep H n [oE [.c,.c] cb v5 ([]:List (Int × Int))] [(U,2)]) (by refine⟨.arr (n3,8) 0 0 0,by simp[E,a],(Sep.addEmpty (l:=[.c,.c]) M)⟩) ?_;clear E a;rintro O H n6 ⟨v5,⟨E,a⟩,M⟩;refine zS fun _ V=>?_
 simp[E,a];apply V;apply J.block;refine J.aG h (fun (sJ:Int × (List (Int × Int))) O H n=>match sJ with | (i14,p)=>∃ (i:au),((O 1=int link/\O 2=pA U 2/\O 5=i/\O 6=int i14)/\H (U,2)=some ⟨6,[bC false b]⟩)/\Sep H n [oE [.c,.c] cb i p] [(U,2)]) (by refine⟨v5,by simp[E,a],M⟩) ?_;clear E a;rintro⟨i14,p⟩ O H n17 K h ⟨i,⟨E,a⟩,M⟩ C;refine zS fun _ V=>?_
 obtain⟨bd,D,h⟩:=aC h;have f21:=fun H=>aE (H:=H) (fr:=false) (f:=(aA.cells false)) bK D
 obtain⟨F,G,h⟩:=aC h;have f23:=aY (k:=.i64) G;simp[E,a,f21,f23,-ax,-aP];apply V;refine J.ite (b:=F) (by simp[E,a]) (fun e=>?_) (fun e=>?_)
 ·replace h:=h.1 e;apply zK;apply J.block;refine zE fun _ V=>?_
  simp[E,a,e];apply V;apply J.block;refine J.aG h (fun (sJ:Int × (List (Int × Int))) O H n=>match sJ with | (k31,j)=>∃ (v33:au),((O 1=int link/\O 2=pA U 2/\O 5=v33/\O 6=int i14/\O 7=int k31)/\H (U,2)=some ⟨6,[bC false b]⟩)/\Sep H n [oE [.c,.c] cb v33 j] [(U,2)]) (by refine⟨i,by simp[E,a,e],M⟩) ?_;clear E a;rintro⟨k31,j⟩ O H n34 K h ⟨v33,⟨E,a⟩,M⟩ u;refine zS fun _ V=>?_
  obtain⟨L,h⟩:=h;obtain⟨be,q,h⟩:=aC h;have f39:=fun H=>aL (H:=H) (fr:=false) (f:=(aA.cells false)) (k:=.i64) bK (fun _=>rfl) L q
  obtain⟨bi,N,h⟩:=aC h;have f41:=fun H=>aE (H:=H) (fr:=false) (f:=ay) aR N
  obtain⟨R,T,h⟩:=aC h;have f43:=aY (k:=.i64) T;simp[E,a,f39,f41,f43,-aw,-ax,-aP];apply V;refine J.ite (b:=R) (by simp[E,a]) (fun g=>?_) (fun g=>?_)
  ·replace h:=h.1 g;apply zK;apply J.block;refine zE fun _ V=>?_
   obtain⟨W,h⟩:=h;obtain⟨bk,X,h⟩:=aC h;have Y:=q.trans X.symm;subst Y;have f47:=fun H=>aL (H:=H) (fr:=false) (f:=(aA.cells false)) (k:=.i64) bK (fun _=>rfl) W q
   obtain⟨ab,h⟩:=h;obtain⟨bs,ac,h⟩:=aC h;have f50:=fun H=>aL (H:=H) (fr:=false) (f:=ay) (k:=.i64) aR (fun _=>rfl) ab ac
   obtain⟨A,ad,h⟩:=aC h;have f52:=cA (k:=.i64) ad;simp[E,a,f47,f50,f52,g,-aw,-ax];apply V;refine J.cut (fun O H n=>∃ (v53:au),((O 1=int link/\O 2=pA U 2/\O 5=v53/\O 6=int i14/\O 7=int k31/\O 37=bool A)/\H (U,2)=some ⟨6,[bC false b]⟩)/\Sep H n [oE [.c,.c] cb v53 j] [(U,2)]) (by refine⟨v33,by simp[E,a,f47,f50,f52,g,-aw,-ax],M⟩) ?_;clear E a;rintro O H bv ⟨v53,⟨E,a⟩,M⟩;refine J.ite (b:=A) (by simp[E,a]) (fun d=>?_) (fun d=>?_)
   ·replace h:=h.1 d;refine zF fun _ V=>?_
    obtain⟨af,h⟩:=h;obtain⟨t,am,h⟩:=aC h;simp[E,a,d,-bq];refine cv [] [] [[int i14,int k31]] [cb (i14,k31)] M fJ (by simp) (by simp) (by simp) (by simp[-aT,cx]) (cM (aV.v _ (aV.v _ aV.nil))) (by simp) (by simpa using af) ?_;rintro B ao n59 M av b0;replace M:Sep ao n59 [oE [.c,.c] cb B t] [(U,2)]:=Sep.ap am M;have a:=(av _ (by simp)).trans a;simp[E,a,d];apply V;refine J.cut (fun O H n=>∃ (o:au),((O 1=int link/\O 2=pA U 2/\O 5=o/\O 6=int i14/\O 7=int k31)/\H (U,2)=some ⟨6,[bC false b]⟩)/\Sep H n [oE [.c,.c] cb o t] [(U,2)]) (by refine⟨B,by simp[E,a,d],M⟩) ?_;clear E a;rintro O H b1 ⟨o,⟨E,a⟩,M⟩;refine zI fun _ V=>?_
    obtain⟨a0,h⟩:=h;obtain⟨v66,a1,h⟩:=aC h;have f67:=aU a0 a1;simp[E,a,f67,-ax];apply V;refine u (v66,t) _ _ _ h (by refine⟨o,by simp[E,a],M⟩)
   replace h:=h.2 d;apply J.skip;refine zI fun _ V=>?_
   obtain⟨a2,h⟩:=h;obtain⟨a3,a4,h⟩:=aC h;have f70:=aU a2 a4;simp[E,a,f70,d,-ax];apply V;refine u (a3,j) _ _ _ h (by refine⟨v53,by simp[E,a,d],M⟩)
  replace h:=h.2 g;refine J.exit rfl ?_;refine zI fun _ V=>?_
  obtain⟨a5,h⟩:=h;obtain⟨v72,a9,h⟩:=aC h;have f73:=aU a5 a9;simp[E,a,f73,g,-ax];apply V;refine C (v72,j) _ _ _ h (by refine⟨v33,by simp[E,a,g],M⟩)
 replace h:=h.2 e;refine J.exit rfl ?_;refine zE fun _ V=>?_
 simp[E,a,e];apply V;exact J.bg (v:=i) func156 results156 (by simp[E,a,e]) (hQ _ _ _ _ (Sep.sub (dD:=[]) M (by simp)) ⟨p,h,rfl⟩)
theorem ny (b:aD) (link:Int) (hp:gD b link):br prog 156 [.agg (bC false b),int link] (.s [.c,.c]) (fun r=>r = .list true ((jI b link).map cb)):=(uR b link _ (zi b link hp)).mono (by rintro _ ⟨_,rfl,rfl⟩;rfl)
theorem e157:aW prog 157:=aW.of func157 (by kernel_rfl) rfl
theorem x6 (b:aD) (link:Int) (Z:(List cB)->Prop) (h:mr b link Z):br prog 157 [.agg (bC false b),int link] (.s [.c]) (fun r=>∃ y:List cB,Z y/\r = .list true (y.map bm)):=by
 unfold mr at h;have M:Sep bA 0 [] []:=Sep.nil (by simp);refine br.of func157 rfl ntmps157 (by simp) fun Q hQ=>?_
 refine J.cut (fun O H n=>(O 0 = .agg (bC false b)/\O 1=int link)/\Sep H n [] []) (by refine⟨by simp ,M⟩) ?_;rintro O H U ⟨E,M⟩;refine zE fun _ V=>?_
 simp[E];apply V;refine J.cut (fun O H n=>((O 1=int link/\O 2=pA U 2)/\H (U,2)=some ⟨6,[bC false b]⟩)/\Sep H n [] [(U,2)]) (by refine⟨by simp[E],M.var⟩) ?_;clear E;rintro O H n3 ⟨⟨E,a⟩,M⟩;refine zE fun _ V=>?_
 simp[E,a];apply V;refine J.cut (fun O H n=>∃ (v5:au),((O 1=int link/\O 2=pA U 2/\O 5=v5)/\H (U,2)=some ⟨6,[bC false b]⟩)/\Sep H n [oS v5 ([]:List cB)] [(U,2)]) (by refine⟨.arr (n3,7) 0 0 0,by simp[E,a],(Sep.addEmpty (l:=[.c]) M)⟩) ?_;clear E a;rintro O H n6 ⟨v5,⟨E,a⟩,M⟩;refine zS fun _ V=>?_
 simp[E,a];apply V;apply J.block;refine J.aG h (fun (sJ:Int × (List cB)) O H n=>match sJ with | (i14,g)=>∃ (i:au),((O 1=int link/\O 2=pA U 2/\O 5=i/\O 6=int i14)/\H (U,2)=some ⟨6,[bC false b]⟩)/\Sep H n [oS i g] [(U,2)]) (by refine⟨v5,by simp[E,a],M⟩) ?_;clear E a;rintro⟨i14,g⟩ O H n17 K h ⟨i,⟨E,a⟩,M⟩ p;refine zS fun _ V=>?_
 obtain⟨af,u,h⟩:=aC h;have f21:=fun H=>aE (H:=H) (fr:=false) (f:=aQ.cells) jk u
 obtain⟨A,B,h⟩:=aC h;have f23:=aY (k:=.i64) B;simp[E,a,f21,f23,-ax,-aP];apply V;refine J.ite (b:=A) (by simp[E,a]) (fun d=>?_) (fun d=>?_)
 ·replace h:=h.1 d;apply zK;apply J.block;refine zE fun _ V=>?_
  obtain⟨C,h⟩:=h;obtain⟨q,j,h⟩:=aC h;have f26:=fun H=>aL (H:=H) (fr:=false) (f:=aQ.cells) (k:=.i64) jk (fun _=>rfl) C j
  obtain⟨D,F,h⟩:=aC h;have f28:=cA (k:=.i64) F;simp[E,a,f26,f28,d,-aw,-ax];apply V;refine J.ite (b:=D) (by simp[E,a,d]) (fun e=>?_) (fun e=>?_)
  ·replace h:=h.1 e;refine zF fun _ V=>?_
   obtain⟨G,h⟩:=h;obtain⟨am,L,h⟩:=aC h;have N:=j.trans L.symm;subst N;have f32:=fun H=>aL (H:=H) (fr:=false) (f:=aQ.cells) (k:=.i64) jk (fun _=>rfl) G j
   obtain⟨R,h⟩:=h;obtain⟨o,T,h⟩:=aC h;simp[E,a,f32,d,e,-aw,-bq];refine cv [] [] [[str q.name]] [bm q.name] M iY (by simp) (by simp) (by simp) (by simp[-aT,cx]) (cM (aV.v _ aV.nil)) (by simp) (by simpa using R) ?_;rintro v35 W n37 M X ao;replace M:Sep W n37 [oS v35 o] [(U,2)]:=Sep.ap T M;have a:=(X _ (by simp)).trans a;simp[E,a,f32,d,e,-aw];apply V;refine J.cut (fun O H n=>∃ (v41:au),((O 1=int link/\O 2=pA U 2/\O 5=v41/\O 6=int i14)/\H (U,2)=some ⟨6,[bC false b]⟩)/\Sep H n [oS v41 o] [(U,2)]) (by refine⟨v35,by simp[E,a,f32,d,e,-aw],M⟩) ?_;clear E a;rintro O H n42 ⟨v41,⟨E,a⟩,M⟩;refine zI fun _ V=>?_
   obtain⟨Y,h⟩:=h;obtain⟨v44,ab,h⟩:=aC h;have f45:=aU Y ab;simp[E,a,f45,-ax];apply V;refine p (v44,o) _ _ _ h (by refine⟨v41,by simp[E,a],M⟩)
  replace h:=h.2 e;apply J.skip;refine zI fun _ V=>?_
  obtain⟨ac,h⟩:=h;obtain⟨t,ad,h⟩:=aC h;have f48:=aU ac ad;simp[E,a,f48,d,e,-ax];apply V;refine J.cut (fun O H n=>∃ (v49:au),((O 1=int link/\O 2=pA U 2/\O 5=v49/\O 6=int t)/\H (U,2)=some ⟨6,[bC false b]⟩)/\Sep H n [oS v49 g] [(U,2)]) (by refine⟨i,by simp[E,a,f48,d,e,-ax],M⟩) ?_;clear E a;rintro O H n50 ⟨v49,⟨E,a⟩,M⟩;refine p (t,g) _ _ _ h (by refine⟨v49,by simp[E,a],M⟩)
 replace h:=h.2 d;refine J.exit rfl ?_;refine zE fun _ V=>?_
 simp[E,a,d];apply V;exact J.bg (v:=i) func157 results157 (by simp[E,a,d]) (hQ _ _ _ _ (Sep.sub (dD:=[]) M (by simp)) ⟨g,h,rfl⟩)
theorem B1 (b:aD) (link:Int) (hp:nA b link):br prog 157 [.agg (bC false b),int link] (.s [.c]) (fun r=>r = .list true ((z7 b link).map bm)):=(x6 b link _ (Bp b link hp)).mono (by rintro _ ⟨_,rfl,rfl⟩;rfl)
theorem e146:aW prog 146:=aW.of func146 (by kernel_rfl) rfl
theorem th (b:aD) (link:Int) (Z:((List (Int × Int)) × (List cB))->Prop) (h:jl b link Z):br prog 146 [.agg (bC false b),int link] (.t [.s [.c,.c],.s [.c]]) (fun r=>∃ y:(List (Int × Int)) × (List cB),Z y/\r = .tup [.list true (y.1.map cb),.list true (y.2.map bm)]):=by
 unfold jl at h;have M:Sep bA 0 [] []:=Sep.nil (by simp);refine br.of func146 rfl ntmps146 (by simp) fun Q hQ=>?_
 refine J.cut (fun O H n=>(O 0 = .agg (bC false b)/\O 1=int link)/\Sep H n [] []) (by refine⟨by simp ,M⟩) ?_;rintro O H U ⟨E,M⟩;refine zE fun _ V=>?_
 simp[E];apply V;refine J.cut (fun O H n=>((O 1=int link/\O 2=pA U 2)/\H (U,2)=some ⟨6,[bC false b]⟩)/\Sep H n [] [(U,2)]) (by refine⟨by simp[E],M.var⟩) ?_;clear E;rintro O H n3 ⟨⟨E,a⟩,M⟩;refine zE fun _ V=>?_
 simp[E,a];apply V;refine J.cut (fun O H n=>∃ (v6 v7:au),((O 1=int link/\O 2=pA U 2/\O 6=v7/\O 7=v6)/\H (U,2)=some ⟨6,[bC false b]⟩)/\Sep H n [oS v6 ([]:List cB),oE [.c,.c] cb v7 ([]:List (Int × Int))] [(U,2)]) (by refine⟨.arr (n3+1,15) 0 0 0,.arr (n3,14) 0 0 0,by simp[E,a],(Sep.addEmpty (l:=[.c]) (Sep.addEmpty (l:=[.c,.c]) M))⟩) ?_;clear E a;rintro O H n8 ⟨v6,v7,⟨E,a⟩,M⟩;refine zS fun _ V=>?_
 obtain⟨iJ,elen9,h⟩:=aC h;have f10:=fun H=>aE (H:=H) (fr:=false) (f:=(aA.cells false)) bK elen9
 simp[E,a,f10,-aP];apply V;apply J.block;refine J.aG h (fun (sJ:Int × (List (Int × Int))) O H n=>match sJ with | (v20,g)=>∃ (v22 v23:au),((O 1=int link/\O 2=pA U 2/\O 6=v23/\O 7=v22/\O 17 = .list false (b.nodes.map (aA.cells false))/\O 18=int iJ/\O 19=int v20)/\H (U,2)=some ⟨6,[bC false b]⟩)/\Sep H n [oS v22 ([]:List cB),oE [.c,.c] cb v23 g] [(U,2)]) (by refine⟨v6,v7,by simp[E,a],M⟩) ?_;clear E a;rintro⟨v20,g⟩ O H n24 K h ⟨v22,v23,⟨E,a⟩,M⟩ a1;refine zE fun _ V=>?_
 obtain⟨a2,a3,h⟩:=aC h;have f28:=aY (k:=.i64) a3;simp[E,a,f28,-ax];apply V;apply J.seq;refine J.ite (b:=a2) (by simp[E,a]) (fun p=>?_) (fun p=>?_)
 ·replace h:=h.1 p;apply zK;apply J.block;refine zE fun _ V=>?_
  obtain⟨a4,h⟩:=h;obtain⟨u,a5,h⟩:=aC h;have f31:=fun H=>aL (H:=H) (fr:=false) (f:=(aA.cells false)) (k:=.i64) bK (fun _=>rfl) a4 a5
  simp[E,a,f31,p,-aw];apply V;refine J.cut (fun O H n=>∃ (v33 F:au),((O 1=int link/\O 2=pA U 2/\O 6=F/\O 7=v33/\O 8=int v20/\O 9=pA n24 9/\O 17 = .list false (b.nodes.map (aA.cells false))/\O 18=int iJ/\O 19=int v20)/\H (U,2)=some ⟨6,[bC false b]⟩/\H (n24,9)=some ⟨3,[[int u.control,int u.parent,.list false (u.links.map ay)]]⟩)/\Sep H n [oS v33 ([]:List cB),oE [.c,.c] cb F g] [(n24,9),(U,2)]) (by refine⟨v22,v23,by simp[E,a,f31,p,-aw],M.var⟩) ?_;clear E a;rintro O H n35 ⟨v33,F,⟨E,a,Y⟩,M⟩;refine zE fun _ V=>?_
  obtain⟨af,a9,h⟩:=aC h;have f37:=fun H=>aE (H:=H) (fr:=false) (f:=ay) aR a9
  simp[E,a,Y,f37,-aP];apply V;apply J.block;refine J.aG h (fun (sJ:Int × (List (Int × Int))) O H n=>match sJ with | (A,G)=>∃ (v49 v50:au),((O 1=int link/\O 2=pA U 2/\O 6=v50/\O 7=v49/\O 8=int v20/\O 17 = .list false (b.nodes.map (aA.cells false))/\O 18=int iJ/\O 19=int v20/\O 25 = .list false (u.links.map ay)/\O 26=int af/\O 27=int A)/\H (U,2)=some ⟨6,[bC false b]⟩)/\Sep H n [oS v49 ([]:List cB),oE [.c,.c] cb v50 G] [(U,2)]) (by refine⟨v33,F,by simp[E,a,Y],(Sep.sub M (by simp +contextual))⟩) ?_;clear E a Y;rintro⟨A,G⟩ O H n51 K h ⟨v49,v50,⟨E,a⟩,M⟩ am;refine zE fun _ V=>?_
  obtain⟨bd,be,h⟩:=aC h;have f55:=aY (k:=.i64) be;simp[E,a,f55,-ax];apply V;apply J.seq;refine J.ite (b:=bd) (by simp[E,a]) (fun d=>?_) (fun d=>?_)
  ·replace h:=h.1 d;apply zK;apply J.block;refine zE fun _ V=>?_
   obtain⟨bi,h⟩:=h;obtain⟨dr,bk,h⟩:=aC h;have f58:=fun H=>aL (H:=H) (fr:=false) (f:=ay) (k:=.i64) aR (fun _=>rfl) bi bk
   simp[E,a,f58,d,-aw];apply V;refine zE fun _ V=>?_
   obtain⟨bs,bv,h⟩:=aC h;have f60:=cA (k:=.i64) bv;simp[E,a,f60,d,-ax];apply V;refine J.ite (b:=bs) (by simp[E,a,d]) (fun i=>?_) (fun i=>?_)
   ·replace h:=h.1 i;refine zF fun _ V=>?_
    obtain⟨b0,h⟩:=h;obtain⟨ab,b1,h⟩:=aC h;simp[E,a,d,i,-bq];refine cv [] [oS v49 ([]:List cB)] [[int v20,int A]] [cb (v20,A)] M.f1 fJ (by simp) (by simp) (by simp) (by simp[-aT,cx]) (cM (aV.v _ (aV.v _ aV.nil))) (by simp) (by simpa using b0) ?_;rintro ao b2 b3 M b5 ds;replace M:Sep b2 b3 [oE [.c,.c] cb ao ab,oS v49 ([]:List cB)] [(U,2)]:=Sep.ap b1 M;have a:=(b5 _ (by simp)).trans a;simp[E,a,d,i];apply V;refine J.cut (fun O H n=>∃ (L v70:au),((O 1=int link/\O 2=pA U 2/\O 6=L/\O 7=v70/\O 8=int v20/\O 17 = .list false (b.nodes.map (aA.cells false))/\O 18=int iJ/\O 19=int v20/\O 25 = .list false (u.links.map ay)/\O 26=int af/\O 27=int A)/\H (U,2)=some ⟨6,[bC false b]⟩)/\Sep H n [oE [.c,.c] cb L ab,oS v70 ([]:List cB)] [(U,2)]) (by refine⟨ao,v49,by simp[E,a,d,i],M⟩) ?_;clear E a;rintro O H d0 ⟨L,v70,⟨E,a⟩,M⟩;refine zI fun _ V=>?_
    obtain⟨b7,h⟩:=h;obtain⟨b8,b9,h⟩:=aC h;have f74:=aU b7 b9;simp[E,a,f74,-ax];apply V;refine am (b8,ab) _ _ _ h (by refine⟨v70,L,by simp[E,a],M.f1⟩)
   replace h:=h.2 i;apply J.skip;refine zI fun _ V=>?_
   obtain⟨cc,h⟩:=h;obtain⟨v76,ce,h⟩:=aC h;have f77:=aU cc ce;simp[E,a,f77,d,i,-ax];apply V;refine am (v76,G) _ _ _ h (by refine⟨v49,v50,by simp[E,a,d,i],M⟩)
  replace h:=h.2 d;refine J.exit rfl ?_;refine zI fun _ V=>?_
  obtain⟨ci,h⟩:=h;obtain⟨v79,cj,h⟩:=aC h;have f80:=aU ci cj;simp[E,a,f80,d,-ax];apply V;refine a1 (v79,G) _ _ _ h (by refine⟨v49,v50,by simp[E,a,d],M⟩)
 replace h:=h.2 p;refine J.exit rfl ?_;refine zS fun _ V=>?_
 obtain⟨ac,ck,h⟩:=aC h;have f82:=fun H=>aE (H:=H) (fr:=false) (f:=aQ.cells) jk ck
 simp[E,a,f82,p,-aP];apply V;apply J.block;refine J.aG h (fun (sJ:Int × (List cB)) O H n=>match sJ with | (N,B)=>∃ (C D:au),(O 1=int link/\O 6=D/\O 7=C/\O 44 = .list false (b.inner.map aQ.cells)/\O 45=int ac/\O 46=int N)/\Sep H n [oS C B,oE [.c,.c] cb D g] []) (by refine⟨v22,v23,by simp[E,a,p],(Sep.sub M (by simp +contextual))⟩) ?_;clear E a;rintro⟨N,B⟩ O H R K h ⟨C,D,E,M⟩ av;refine zE fun _ V=>?_
 obtain⟨cl,cm,h⟩:=aC h;have f100:=aY (k:=.i64) cm;simp[E,f100,-ax];apply V;apply J.seq;refine J.ite (b:=cl) (by simp[E]) (fun j=>?_) (fun j=>?_)
 ·replace h:=h.1 j;apply zK;apply J.block;refine zE fun _ V=>?_
  obtain⟨co,h⟩:=h;obtain⟨T,cp,h⟩:=aC h;have f103:=fun H=>aL (H:=H) (fr:=false) (f:=aQ.cells) (k:=.i64) jk (fun _=>rfl) co cp
  simp[E,f103,j,-aw];apply V;refine J.cut (fun O H n=>∃ (v105 q:au),((O 1=int link/\O 6=q/\O 7=v105/\O 13=pA R 13/\O 44 = .list false (b.inner.map aQ.cells)/\O 45=int ac/\O 46=int N)/\H (R,13)=some ⟨2,[[str T.name,int T.link]]⟩)/\Sep H n [oS v105 B,oE [.c,.c] cb q g] [(R,13)]) (by refine⟨C,D,by simp[E,f103,j,-aw],M.var⟩) ?_;clear E;rintro O H n107 ⟨v105,q,⟨E,e⟩,M⟩;refine zE fun _ V=>?_
  obtain⟨cs,c0,h⟩:=aC h;have f109:=cA (k:=.i64) c0;simp[E,e,f109,-ax];apply V;refine J.ite (b:=cs) (by simp[E,e]) (fun o=>?_) (fun o=>?_)
  ·replace h:=h.1 o;refine zF fun _ V=>?_
   obtain⟨c1,h⟩:=h;obtain⟨ad,c2,h⟩:=aC h;simp[E,e,o,-bq];refine cv [] [oE [.c,.c] cb q g] [[str T.name]] [bm T.name] M iY (by simp) (by simp) (by simp) (by simp[-aT,cx]) (cM (aV.v _ aV.nil)) (by simp) (by simpa using c1) ?_;rintro a0 c3 n114 M c6 d1;replace M:Sep c3 n114 [oS a0 ad,oE [.c,.c] cb q g] [(R,13)]:=Sep.ap c2 M;have e:=(c6 _ (by simp)).trans e;simp[E,e,o];apply V;refine J.cut (fun O H n=>∃ (W X:au),(O 1=int link/\O 6=X/\O 7=W/\O 44 = .list false (b.inner.map aQ.cells)/\O 45=int ac/\O 46=int N)/\Sep H n [oS W ad,oE [.c,.c] cb X g] []) (by refine⟨a0,q,by simp[E,e,o],(Sep.sub M (by simp +contextual))⟩) ?_;clear E e;rintro O H n120 ⟨W,X,E,M⟩;refine zI fun _ V=>?_
   obtain⟨c7,h⟩:=h;obtain⟨c9,da,h⟩:=aC h;have f123:=aU c7 da;simp[E,f123,-ax];apply V;refine av (c9,ad) _ _ _ h (by refine⟨W,X,by simp[E],M⟩)
  replace h:=h.2 o;apply J.skip;refine zI fun _ V=>?_
  obtain⟨dc,h⟩:=h;obtain⟨dk,dl,h⟩:=aC h;have f126:=aU dc dl;simp[E,e,f126,o,-ax];apply V;refine av (dk,B) _ _ _ h (by refine⟨v105,q,by simp[E,e,o],(Sep.sub M (by simp +contextual))⟩)
 replace h:=h.2 j;refine J.exit rfl ?_;refine zE fun _ V=>?_
 simp[E,j];apply V;exact J.j5 (v:=D) (w:=C) func146 results146 (by simp[E,j]) (by simp[E,j]) (hQ _ _ _ _ (Sep.sub (dD:=[]) (Sep.jC (aV.own (aV.own aV.nil)) M.f1) (by simp)) ⟨(g,B),h,rfl⟩)
theorem lB (b:aD) (link:Int) (hp:fF b link):br prog 146 [.agg (bC false b),int link] (.t [.s [.c,.c],.s [.c]]) (fun r=>r = .tup [.list true (((iN b link).1).map cb),.list true (((iN b link).2).map bm)]):=(th b link _ (xG b link hp)).mono (by rintro _ ⟨_,rfl,rfl⟩;rfl)
theorem e134:aW prog 134:=aW.of func134 (by kernel_rfl) rfl
theorem wx (b:aD) (link:Int) (Z:Bool->Prop) (h:mP b link Z):aB prog 134 [.agg (bC false b),int link] (fun r=>∃ y:Bool,Z y/\r=bool y):=by
 unfold mP at h;refine aB.of func134 rfl ntmps134 (by simp) fun Q hQ=>?_
 refine J.cut (fun O H n=>(O 0 = .agg (bC false b)/\O 1=int link)) (by simp) ?_;rintro O H U E;refine zE fun k' V=>?_
 simp[E];apply V;refine J.cut (fun O H n=>(O 1=int link/\O 2=pA U 2)/\H (U,2)=some ⟨6,[bC false b]⟩) (by refine⟨?_,?_⟩<;>simp[E]) ?_;clear E;rintro O H n3 ⟨E,c⟩;refine zE fun k' V=>?_
 obtain⟨J4,hJ5,hr6⟩:=h;have fin8:∀ (sJ:Bool) (O:Env) (H:az) (n:Nat),J4 sJ->(match sJ with | b7=>O 4=bool b7)->J prog 134 17 k' O H n Q:=by
  rintro b7 O H n9 h E;replace h:=hr6 _ h;apply V;exact J.bg (v:=bool b7) func134 results134 (by simp[E]) (hQ _ _ _ _ (.of (.v _)) ⟨b7,h,rfl⟩)
 replace h:=hJ5;obtain⟨d,h⟩:=h;obtain⟨u,e,h⟩:=aC h;simp[E,c];refine zA ((ny b link d).pure) e156 (.cons (bo false b) (.cons (.v _ _ _) .nil)) (by simp[E,c]) ?_;rintro _ rfl;rw[<- e];obtain⟨cD,g,h⟩:=aC h;have f13:=fun H=>aE (H:=H) (fr:=true) (f:=cb) fJ g
 obtain⟨i,j,h⟩:=aC h;have f15:=cA (k:=.i64) j;rcases Bool.eq_false_or_eq_true i with a | a
 ·replace h:=h.1 a;obtain⟨l,h⟩:=h;obtain⟨A,o,h⟩:=aC h;simp[E,c,f13,f15,a,-ax,-aP];refine zA ((B1 b link l).pure) e157 (.cons (bo false b) (.cons (.v _ _ _) .nil)) (by simp[E,c,f13,f15,a,-ax,-aP]) ?_;rintro _ rfl;rw[<- o];obtain⟨B,p,h⟩:=aC h;have f19:=fun H=>aE (H:=H) (fr:=true) (f:=bm) iY p
  obtain⟨q,t,h⟩:=aC h;have f21:=cA (k:=.i64) t;simp[E,c,f13,f15,f19,f21,a,-ax,-aP];exact fin8 (q) _ _ _ h (by simp[E,c,f13,f15,f19,f21,a,-ax,-aP])
 replace h:=h.2 a;simp[E,c,f13,f15,a,-ax,-aP];exact fin8 (false) _ _ _ h (by simp[E,c,f13,f15,a,-ax,-aP])
theorem Cf (b:aD) (link:Int) (hp:nX b link):aB prog 134 [.agg (bC false b),int link] (fun r=>r=bool (lL b link)):=(wx b link _ (BT b link hp)).mono (by rintro _ ⟨_,rfl,rfl⟩;rfl)
theorem e111:aW prog 111:=aW.of func111 (by kernel_rfl) rfl
theorem wo (b:aD) (link:Int) (Z:Bool->Prop) (h:mW b link Z):aB prog 111 [.agg (bC false b),int link] (fun r=>∃ y:Bool,Z y/\r=bool y):=by
 unfold mW at h;refine aB.of func111 rfl ntmps111 (by simp) fun Q hQ=>?_
 refine J.cut (fun O H n=>(O 0 = .agg (bC false b)/\O 1=int link)) (by simp) ?_;rintro O H U E;refine zE fun _ V=>?_
 simp[E];apply V;refine J.cut (fun O H n=>(O 1=int link/\O 2=pA U 2)/\H (U,2)=some ⟨6,[bC false b]⟩) (by refine⟨?_,?_⟩<;>simp[E]) ?_;clear E;rintro O H n3 ⟨E,a⟩;refine zE fun _ V=>?_
 obtain⟨hb4,h⟩:=h;obtain⟨r5,er5,h⟩:=aC h;simp[E,a];refine zA ((lB b link hb4).pure) e146 (.cons (bo false b) (.cons (.v _ _ _) .nil)) (by simp[E,a]) ?_;rintro _ rfl;rw[<- er5];simp[E,a];apply V;refine zE fun _ V=>?_
 obtain⟨kS,elen6,h⟩:=aC h;have f7:=fun H=>aE (H:=H) (fr:=true) (f:=cb) fJ elen6
 obtain⟨len8,elen8,h⟩:=aC h;have f9:=fun H=>aE (H:=H) (fr:=true) (f:=bm) iY elen8
 obtain⟨d,h⟩:=h;obtain⟨v11,e,h⟩:=aC h;have f12:=aU d e;obtain⟨c,g,h⟩:=aC h;have f14:=cA (k:=.i64) g;simp[E,a,f7,f9,f12,f14,-ax,-aP];apply V;refine J.cut (fun O H n=>O 4=bool c) (by simp[E,a,f7,f9,f12,f14,-ax,-aP]) ?_;clear E a;rintro O H n15 E;exact J.bg (v:=bool c) func111 results111 (by simp[E]) (hQ _ _ _ _ (.of (.v _)) ⟨c,h,rfl⟩)
theorem BY (b:aD) (link:Int) (hp:nO b link):aB prog 111 [.agg (bC false b),int link] (fun r=>r=bool (ko b link)):=(wo b link _ (CN b link hp)).mono (by rintro _ ⟨_,rfl,rfl⟩;rfl)
theorem e112:aW prog 112:=aW.of func112 (by kernel_rfl) rfl
theorem sq (b:aD) (Z:Bool->Prop) (h:ig b Z):aB prog 112 [.agg (bC false b)] (fun r=>∃ y:Bool,Z y/\r=bool y):=by
 unfold ig at h;refine aB.of func112 rfl ntmps112 (by simp) fun Q hQ=>?_
 refine J.cut (fun O H n=>O 0 = .agg (bC false b)) (by simp) ?_;rintro O H U E;refine zE fun k' V=>?_
 simp[E];apply V;refine J.cut (fun O H n=>O 1=pA U 1/\H (U,1)=some ⟨6,[bC false b]⟩) (by refine⟨?_,?_⟩<;>simp[E]) ?_;clear E;rintro O H n3 ⟨E,c⟩;refine zE fun k' V=>?_
 obtain⟨J4,hJ5,hr6⟩:=h;have fin8:∀ (sJ:Bool) (O:Env) (H:az) (n:Nat),J4 sJ->(match sJ with | b7=>O 2=bool b7)->J prog 112 13 k' O H n Q:=by
  rintro b7 O H n9 h E;replace h:=hr6 _ h;apply V;exact J.bg (v:=bool b7) func112 results112 (by simp[E]) (hQ _ _ _ _ (.of (.v _)) ⟨b7,h,rfl⟩)
 replace h:=hJ5;obtain⟨gT,d,h⟩:=aC h;have f11:=fun H=>aE (H:=H) (fr:=false) (f:=ay) aR d
 obtain⟨e,g,h⟩:=aC h;have f13:=cA (k:=.i64) g;rcases Bool.eq_false_or_eq_true e with a | a
 ·replace h:=h.1 a;obtain⟨o,i,h⟩:=aC h;have f15:=fun H=>aE (H:=H) (fr:=false) (f:=aQ.cells) jk i
  obtain⟨j,l,h⟩:=aC h;have f17:=cA (k:=.i64) l;simp[E,c,f11,f13,f15,f17,a,-ax,-aP];exact fin8 (j) _ _ _ h (by simp[E,c,f11,f13,f15,f17,a,-ax,-aP])
 replace h:=h.2 a;simp[E,c,f11,f13,a,-ax,-aP];exact fin8 (false) _ _ _ h (by simp[E,c,f11,f13,a,-ax,-aP])
theorem vd (b:aD) (hp:jU b):aB prog 112 [.agg (bC false b)] (fun r=>r=bool (eW b)):=(sq b _ (vJ b hp)).mono (by rintro _ ⟨_,rfl,rfl⟩;rfl)
theorem e70:aW prog 70:=aW.of func70 (by kernel_rfl) rfl
theorem xz (sig:List Control) (b:aD) (Z:Bool->Prop) (h:mR sig b Z):aB prog 70 [.list false (sig.map Control.cells),.agg (bC false b)] (fun r=>∃ y:Bool,Z y/\r=bool y):=by
 unfold mR at h;refine aB.of func70 rfl ntmps70 (by simp) fun Q hQ=>?_
 refine J.cut (fun O H n=>(O 0 = .list false (sig.map Control.cells)/\O 1 = .agg (bC false b))) (by simp) ?_;rintro O H U E;refine zE fun k' V=>?_
 simp[E];apply V;refine J.cut (fun O H n=>(O 0 = .list false (sig.map Control.cells)/\O 3=pA U 3)/\H (U,3)=some ⟨6,[bC false b]⟩) (by refine⟨?_,?_⟩<;>simp[E]) ?_;clear E;rintro O H n3 ⟨E,c⟩;refine zE fun k' V=>?_
 obtain⟨J4,hJ5,hr6⟩:=h;have fin8:∀ (sJ:Bool) (O:Env) (H:az) (n:Nat),J4 sJ->(match sJ with | b7=>O 4=bool b7)->J prog 70 12 k' O H n Q:=by
  rintro b7 O H n9 h E;replace h:=hr6 _ h;apply V;exact J.bg (v:=bool b7) func70 results70 (by simp[E]) (hQ _ _ _ _ (.of (.v _)) ⟨b7,h,rfl⟩)
 replace h:=hJ5;obtain⟨d,h⟩:=h;obtain⟨e,g,h⟩:=aC h;simp[E,c];refine zA (ou sig b d) e68 (.cons (lp false sig) (.cons (bo false b) .nil)) (by simp[E,c]) ?_;rintro _ rfl;rw[<- g];rcases Bool.eq_false_or_eq_true e with a | a
 ·replace h:=h.1 a;obtain⟨i,h⟩:=h;obtain⟨j,l,h⟩:=aC h;simp[E,c,a];refine zA (vd b i) e112 (.cons (bo false b) .nil) (by simp[E,c,a]) ?_;rintro _ rfl;rw[<- l];simp[E,c,a];exact fin8 (j) _ _ _ h (by simp[E,c,a])
 replace h:=h.2 a;simp[E,c,a];exact fin8 (false) _ _ _ h (by simp[E,c,a])
theorem Bj (sig:List Control) (b:aD) (hp:nu sig b):aB prog 70 [.list false (sig.map Control.cells),.agg (bC false b)] (fun r=>r=bool (fQ sig b)):=(xz sig b _ (CF sig b hp)).mono (by rintro _ ⟨_,rfl,rfl⟩;rfl)
theorem e66:aW prog 66:=aW.of func66 (by kernel_rfl) rfl
theorem u7 (sig:List Control) (b:aD) (Z:Bool->Prop) (h:kL sig b Z):aB prog 66 [.list false (sig.map Control.cells),.agg (bC false b)] (fun r=>∃ y:Bool,Z y/\r=bool y):=by
 unfold kL at h;refine aB.of func66 rfl ntmps66 (by simp) fun Q hQ=>?_
 refine J.cut (fun O H n=>(O 0 = .list false (sig.map Control.cells)/\O 1 = .agg (bC false b))) (by simp) ?_;rintro O H U E;refine zE fun k' V=>?_
 simp[E];apply V;refine J.cut (fun O H n=>(O 0 = .list false (sig.map Control.cells)/\O 3=pA U 3)/\H (U,3)=some ⟨6,[bC false b]⟩) (by refine⟨?_,?_⟩<;>simp[E]) ?_;clear E;rintro O H n3 ⟨E,c⟩;refine zE fun k' V=>?_
 obtain⟨J4,hJ5,hr6⟩:=h;have fin8:∀ (sJ:Bool) (O:Env) (H:az) (n:Nat),J4 sJ->(match sJ with | b7=>O 4=bool b7)->J prog 66 20 k' O H n Q:=by
  rintro b7 O H n9 h E;replace h:=hr6 _ h;apply V;exact J.bg (v:=bool b7) func66 results66 (by simp[E]) (hQ _ _ _ _ (.of (.v _)) ⟨b7,h,rfl⟩)
 replace h:=hJ5;obtain⟨e,h⟩:=h;obtain⟨g,i,h⟩:=aC h;simp[E,c];refine zA (tP sig b e) e93 (.cons (lp false sig) (.cons (bo false b) .nil)) (by simp[E,c]) ?_;rintro _ rfl;rw[<- i];rcases Bool.eq_false_or_eq_true g with a | a
 ·replace h:=h.1 a;obtain⟨cD,j,h⟩:=aC h;have f13:=fun H=>aE (H:=H) (fr:=false) (f:=ay) aR j
  obtain⟨l,o,h⟩:=aC h;have f15:=cA (k:=.i64) o;rcases Bool.eq_false_or_eq_true l with d | d
  ·replace h:=h.1 d;obtain⟨u,p,h⟩:=aC h;have f17:=fun H=>aE (H:=H) (fr:=false) (f:=aQ.cells) jk p
   obtain⟨q,t,h⟩:=aC h;have f19:=cA (k:=.i64) t;simp[E,c,f13,f15,f17,f19,a,d,-ax,-aP];exact fin8 (q) _ _ _ h (by simp[E,c,f13,f15,f17,f19,a,d,-ax,-aP])
  replace h:=h.2 d;simp[E,c,f13,f15,a,d,-ax,-aP];exact fin8 (false) _ _ _ h (by simp[E,c,f13,f15,a,d,-ax,-aP])
 replace h:=h.2 a;simp[E,c,a];exact fin8 (false) _ _ _ h (by simp[E,c,a])
theorem zQ (sig:List Control) (b:aD) (hp:lI sig b):aB prog 66 [.list false (sig.map Control.cells),.agg (bC false b)] (fun r=>r=bool (vy sig b)):=(u7 sig b _ (yR sig b hp)).mono (by rintro _ ⟨_,rfl,rfl⟩;rfl)
theorem e69:aW prog 69:=aW.of func69 (by kernel_rfl) rfl
theorem vE (b:aD) (Z:Bool->Prop) (h:kx b Z):aB prog 69 [.agg (bC false b)] (fun r=>∃ y:Bool,Z y/\r=bool y):=by
 unfold kx at h;refine aB.of func69 rfl ntmps69 (by simp) fun Q hQ=>?_
 refine J.cut (fun O H n=>O 0 = .agg (bC false b)) (by simp) ?_;rintro O H U E;refine zE fun k' V=>?_
 simp[E];apply V;refine J.cut (fun O H n=>O 1=pA U 1/\H (U,1)=some ⟨6,[bC false b]⟩) (by refine⟨?_,?_⟩<;>simp[E]) ?_;clear E;rintro O H n3 ⟨E,a⟩;refine zS fun k' V=>?_
 obtain⟨J4,hJ5,hr6⟩:=h;have fin8:∀ (sJ:Bool) (O:Env) (H:az) (n:Nat),J4 sJ->(match sJ with | b7=>(O 1=pA U 1/\O 15=bool b7)/\H (U,1)=some ⟨6,[bC false b]⟩)->J prog 69 62 k' O H n Q:=by
  rintro b7 O H n9 h ⟨E,a⟩;replace h:=hr6 _ h;apply V;refine J.ite (b:=b7) (by simp[E,a]) (fun db7=>?_) (fun db7=>?_)
  ·replace h:=h.1 db7;refine zE fun k' V=>?_
   simp[E,a,db7];apply V;exact J.bg (v:=bool false) func69 results69 (by simp[E,a,db7]) (hQ _ _ _ _ (.of (.v _)) ⟨false,h,rfl⟩)
  replace h:=h.2 db7;apply J.skip;refine zS fun k' V=>?_
  obtain⟨u,h⟩:=h;obtain⟨v11,A,h⟩:=aC h;have f12:=zq u A;simp[E,a,f12,db7,-uE,eN];apply V;apply J.block;refine J.aG h (fun (sJ:Int) O H n=>match sJ with | placeV15=>(O 1=pA U 1/\O 3=int placeV15)/\H (U,1)=some ⟨6,[bC false b]⟩) (by refine⟨?_,?_⟩<;>simp[E,a,db7]) ?_;clear E a;rintro placeV15 O H n16 K h ⟨E,a⟩ B;refine zS fun k' V=>?_
  obtain⟨cj,C,h⟩:=aC h;have f20:=fun H=>aE (H:=H) (fr:=false) (f:=(aA.cells false)) bK C
  obtain⟨D,F,h⟩:=aC h;have f22:=aY (k:=.i64) F;simp[E,a,f20,f22,-ax,-aP];apply V;refine J.ite (b:=D) (by simp[E,a]) (fun c=>?_) (fun c=>?_)
  ·replace h:=h.1 c;apply zK;apply J.block;refine zE fun k' V=>?_
   obtain⟨G,h⟩:=h;obtain⟨ck,L,h⟩:=aC h;simp[E,a,c];refine zA ((dU b placeV15 G).pure) CJ (.cons (bo false b) (.cons (.v _ _ _) .nil)) (by simp[E,a,c]) ?_;rintro _ rfl;rw[<- L];simp[E,a,c];apply V;refine zE fun k' V=>?_
   obtain⟨N,R,T⟩:=h;have p:∀ (sJ:Bool) (O:Env) (H:az) (n:Nat),N sJ->(match sJ with | q=>(O 1=pA U 1/\O 3=int placeV15/\O 48=bool q)/\H (U,1)=some ⟨6,[bC false b]⟩)->J prog 69 62 k' O H n Q:=by
    rintro q O H n30 h ⟨E,a⟩;replace h:=T _ h;apply V;refine J.ite (b:=q) (by simp[E,a]) (fun i=>?_) (fun i=>?_)
    ·replace h:=h.1 i;refine zE fun k' V=>?_
     simp[E,a,i];apply V;exact J.bg (v:=bool false) func69 results69 (by simp[E,a,i]) (hQ _ _ _ _ (.of (.v _)) ⟨false,h,rfl⟩)
    replace h:=h.2 i;apply J.skip;refine zI fun k' V=>?_
    obtain⟨W,h⟩:=h;obtain⟨v32,X,h⟩:=aC h;have f33:=aU W X;simp[E,a,f33,i,-ax];apply V;refine B (v32) _ _ _ h (by refine⟨?_,?_⟩<;>simp[E,a,i])
   replace h:=R;obtain⟨Y,ab,h⟩:=aC h;have f35:=aY (k:=.i64) ab;rcases Bool.eq_false_or_eq_true Y with e | e
   ·replace h:=h.1 e;obtain⟨cl,ac,h⟩:=aC h;have f37:=fun H=>aE (H:=H) (fr:=true) (f:=ay) aR ac
    obtain⟨ad,af,h⟩:=aC h;have f39:=cA (k:=.i64) af;rcases Bool.eq_false_or_eq_true ad with g | g
    ·replace h:=h.1 g;simp[E,a,f35,f37,f39,c,e,g,-ax,-aP];exact p (true) _ _ _ h (by refine⟨?_,?_⟩<;>simp[E,a,f35,f37,f39,c,e,g,-ax,-aP])
    replace h:=h.2 g;obtain⟨cm,t,h⟩:=aC h;have f41:=fun H=>aE (H:=H) (fr:=true) (f:=ay) aR t
    obtain⟨am,ao,h⟩:=aC h;have f43:=gM (k:=.i64) ao;rcases Bool.eq_false_or_eq_true am with j | j
    ·replace h:=h.1 j;simp[E,a,f35,f37,f39,f41,f43,c,e,g,j,-ax,-aP];exact p (true) _ _ _ h (by refine⟨?_,?_⟩<;>simp[E,a,f35,f37,f39,f41,f43,c,e,g,j,-ax,-aP])
    replace h:=h.2 j;obtain⟨co,ap,h⟩:=aC h;have av:=t.trans ap.symm;subst av;have f46:=fun H=>aE (H:=H) (fr:=true) (f:=ay) aR t
    obtain⟨a0,a1,h⟩:=aC h;have f48:=gM (k:=.i64) a1;simp[E,a,f35,f37,f39,f41,f43,f46,f48,c,e,g,j,-ax,-aP];exact p (a0) _ _ _ h (by refine⟨?_,?_⟩<;>simp[E,a,f35,f37,f39,f41,f43,f46,f48,c,e,g,j,-ax,-aP])
   replace h:=h.2 e;obtain⟨cp,a2,h⟩:=aC h;have f50:=fun H=>aE (H:=H) (fr:=true) (f:=ay) aR a2
   obtain⟨a3,a4,h⟩:=aC h;have f52:=gM (k:=.i64) a4;simp[E,a,f35,f50,f52,c,e,-ax,-aP];exact p (a3) _ _ _ h (by refine⟨?_,?_⟩<;>simp[E,a,f35,f50,f52,c,e,-ax,-aP])
  replace h:=h.2 c;refine J.exit rfl ?_;refine zS fun k' V=>?_
  obtain⟨cs,a5,h⟩:=aC h;have f54:=fun H=>aE (H:=H) (fr:=false) (f:=bm) iY a5
  obtain⟨a9,h⟩:=h;obtain⟨bd,be,h⟩:=aC h;have f57:=aU a9 be;simp[E,a,f54,f57,c,-ax,-aP];apply V;apply J.block;refine J.aG h (fun (sJ:Int) O H n=>match sJ with | v60=>(O 1=pA U 1/\O 54=int bd/\O 55=int v60)/\H (U,1)=some ⟨6,[bC false b]⟩) (by refine⟨?_,?_⟩<;>simp[E,a,c]) ?_;clear E a;rintro v60 O H n61 K h ⟨E,a⟩ bi;refine zE fun k' V=>?_
  obtain⟨bk,bs,h⟩:=aC h;have f65:=aY (k:=.i64) bs;simp[E,a,f65,-ax];apply V;apply J.seq;refine J.ite (b:=bk) (by simp[E,a]) (fun d=>?_) (fun d=>?_)
  ·replace h:=h.1 d;apply zK;apply J.block;refine zE fun k' V=>?_
   simp[E,a,d];apply V;refine zE fun k' V=>?_
   obtain⟨bv,h⟩:=h;obtain⟨b0,b1,h⟩:=aC h;simp[E,a,d];refine zA (BY b v60 bv) e111 (.cons (bo false b) (.cons (.v _ _ _) .nil)) (by simp[E,a,d]) ?_;rintro _ rfl;rw[<- b1];simp[E,a,d];apply V;refine J.ite (b:=b0) (by simp[E,a,d]) (fun l=>?_) (fun l=>?_)
   ·replace h:=h.1 l;refine zE fun k' V=>?_
    simp[E,a,d,l];apply V;exact J.bg (v:=bool false) func69 results69 (by simp[E,a,d,l]) (hQ _ _ _ _ (.of (.v _)) ⟨false,h,rfl⟩)
   replace h:=h.2 l;apply J.skip;refine zI fun k' V=>?_
   obtain⟨b2,h⟩:=h;obtain⟨b3,b5,h⟩:=aC h;have f70:=aU b2 b5;simp[E,a,f70,d,l,-ax];apply V;refine bi (b3) _ _ _ h (by refine⟨?_,?_⟩<;>simp[E,a,d,l])
  replace h:=h.2 d;refine J.exit rfl ?_;refine zE fun k' V=>?_
  simp[E,a,d];apply V;exact J.bg (v:=bool true) func69 results69 (by simp[E,a,d]) (hQ _ _ _ _ (.of (.v _)) ⟨true,h,rfl⟩)
 replace h:=hJ5;obtain⟨c0,b8,h⟩:=aC h;have f72:=fun H=>aE (H:=H) (fr:=false) (f:=aQ.cells) jk b8
 obtain⟨b9,cc,h⟩:=aC h;have f74:=gM (k:=.i64) cc;rcases Bool.eq_false_or_eq_true b9 with o | o
 ·replace h:=h.1 o;simp[E,a,f72,f74,o,-ax,-aP];exact fin8 (true) _ _ _ h (by refine⟨?_,?_⟩<;>simp[E,a,f72,f74,o,-ax,-aP])
 replace h:=h.2 o;obtain⟨ce,ci,h⟩:=aC h;have f76:=cA (k:=.i64) ci;simp[E,a,f72,f74,f76,o,-ax,-aP];exact fin8 (ce) _ _ _ h (by refine⟨?_,?_⟩<;>simp[E,a,f72,f74,f76,o,-ax,-aP])
theorem za (b:aD) (hp:gz b):aB prog 69 [.agg (bC false b)] (fun r=>r=bool (vL b)):=(vE b _ (yy b hp)).mono (by rintro _ ⟨_,rfl,rfl⟩;rfl)
theorem e94:aW prog 94:=aW.of func94 (by kernel_rfl) rfl
theorem vp (b:aD) (Z:Bool->Prop) (h:k7 b Z):aB prog 94 [.agg (bC false b)] (fun r=>∃ y:Bool,Z y/\r=bool y):=by
 unfold k7 at h;refine aB.of func94 rfl ntmps94 (by simp) fun Q hQ=>?_
 refine J.cut (fun O H n=>O 0 = .agg (bC false b)) (by simp) ?_;rintro O H U E;refine zE fun k' V=>?_
 simp[E];apply V;refine J.cut (fun O H n=>O 1=pA U 1/\H (U,1)=some ⟨6,[bC false b]⟩) (by refine⟨?_,?_⟩<;>simp[E]) ?_;clear E;rintro O H n3 ⟨E,a⟩;refine zS fun k' V=>?_
 obtain⟨J4,hJ5,hr6⟩:=h;have fin8:∀ (sJ:Bool) (O:Env) (H:az) (n:Nat),J4 sJ->(match sJ with | b7=>(O 1=pA U 1/\O 14=bool b7)/\H (U,1)=some ⟨6,[bC false b]⟩)->J prog 94 60 k' O H n Q:=by
  rintro b7 O H n9 h ⟨E,a⟩;replace h:=hr6 _ h;apply V;refine J.ite (b:=b7) (by simp[E,a]) (fun db7=>?_) (fun db7=>?_)
  ·replace h:=h.1 db7;refine zE fun k' V=>?_
   simp[E,a,db7];apply V;exact J.bg (v:=bool false) func94 results94 (by simp[E,a,db7]) (hQ _ _ _ _ (.of (.v _)) ⟨false,h,rfl⟩)
  replace h:=h.2 db7;apply J.skip;refine zS fun k' V=>?_
  simp[E,a,db7];apply V;apply J.block;refine J.aG h (fun (sJ:Int) O H n=>match sJ with | p=>(O 1=pA U 1/\O 3=int p)/\H (U,1)=some ⟨6,[bC false b]⟩) (by refine⟨?_,?_⟩<;>simp[E,a,db7]) ?_;clear E a;rintro p O H n13 K h ⟨E,a⟩ A;refine zS fun k' V=>?_
  obtain⟨B,C,h⟩:=aC h;have f17:=aY (k:=.i64) C;simp[E,a,f17,-ax];apply V;refine J.ite (b:=B) (by simp[E,a]) (fun c=>?_) (fun c=>?_)
  ·replace h:=h.1 c;apply zK;apply J.block;refine zE fun k' V=>?_
   obtain⟨D,F,G⟩:=h;have u:∀ (sJ:Bool) (O:Env) (H:az) (n:Nat),D sJ->(match sJ with | q=>(O 1=pA U 1/\O 3=int p/\O 34=bool q)/\H (U,1)=some ⟨6,[bC false b]⟩)->J prog 94 60 k' O H n Q:=by
    rintro q O H n23 h ⟨E,a⟩;replace h:=G _ h;apply V;refine J.ite (b:=q) (by simp[E,a]) (fun i=>?_) (fun i=>?_)
    ·replace h:=h.1 i;refine zE fun k' V=>?_
     simp[E,a,i];apply V;exact J.bg (v:=bool false) func94 results94 (by simp[E,a,i]) (hQ _ _ _ _ (.of (.v _)) ⟨false,h,rfl⟩)
    replace h:=h.2 i;apply J.skip;refine zI fun k' V=>?_
    obtain⟨L,h⟩:=h;obtain⟨v25,N,h⟩:=aC h;have f26:=aU L N;simp[E,a,f26,i,-ax];apply V;refine A (v25) _ _ _ h (by refine⟨?_,?_⟩<;>simp[E,a,i])
   replace h:=F;obtain⟨R,h⟩:=h;obtain⟨v28,t,h⟩:=aC h;have f29:=jL R t;obtain⟨T,h⟩:=h;obtain⟨c0,W,h⟩:=aC h;simp[E,a,f29,c,-ax];refine zA ((pH b v28 T).pure) e132 (.cons (bo false b) (.cons (.v _ _ _) .nil)) (by simp[E,a,f29,c,-ax]) ?_;rintro _ rfl;rw[<- W];obtain⟨c1,X,h⟩:=aC h;have f33:=fun H=>aE (H:=H) (fr:=true) (f:=ay) aR X
   obtain⟨Y,ab,h⟩:=aC h;have f35:=cA (k:=.i64) ab;rcases Bool.eq_false_or_eq_true Y with g | g
   ·replace h:=h.1 g;simp[E,a,f29,f33,f35,c,g,-ax,-aP];exact u (true) _ _ _ h (by refine⟨?_,?_⟩<;>simp[E,a,f29,f33,f35,c,g,-ax,-aP])
   replace h:=h.2 g;obtain⟨ac,h⟩:=h;obtain⟨v37,ad,h⟩:=aC h;have af:=t.trans ad.symm;subst af;have f39:=jL ac t;obtain⟨am,h⟩:=h;obtain⟨c2,ao,h⟩:=aC h;simp[E,a,f29,f33,f35,f39,c,g,-ax,-aP];refine zA ((nD b v28 am).pure) e133 (.cons (bo false b) (.cons (.v _ _ _) .nil)) (by simp[E,a,f29,f33,f35,f39,c,g,-ax,-aP]) ?_;rintro _ rfl;rw[<- ao];obtain⟨c3,ap,h⟩:=aC h;have f43:=fun H=>aE (H:=H) (fr:=true) (f:=ay) aR ap
   obtain⟨av,a0,h⟩:=aC h;have f45:=gM (k:=.i64) a0;simp[E,a,f29,f33,f35,f39,f43,f45,c,g,-ax,-aP];exact u (av) _ _ _ h (by refine⟨?_,?_⟩<;>simp[E,a,f29,f33,f35,f39,f43,f45,c,g,-ax,-aP])
  replace h:=h.2 c;refine J.exit rfl ?_;refine zS fun k' V=>?_
  simp[E,a,c];apply V;apply J.block;refine J.aG h (fun (sJ:Int) O H n=>match sJ with | i48=>(O 1=pA U 1/\O 4=int i48)/\H (U,1)=some ⟨6,[bC false b]⟩) (by refine⟨?_,?_⟩<;>simp[E,a,c]) ?_;clear E a;rintro i48 O H n49 K h ⟨E,a⟩ a1;refine zS fun k' V=>?_
  obtain⟨c6,a2,h⟩:=aC h;have f53:=fun H=>aE (H:=H) (fr:=false) (f:=(aA.cells false)) bK a2
  obtain⟨a3,a4,h⟩:=aC h;have f55:=aY (k:=.i64) a4;simp[E,a,f53,f55,-ax,-aP];apply V;refine J.ite (b:=a3) (by simp[E,a]) (fun d=>?_) (fun d=>?_)
  ·replace h:=h.1 d;apply zK;apply J.block;refine zE fun k' V=>?_
   obtain⟨a5,h⟩:=h;obtain⟨c7,a9,h⟩:=aC h;simp[E,a,d];refine zA ((nD b i48 a5).pure) e133 (.cons (bo false b) (.cons (.v _ _ _) .nil)) (by simp[E,a,d]) ?_;rintro _ rfl;rw[<- a9];obtain⟨c9,bd,h⟩:=aC h;have f59:=fun H=>aE (H:=H) (fr:=true) (f:=ay) aR bd
   obtain⟨be,bi,h⟩:=aC h;have f61:=gM (k:=.i64) bi;simp[E,a,f59,f61,d,-ax,-aP];apply V;refine J.ite (b:=be) (by simp[E,a,d]) (fun j=>?_) (fun j=>?_)
   ·replace h:=h.1 j;refine zE fun k' V=>?_
    simp[E,a,d,j];apply V;exact J.bg (v:=bool false) func94 results94 (by simp[E,a,d,j]) (hQ _ _ _ _ (.of (.v _)) ⟨false,h,rfl⟩)
   replace h:=h.2 j;apply J.skip;refine zI fun k' V=>?_
   obtain⟨bk,h⟩:=h;obtain⟨bs,bv,h⟩:=aC h;have f64:=aU bk bv;simp[E,a,f64,d,j,-ax];apply V;refine a1 (bs) _ _ _ h (by refine⟨?_,?_⟩<;>simp[E,a,d,j])
  replace h:=h.2 d;refine J.exit rfl ?_;refine zS fun k' V=>?_
  simp[E,a,d];apply V;apply J.block;refine J.aG h (fun (sJ:Int) O H n=>match sJ with | link67=>(O 1=pA U 1/\O 5=int link67)/\H (U,1)=some ⟨6,[bC false b]⟩) (by refine⟨?_,?_⟩<;>simp[E,a,d]) ?_;clear E a;rintro link67 O H n68 K h ⟨E,a⟩ b0;refine zS fun k' V=>?_
  obtain⟨da,b1,h⟩:=aC h;have f72:=fun H=>aE (H:=H) (fr:=false) (f:=bm) iY b1
  obtain⟨b2,h⟩:=h;obtain⟨dc,b3,h⟩:=aC h;have f75:=aU b2 b3;obtain⟨b5,b8,h⟩:=aC h;have f77:=aY (k:=.i64) b8;simp[E,a,f72,f75,f77,-ax,-aP];apply V;refine J.ite (b:=b5) (by simp[E,a]) (fun e=>?_) (fun e=>?_)
  ·replace h:=h.1 e;apply zK;apply J.block;refine zE fun k' V=>?_
   obtain⟨b9,h⟩:=h;obtain⟨cc,ce,h⟩:=aC h;simp[E,a,e];refine zA (Cf b link67 b9) e134 (.cons (bo false b) (.cons (.v _ _ _) .nil)) (by simp[E,a,e]) ?_;rintro _ rfl;rw[<- ce];simp[E,a,e];apply V;refine J.ite (b:=cc) (by simp[E,a,e]) (fun l=>?_) (fun l=>?_)
   ·replace h:=h.1 l;refine zE fun k' V=>?_
    simp[E,a,e,l];apply V;exact J.bg (v:=bool false) func94 results94 (by simp[E,a,e,l]) (hQ _ _ _ _ (.of (.v _)) ⟨false,h,rfl⟩)
   replace h:=h.2 l;apply J.skip;refine zI fun k' V=>?_
   obtain⟨ci,h⟩:=h;obtain⟨cj,ck,h⟩:=aC h;have f82:=aU ci ck;simp[E,a,f82,e,l,-ax];apply V;refine b0 (cj) _ _ _ h (by refine⟨?_,?_⟩<;>simp[E,a,e,l])
  replace h:=h.2 e;refine J.exit rfl ?_;refine zE fun k' V=>?_
  simp[E,a,e];apply V;exact J.bg (v:=bool true) func94 results94 (by simp[E,a,e]) (hQ _ _ _ _ (.of (.v _)) ⟨true,h,rfl⟩)
 replace h:=hJ5;obtain⟨dk,cl,h⟩:=aC h;have f84:=fun H=>aE (H:=H) (fr:=false) (f:=aQ.cells) jk cl
 obtain⟨cm,co,h⟩:=aC h;have f86:=gM (k:=.i64) co;rcases Bool.eq_false_or_eq_true cm with o | o
 ·replace h:=h.1 o;simp[E,a,f84,f86,o,-ax,-aP];exact fin8 (true) _ _ _ h (by refine⟨?_,?_⟩<;>simp[E,a,f84,f86,o,-ax,-aP])
 replace h:=h.2 o;obtain⟨cp,cs,h⟩:=aC h;have f88:=cA (k:=.i64) cs;simp[E,a,f84,f86,f88,o,-ax,-aP];exact fin8 (cp) _ _ _ h (by refine⟨?_,?_⟩<;>simp[E,a,f84,f86,f88,o,-ax,-aP])
theorem Aa (b:aD) (hp:lS b):aB prog 94 [.agg (bC false b)] (fun r=>r=bool (vg b)):=(vp b _ (yU b hp)).mono (by rintro _ ⟨_,rfl,rfl⟩;rfl)
end Go.Ab.Vg
namespace Go.Ab
def cf:Op->Nat
 | .move _ | .assign _ | .pick .. | .binOp .. | .unOp .. | .convert .. | .makeFunc .. | .extract .. | .field .. | .index .. | .build ..=>0
 | .load .. | .fieldAddr .. | .indexAddr .. | .nilCheck _ | .call ⟨.builtin .len,_,_⟩=>1
 | .alloc _=>3
 | .store ..=>4
 | _=>2
def oC (a b:Nat):Bool:=a == 0 || b == 0 || (a == 1 && (b == 1 || b == 3 || b == 4)) || (a == 3 && (b == 1 || b == 3 || b == 4)) || (a == 4 && (b == 1 || b == 3))
def CV (n0:Nat):au->Prop
 | .ptr id _ _ _ | .arr id _ _ _=>id.1<n0
 | _=>True
def dZ (n0:Nat) (op:Op) (O:Env):Prop:=
 match op with
 | .load _ a | .fieldAddr _ a _ | .nilCheck a=>CV n0 (O.ev a)
 | .indexAddr _ x _=>CV n0 (O.ev x)
 | .call ⟨.builtin .len,args,_⟩=>∀ x ∈ args.toList,CV n0 (O.ev x)
 | .store _ a _=>∃ id g idx off,O.ev a = .ptr id g idx off/\n0<=id.1
 | _=>cf op=0
theorem kI {n0:Nat} {H H2:az} (hag:∀ id:Id,id.1<n0->H2 id=H id) {p:au} (hp:CV n0 p):cW H2 p=cW H p:=by
 cases p with
 | ptr id g idx off=>simp only[cW];rw[hag id hp]
 | _=>rfl
theorem rv {n0:Nat} {H H2:az} (hag:∀ id:Id,id.1<n0->H2 id=H id) {id:Id} {g:Nat} (hp:id.1<n0):live H2 id g=live H id g:=by
 unfold live;rw[hag id hp]
section
variable {Ty:Types} {O:Env} {H H2 H':az} {n n2 n' n0:Nat} {d:Option Tmp} {v:au} {op:Op}
theorem iM (hk:cf op=0) (h:a6 Ty d op O H n=some (v,H',n')):H'=H/\n'=n/\∀ H2 n2,a6 Ty d op O H2 n2=some (v,H2,n2):=by
 refine rU ?_ h;cases op with
 | call c=>
  obtain⟨cal,args,ats⟩:=c;cases cal with
  | builtin b=>cases b<;>simp[cf] at hk
  | _=>simp[cf] at hk
 | _=>first | rfl | (simp[cf] at hk)
theorem eL (hk:cf op=1) (hc:dZ n0 op O) (hag:∀ id:Id,id.1<n0->H2 id=H id) (h:a6 Ty d op O H n=some (v,H',n')):H'=H/\n'=n/\a6 Ty d op O H2 n2=some (v,H2,n2):=by
 cases op with
 | load t a=>
  simp only[a6] at h ⊢;rw[kI hag hc]
  split at h
  ·split at h
   ·cases h;exact⟨rfl,rfl,rfl⟩
   ·cases h
  ·cases h
 | fieldAddr t a f=>
  simp only[a6] at h ⊢;rw[kI hag hc]
  split at h
  ·split at h
   ·split at h
    ·cases h
    ·rename_i hz
     cases h;exact⟨rfl,rfl,by rw[if_neg hz]⟩
   ·cases h
  ·cases h
 | nilCheck a=>
  simp only[a6] at h ⊢;rw[kI hag hc]
  split at h
  ·cases h;exact⟨rfl,rfl,rfl⟩
  ·cases h
 | indexAddr t x ix=>
  obtain⟨h1,h2,h3⟩:=cu h;refine⟨h2,h3,?_⟩;have:aw Ty H2 t (O.ev x) (O.ev ix)=aw Ty H t (O.ev x) (O.ev ix):=by
   simp only[dZ] at hc;unfold aw
   split
   ·generalize O.ev x=p at hc;cases hkd:kd Ty t with
    | slice j=>cases p with
     | arr id g off len=>simp only[rv hag (show id.1<n0 from hc)]
     | _=>rfl
    | arr len j=>simp only[kI hag hc]
    | _=>rfl
   ·rfl
  simp only[a6,this,h1,Option.map_some]
 | call c=>
  obtain⟨cal,args,ats⟩:=c;cases cal with
  | builtin b=>
   cases b<;>simp[cf] at hk;simp only[a6] at h ⊢
   split at h
   ·rename_i x t hx ht
    obtain⟨h1,h2,h3⟩:=cu h;refine⟨h2,h3,?_⟩;have hcx:CV n0 (O.ev x):=hc x (by rw[hx];simp);have:aP Ty H2 t (O.ev x)=aP Ty H t (O.ev x):=by
     unfold aP;generalize O.ev x=p at hcx;cases hkd:kd Ty t with
     | slice j=>cases p with
      | arr id g off len=>simp only[rv hag (show id.1<n0 from hcx)]
      | v x=>cases x<;>rfl
      | _=>rfl
     | string=>cases p with
      | v x=>cases x<;>rfl
      | _=>rfl
     | _=>rfl
    simp only[this,h1,Option.map_some]
   ·cases h
  | _=>simp[cf] at hk
 | _=>simp[cf] at hk
def tgt:Op->Env->Option Id
 | .store _ a _,O=>match O.ev a with
  | .ptr id _ _ _=>some id
  | _=>none
 | _,_=>none
theorem jc (hk:cf op=4) (hc:dZ n0 op O) (h:a6 Ty d op O H n=some (v,H',n')) :
  ∃ id ob ob',tgt op O=some id/\n0<=id.1/\H id=some ob/\H'=H.set id ob'/\n'=n/\∀ H2 n2,H2 id=some ob->a6 Ty d op O H2 n2=some (v,H2.set id ob',n2):=by
 cases op with
 | store t a x=>
  obtain⟨id,g,idx,off,ha,hid⟩:=hc;simp only[a6] at h ⊢;rw[ha] at h ⊢
  split at h
  ·rename_i H1 hs
   cases h;unfold bL at hs
   split at hs
   ·rename_i i id1 g1 idx1 off1 new e1 e2 e3
    cases e2
    split at hs
    ·rename_i o hl
     split at hs
     ·rename_i hcond
      cases hs;obtain⟨l1,l2⟩:=dd hl;refine⟨id,o,o.write idx off new,by simp only[tgt,ha],hid,l1,rfl,rfl,fun H2 n2 h2=>?_⟩;have hl2:live H2 id g=some o:=by
       unfold live;rw[h2];simp[l2]
      simp only[bL,e1,e3,hl2,if_pos hcond]
     ·cases hs
    ·cases hs
   ·cases hs
  ·cases h
 | call c=>
  obtain⟨cal,args,ats⟩:=c;cases cal with
  | builtin b=>cases b<;>simp[cf] at hk
  | _=>simp[cf] at hk
 | _=>simp[cf] at hk
end
theorem mM {n0:Nat} {op:Op} {O:Env}:dZ n0 op (loc op O)↔dZ n0 op O:=by
 have h:∀ x,x ∈ op.operands->(loc op O).ev x=O.ev x:=fun x hx=>fy hx
 generalize loc op O=ρ' at h;cases op with
 | call c=>
  obtain⟨cal,args,ats⟩:=c;cases cal with
  | builtin b=>
   cases b<;>try rfl
   have ha:∀ x,x ∈ args.toList->ρ'.ev x=O.ev x:=fun x hx=>h x (by simp[Op.operands,Call.operands];simpa using hx)
   simp only[dZ];exact⟨fun hc x hx=>by rw[<- ha x hx];exact hc x hx,fun hc x hx=>by rw[ha x hx];exact hc x hx⟩
  | _=>rfl
 | load t a=>simp only[dZ];rw[h a (by simp[Op.operands])]
 | fieldAddr t a f=>simp only[dZ];rw[h a (by simp[Op.operands])]
 | nilCheck a=>simp only[dZ];rw[h a (by simp[Op.operands])]
 | indexAddr t x i=>simp only[dZ];rw[h x (by simp[Op.operands])]
 | store t a x=>simp only[dZ];rw[h a (by simp[Op.operands])]
 | _=>rfl
section
variable (Ty:Types) (ops:Array Oper) (n0:Nat)
def sF (o:Oper) (s:AS) (R:AS->Prop):Prop:=
 (fp ops o s.1=some false/\R (s.1.put o.dst nh,s.2)) \/
 (fp ops o s.1=some true/\cf o.op ≠ 3/\dZ n0 o.op s.1/\∃ v H',a6 Ty o.dst o.op s.1 s.2.1 s.2.2=some (v,H',s.2.2)/\R (s.1.put o.dst v,H',s.2.2)) \/
 (fp ops o s.1=some true/\∃ t k i,o.op = .alloc t/\o.dst=some k/\Ty t=some i/\∀ a,n0<=a->(∀ j,s.2.1 (a,j)=none)->R (s.1.put (some k) (.ptr (a,k) 1 0 0),s.2.1.set (a,k) ⟨i.zero.length,[i.zero.map .v]⟩,max s.2.2 (a+1)))
def Bd (s:AS):Prop:=n0<=s.2.2/\∀ id o,s.2.1 id=some o->id.1<s.2.2
end
theorem set_comm {H:az} {i j:Id} (o p:Ob) (h:i ≠ j):(H.set i o).set j p=(H.set j p).set i o:=by
 funext x
 simp only[az.set]
 by_cases h1:x=i<;>by_cases h2:x=j<;>simp_all
section
variable {Ty:Types} {ops:Array Oper} {n0:Nat}
theorem sF.mono {o:Oper} {s:AS} {R R':AS->Prop} (h:sF Ty ops n0 o s R) (hR:∀ s,R s->R' s):sF Ty ops n0 o s R':=by
 rcases h with ⟨h1,h2⟩ | ⟨h1,h2,h3,v,H',h4,h5⟩ | ⟨h1,t,k,i,h2,h3,h4,h5⟩
 ·exact .inl ⟨h1,hR _ h2⟩
 ·exact .inr (.inl ⟨h1,h2,h3,v,H',h4,hR _ h5⟩)
 ·exact .inr (.inr ⟨h1,t,k,i,h2,h3,h4,fun a ha hf=>hR _ (h5 a ha hf)⟩)
theorem fP {op:Op} {O:Env} (h3:cf op ≠ 3) (h:dZ n0 op O):cf op=0\/cf op=1\/cf op=4:=by
 cases op with
 | call c=>
  obtain⟨cal,args,ats⟩:=c;cases cal with
  | builtin b=>cases b<;>first | (simp[cf];done) | (simp[dZ,cf] at h)
  | _=>simp[dZ,cf] at h
 | buildSlice t len ps=>simp only[dZ] at h;exact .inl h
 | _=>first | (simp[cf];done) | (simp[dZ,cf] at h;done) | (simp[cf] at h3)
theorem xT {s:AS} (hb:Bd n0 s) (j:Nat):s.2.1 (s.2.2,j)=none:=by
 cases h:s.2.1 (s.2.2,j) with
 | none=>rfl
 | some o=>have:=hb.2 _ o h;simp at this
theorem sF.bd {o:Oper} {s:AS} {R:AS->Prop} (hb:Bd n0 s) (h:sF Ty ops n0 o s R):sF Ty ops n0 o s fun s'=>Bd n0 s'/\R s':=by
 rcases h with ⟨h1,h2⟩ | ⟨h1,h2,h3,v,H',h4,h5⟩ | ⟨h1,t,k,i,h2,h3,h4,h5⟩
 ·exact .inl ⟨h1,hb,h2⟩
 ·refine .inr (.inl ⟨h1,h2,h3,v,H',h4,⟨hb.1,?_⟩,h5⟩);rcases fP h2 h3 with hk | hk | hk
  ·obtain⟨rfl,_⟩:=iM hk h4;exact hb.2
  ·obtain⟨rfl,_⟩:=eL (H2:=s.2.1) (n2:=s.2.2) hk h3 (fun _ _=>rfl) h4;exact hb.2
  ·obtain⟨id,ob,ob',_,_,e2,rfl,_⟩:=jc hk h3 h4;intro id' o' ho';simp only at ho' ⊢
   by_cases he:id'=id
   ·rw[he];exact hb.2 _ _ e2
   ·rw[az.aJ _ _ he] at ho';exact hb.2 _ _ ho'
 ·refine .inr (.inr ⟨h1,t,k,i,h2,h3,h4,fun a ha hf=>⟨⟨?_,?_⟩,h5 a ha hf⟩⟩)
  ·have:=hb.1;simp only;omega
  ·intro id' o' ho';simp only at ho' ⊢
   by_cases he:id'=(a,k)
   ·rw[he];simp only;omega
   ·rw[az.aJ _ _ he] at ho';have:=hb.2 _ _ ho';omega
theorem sF.swap {oi oj:Oper} (hap:oi.apart ops oj=true) (hc:oC (cf oi.op) (cf oj.op)=true) {s:AS} (hb:Bd n0 s) {R:AS->Prop} (h:sF Ty ops n0 oi s fun si=>sF Ty ops n0 oj si R) :
  sF Ty ops n0 oj s fun sj=>sF Ty ops n0 oi sj R:=by
 obtain⟨h1,h2,h3⟩:=Oper.apart_spec hap;have sj:∀ v H n,a6 Ty oj.dst oj.op (s.1.put oi.dst v) H n=a6 Ty oj.dst oj.op s.1 H n:=fun v H n=>by rw[<- aZ,gp (dp h1),aZ]
 have si:∀ v H n,a6 Ty oi.dst oi.op (s.1.put oj.dst v) H n=a6 Ty oi.dst oi.op s.1 H n:=fun v H n=>by rw[<- aZ,gp (dp h3),aZ]
 have cj:∀ v,dZ n0 oj.op (s.1.put oi.dst v)↔dZ n0 oj.op s.1:=fun v=>by rw[<- mM,gp (dp h1),mM]
 have ci:∀ v,dZ n0 oi.op (s.1.put oj.dst v)↔dZ n0 oi.op s.1:=fun v=>by rw[<- mM,gp (dp h3),mM]
 have gj:∀ v,fp ops oj (s.1.put oi.dst v)=fp ops oj s.1:=fun v=>jE h1
 have gi:∀ v,fp ops oi (s.1.put oj.dst v)=fp ops oi s.1:=fun v=>jE h3
 have pc:∀ v u,(s.1.put oi.dst v).put oj.dst u=(s.1.put oj.dst u).put oi.dst v:=fun v u=>put_comm v u h2
 obtain⟨O,H,n⟩:=s;simp only at sj si cj ci gj gi pc;rcases h with ⟨hgi,h⟩ | ⟨hgi,hki,hci,v,Hi,hsi,h⟩ | ⟨hgi,t,k,i,hop,hd,hT,h⟩
 ·
  rcases h with ⟨hgj,h⟩ | ⟨hgj,hkj,hcj,u,Hj,hsj,h⟩ | ⟨hgj,t',k',i',hop',hd',hT',h⟩
  ·simp only[gj] at hgj;exact .inl ⟨hgj,.inl ⟨by simpa only [gi] using hgi,by simpa only [pc] using h⟩⟩
  ·simp only[gj,cj,sj] at hgj hcj hsj;exact .inr (.inl ⟨hgj,hkj,hcj,u,Hj,hsj,.inl ⟨by simpa only [gi] using hgi,by simpa only [pc] using h⟩⟩)
  ·simp only[gj] at hgj;rw[hd'] at pc gi;exact .inr (.inr ⟨hgj,t',k',i',hop',hd',hT',fun a ha hf=>.inl ⟨by simpa only [gi] using hgi,by simpa only [pc] using h a ha hf⟩⟩)
 ·
  rcases h with ⟨hgj,h⟩ | ⟨hgj,hkj,hcj,u,Hj,hsj,h⟩ | ⟨hgj,t',k',i',hop',hd',hT',h⟩
  ·simp only[gj] at hgj;exact .inl ⟨hgj,.inr (.inl ⟨by simpa only [gi] using hgi,hki,by simpa only [ci] using hci,v,Hi,by simpa only [si] using hsi,by simpa only [pc] using h⟩)⟩
  ·simp only[gj,cj,sj] at hgj hcj hsj;simp only at hsi hci hgi h;have key:∃ Hj',a6 Ty oj.dst oj.op O H n=some (u,Hj',n)/\a6 Ty oi.dst oi.op O Hj' n=some (v,Hj,n):=by
    rcases fP hki hci with ki | ki | ki
    ·obtain⟨rfl,_,bu⟩:=iM ki hsi;exact⟨Hj,hsj,bu Hj n⟩
    ·obtain⟨rfl,_,_⟩:=eL (H2:=H) (n2:=n) ki hci (fun _ _=>rfl) hsi;rcases fP hkj hcj with kj | kj | kj
     ·obtain⟨rfl,_,bu⟩:=iM kj hsj;exact⟨_,hsj,hsi⟩
     ·obtain⟨rfl,_,_⟩:=eL (H2:=Hi) (n2:=n) kj hcj (fun _ _=>rfl) hsj;exact⟨_,hsj,hsi⟩
     ·obtain⟨id,ob,ob',_,e1,e2,rfl,_,_⟩:=jc kj hcj hsj;refine⟨_,hsj,?_⟩;exact (eL ki hci (fun id' hid=>az.aJ _ _ (by rintro rfl;omega)) hsi).2.2
    ·obtain⟨id,ob,ob',_,e1,e2,rfl,_,bu⟩:=jc ki hci hsi;rcases fP hkj hcj with kj | kj | kj
     ·obtain⟨rfl,_,hall'⟩:=iM kj hsj;exact⟨H,hall' H n,hsi⟩
     ·obtain⟨rfl,_,hst⟩:=eL (H2:=H) (n2:=n) kj hcj (fun id' hid=>(az.aJ _ _ (by rintro rfl;omega)).symm) hsj;exact⟨H,hst,hsi⟩
     ·rw[ki,kj] at hc;simp[oC] at hc
   obtain⟨Hj',k1,k2⟩:=key;exact .inr (.inl ⟨hgj,hkj,hcj,u,Hj',k1,.inr (.inl ⟨by simpa only [gi] using hgi,hki,by simpa only [ci] using hci,v,Hj,by simpa only [si] using k2,by simpa only [pc] using h⟩)⟩)
  ·
   simp only[gj] at hgj;rw[hd'] at pc gi si ci;refine .inr (.inr ⟨hgj,t',k',i',hop',hd',hT',fun a ha hf=>?_⟩);simp only at hsi hci hgi h hf;rcases fP hki hci with ki | ki | ki
   ·obtain⟨rfl,_,bu⟩:=iM ki hsi;exact .inr (.inl ⟨by simpa only [gi] using hgi,hki,by simpa only [ci] using hci,v,_,by simpa only [si] using bu _ _,by simpa only [pc] using h a ha hf⟩)
   ·obtain⟨rfl,_,_⟩:=eL (H2:=H) (n2:=n) ki hci (fun _ _=>rfl) hsi;have hst:=(eL (n2:=max n (a+1)) ki hci (fun id' hid=>az.aJ Hi ⟨i'.zero.length,[i'.zero.map .v]⟩ (i:=(a,k')) (by rintro rfl;simp only at hid;omega)) hsi).2.2;exact .inr (.inl ⟨by simpa only [gi] using hgi,hki,by simpa only [ci] using hci,v,_,by simpa only [si] using hst,by simpa only [pc] using h a ha hf⟩)
   ·obtain⟨id,ob,ob',_,e1,e2,rfl,_,bu⟩:=jc ki hci hsi;have hne:id ≠ (a,k'):=by rintro rfl;rw[hf k'] at e2;cases e2
    have hf':∀ j,(H.set id ob') (a,j)=none:=fun j=>by
     rw[az.aJ _ _ (by rintro rfl;rw[hf j] at e2;cases e2)];exact hf j
    have hst:=bu (H.set (a,k') ⟨i'.zero.length,[i'.zero.map .v]⟩) (max n (a+1)) (by rw[az.aJ _ _ hne];exact e2);have hfin:=h a ha hf';rw[set_comm _ _ hne] at hfin;exact .inr (.inl ⟨by simpa only [gi] using hgi,hki,by simpa only [ci] using hci,v,_,by simpa only [si] using hst,by simpa only [pc] using hfin⟩)
 ·
  simp only at hgi h;rw[hd] at pc gj sj cj;have hf0:∀ j,H (n,j)=none:=fun j=>xT hb j
  have hn0:n0<=n:=hb.1;have hi3:cf oi.op=3:=by rw[hop];rfl
  rcases h n hn0 hf0 with ⟨hgj,_⟩ | ⟨hgj,hkj,hcj,u,Hj,hsj,_⟩ | ⟨hgj,t',k',i',hop',hd',hT',_⟩
  ·simp only[gj] at hgj;refine .inl ⟨hgj,.inr (.inr ⟨by simpa only [gi] using hgi,t,k,i,hop,hd,hT,fun a ha hf=>?_⟩)⟩;rcases h a ha hf with ⟨_,h⟩ | ⟨hg,_⟩ | ⟨hg,_⟩
   ·simpa only [pc] using h
   ·simp only[gj,hgj] at hg;cases hg
   ·simp only[gj,hgj] at hg;cases hg
  ·simp only[gj,cj,sj] at hgj hcj hsj;have back:∀ a,n0<=a->(∀ j,H (a,j)=none)->∃ ua Ha,a6 Ty oj.dst oj.op O (H.set (a,k) ⟨i.zero.length,[i.zero.map .v]⟩) (max n (a+1))=some (ua,Ha,max n (a+1))/\R ((O.put (some k) (.ptr (a,k) 1 0 0)).put oj.dst ua,Ha,max n (a+1)):=by
    intro a ha hf;rcases h a ha hf with ⟨hg,_⟩ | ⟨_,_,_,ua,Ha,hs,hR⟩ | ⟨_,t',_,_,hop',_⟩
    ·simp only[gj,hgj] at hg;cases hg
    ·simp only[sj] at hs;exact⟨ua,Ha,hs,hR⟩
    ·exact absurd (by rw[hop'];rfl) hkj
   have hout:∀ (a:Nat) (id':Id),n0<=a->id'.1<n0->(H.set (a,k) ⟨i.zero.length,[i.zero.map .v]⟩) id'=H id':=fun a id' ha hid=>az.aJ _ _ (by rintro rfl;simp only at hid;omega)
   rcases fP hkj hcj with kj | kj | kj
   ·obtain⟨rfl,_,bu⟩:=iM kj hsj;refine .inr (.inl ⟨hgj,hkj,hcj,u,H,bu H n,.inr (.inr ⟨by simpa only [gi] using hgi,t,k,i,hop,hd,hT,fun a ha hf=>?_⟩)⟩);obtain⟨ua,Ha,hs,hR⟩:=back a ha hf;rw[bu] at hs;cases hs;simpa only [pc] using hR
   ·have hst:=(eL (H2:=H) (n2:=n) kj hcj (fun id' hid=>(hout n id' hn0 hid).symm) hsj).2.2;refine .inr (.inl ⟨hgj,hkj,hcj,u,H,hst,.inr (.inr ⟨by simpa only [gi] using hgi,t,k,i,hop,hd,hT,fun a ha hf=>?_⟩)⟩);obtain⟨ua,Ha,hs,hR⟩:=back a ha hf;have hst2:=(eL (H2:=H.set (a,k) ⟨i.zero.length,[i.zero.map .v]⟩) (n2:=max n (a+1)) kj hcj (fun id' hid=>hout a id' ha hid) hst).2.2;rw[hst2] at hs;cases hs;simpa only [pc] using hR
   ·obtain⟨id,o1,o1',t1,_,e2,rfl,_,bu⟩:=jc kj hcj hsj;obtain⟨u2,H2,hs2,_⟩:=back (n+1) (by omega) (fun j=>by
     cases hx:H (n+1,j) with
     | none=>rfl
     | some o=>have:=hb.2 (n+1,j) o hx;simp only at this;omega)
    obtain⟨id2,o2,o2',t2,_,e2',_⟩:=jc kj hcj hs2;rw[t1] at t2;cases t2;have hne:id ≠ (n,k):=by
     rintro rfl;rw[az.aJ _ _ (by intro he;have:=congrArg Prod.fst he;simp only at this;omega),hf0 k] at e2';cases e2'
    rw[az.aJ _ _ hne] at e2;refine .inr (.inl ⟨hgj,hkj,hcj,u,H.set id o1',bu H n e2,.inr (.inr ⟨by simpa only [gi] using hgi,t,k,i,hop,hd,hT,fun a ha hf=>?_⟩)⟩);simp only at hf ⊢;have hf':∀ j,H (a,j)=none:=fun j=>by
     have:=hf j
     by_cases he:(a,j)=id
     ·rw[he,az.bJ] at this;cases this
     ·rwa [az.aJ _ _ he] at this
    have hne':id ≠ (a,k):=by
     rintro rfl;rw[hf' k] at e2;cases e2
    obtain⟨ua,Ha,hs,hR⟩:=back a ha hf';rw[bu _ _ (by rw[az.aJ _ _ hne'];exact e2)] at hs;cases hs;rw[set_comm _ _ hne',<- pc];exact hR
  ·simp only[gj] at hgj;rw[hd'] at pc gi;refine .inr (.inr ⟨hgj,t',k',i',hop',hd',hT',fun b hb' hfb=>.inr (.inr ⟨by simpa only [gi] using hgi,t,k,i,hop,hd,hT,fun a ha hfa=>?_⟩)⟩);simp only at hfa ⊢;have hab:a ≠ b:=by
    rintro rfl;have:=hfa k';rw[az.bJ] at this;cases this
   have hfa':∀ j,H (a,j)=none:=fun j=>by
    have:=hfa j
    rwa [az.aJ _ _ (by intro he;exact hab (congrArg Prod.fst he))] at this
   rcases h a ha hfa' with ⟨hg,_⟩ | ⟨_,hk3,_⟩ | ⟨_,t2,k2,i2,hop2,hd2,hT2,h2'⟩
   ·simp only[gj,hgj] at hg;cases hg
   ·exact absurd (by rw[hop'];rfl) hk3
   ·rw[hop'] at hop2;cases hop2;rw[hd'] at hd2;cases hd2;rw[hT'] at hT2;cases hT2;have hfin:=h2' b hb' (fun j=>by simp only;rw[az.aJ _ _ (by intro he;exact hab (congrArg Prod.fst he).symm)];exact hfb j);simp only at hfin;rw[set_comm _ _ (by intro he;exact hab (congrArg Prod.fst he)),pc] at hfin;have hm:max (max n (b+1)) (a+1)=max (max n (a+1)) (b+1):=by omega
    rw[hm];exact hfin
theorem sF.some_ {o:Oper} {s:AS} {q:Prop} (hb:Bd n0 s) (h:sF Ty ops n0 o s fun _=>q):q:=by
 rcases h with ⟨_,h⟩ | ⟨_,_,_,_,_,_,h⟩ | ⟨_,_,_,_,_,_,_,h⟩
 ·exact h
 ·exact h
 ·exact h s.2.2 hb.1 (fun j=>xT hb j)
variable (Ty ops n0) in
def mY (R:AS->Prop):Nat->Array Bool->AS->Prop
 | 0,listed,s=>Region.ready .any ops listed=[]/\R s
 | fuel+1,listed,s=>(Region.ready .any ops listed=[]->R s)/\∀ i ∈ Region.ready .any ops listed,∃ o,ops[i]?=some o/\sF Ty ops n0 o s (mY R fuel (listed.setIfInBounds i true))
variable (Ty ops n0) in
def EW (R:AS->Prop):List Oper->AS->Prop
 | [],s=>R s
 | o::l,s=>sF Ty ops n0 o s (EW R l)
theorem mY.first {R:AS->Prop} {i:Nat} {oi:Oper} (hi:ops[i]?=some oi) (al:List Nat) (hD:∀ j oj,ops[j]?=some oj->j ∈ al->j ≠ i->∃ e ∈ oj.after,Region.binds .any e=true/\e.on ∈ al):∀ (fuel:Nat) (listed:Array Bool) (s:AS),Bd n0 s ->
  (∀ j ∈ al,listed.getD j true=false)->(∀ j oj,ops[j]?=some oj->j ≠ i->listed.getD j true=false->j ∉ al->oi.apart ops oj=true/\oC (cf oi.op) (cf oj.op)=true) ->
  i ∈ Region.ready .any ops listed->sF Ty ops n0 oi s (mY Ty ops n0 R fuel (listed.setIfInBounds i true))->mY Ty ops n0 R (fuel+1) listed s:=by
 intro fuel
 induction fuel with
 | zero=>
  intro listed s hb _ _ hr H;refine⟨fun h=>(by rw[h] at hr;cases hr),fun j hj=>?_⟩
  by_cases hji:j=i
  ·subst hji;exact⟨oi,hi,H⟩
  ·have:=ready_mono hj hji;have h0:Region.ready .any ops (listed.setIfInBounds i true)=[]:=sF.some_ hb (H.mono fun s' h=>h.1);rw[h0] at this;cases this
 | succ fuel ih=>
  intro listed s hb hinv hfree hr H;refine⟨fun h=>(by rw[h] at hr;cases hr),fun j hj=>?_⟩
  by_cases hji:j=i
  ·subst hji;exact⟨oi,hi,H⟩
  ·obtain⟨hjun,oj,hoj,bu⟩:=mem_ready.1 hj;have hnot:j ∉ al:=fun hd=>by
    obtain⟨e,he,hb',hed⟩:=hD j oj hoj hd hji;have h1:=bu e he hb';have h0:=hinv e.on hed;rcases Nat.lt_or_ge e.on listed.size with h' | h'
    ·simp[h'] at h0 h1;rw[h0] at h1;cases h1
    ·simp[Array.getElem?_eq_none h'] at h1
   obtain⟨hap,hco⟩:=hfree j oj hoj hji hjun hnot;have H2:sF Ty ops n0 oi s fun s'=>sF Ty ops n0 oj s' (mY Ty ops n0 R fuel ((listed.setIfInBounds i true).setIfInBounds j true)):=H.mono fun s' h=>by
    obtain⟨oj',hoj',h'⟩:=h.2 j (ready_mono hj hji);rw[hoj] at hoj';cases hoj';exact h'
   refine⟨oj,hoj,(sF.bd hb (sF.swap hap hco hb H2)).mono fun sj ⟨hbj,hsj⟩=>ih (listed.setIfInBounds j true) sj hbj (fun k hk=>?_) (fun k ok hk hki hun hno=>?_) (ready_mono hr (Ne.symm hji)) ?_⟩
   ·have hjk:j ≠ k:=fun he=>hnot (he ▸ hk)
    rw[getD_set_ne true hjk];exact hinv k hk
   ·refine hfree k ok hk hki ?_ hno
    by_cases hjk:j=k
    ·subst hjk;exact hjun
    ·rw[getD_set_ne true hjk] at hun;exact hun
   ·rw[Array.setIfInBounds_comm _ _ hji];exact hsj
variable (ops) in
def AO (listed:Array Bool) (i:Nat):Bool:=
 match ops[i]? with
 | none=>false
 | some oi=>((behind ops i).all fun j => !(listed.getD j true) && match ops[j]? with
   | none=>true
   | some oj=>j == i || oj.after.any (fun e=>Region.binds .any e && (behind ops i).contains e.on)) &&
  (List.range ops.size).all fun j=>match ops[j]? with
  | none=>true
  | some oj=>j == i || listed.getD j true || (behind ops i).contains j || (oi.apart ops oj && oC (cf oi.op) (cf oj.op))
variable (ops) in
def Dc:Nat->Nat->Array Bool->Bool
 | 0,_,listed=>(Region.ready .any ops listed).isEmpty
 | fuel+1,k,listed=>(Region.ready .any ops listed).contains k && AO ops listed k && Dc fuel (k+1) (listed.setIfInBounds k true)
variable (ops) in
def xi:Bool:=Dc ops ops.size 0 (Array.replicate ops.size false)
theorem yQ {listed:Array Bool} {i:Nat} {oi:Oper} (hi:ops[i]?=some oi) (h:AO ops listed i=true) :
  (∀ j oj,ops[j]?=some oj->j ∈ behind ops i->j ≠ i->∃ e ∈ oj.after,Region.binds .any e=true/\e.on ∈ behind ops i)/\(∀ j ∈ behind ops i,listed.getD j true=false) /\
  ∀ j oj,ops[j]?=some oj->j ≠ i->listed.getD j true=false->j ∉ behind ops i->oi.apart ops oj=true/\oC (cf oi.op) (cf oj.op)=true:=by
 unfold AO at h;simp only[hi,Bool.and_eq_true] at h;obtain⟨h1,h2⟩:=h;refine⟨fun j oj hj hd hji=>?_,fun j hd=>?_,fun j oj hj hji hun hno=>?_⟩
 ·have:=List.all_eq_true.1 h1 j hd;simp only[hj,Bool.and_eq_true,Bool.or_eq_true,beq_iff_eq] at this;rcases this.2 with h3 | h3
  ·exact absurd h3 hji
  ·obtain⟨e,he,hb⟩:=Array.any_eq_true'.1 h3;simp only[Bool.and_eq_true,List.contains_iff_mem] at hb;exact⟨e,he,hb.1,hb.2⟩
 ·have:=List.all_eq_true.1 h1 j hd;simp only[Bool.and_eq_true,Bool.not_eq_true'] at this;exact this.1
 ·have hlt:j<ops.size:=(Array.getElem?_eq_some_iff.1 hj).1;have:=List.all_eq_true.1 h2 j (List.mem_range.2 hlt);simp only[hj,hun,Bool.or_false,Bool.or_eq_true,beq_iff_eq,Bool.and_eq_true,List.contains_iff_mem] at this;rcases this with (h1 | h1) | h1
  ·exact absurd h1 hji
  ·exact absurd h1 hno
  ·exact h1
theorem mY.lex {R:AS->Prop}:∀ (l:List Oper) (k:Nat) (listed:Array Bool) (s:AS),Bd n0 s->(∀ j:Nat,l[j]?=ops[k+j]?)->Dc ops l.length k listed=true->EW Ty ops n0 R l s->mY Ty ops n0 R l.length listed s
 | [],_,_,_,_,_,hB,h=>⟨by simpa[Dc] using hB,h⟩
 | o::l,k,listed,s,hb,hl,hB,h=>by
  have h0:ops[k]?=some o:=by simpa using (hl 0).symm
  simp only[List.length_cons,Dc,Bool.and_eq_true] at hB;obtain⟨⟨hr,hf⟩,hB'⟩:=hB;obtain⟨f1,f2,f3⟩:=yQ h0 hf;exact mY.first h0 (behind ops k) f1 l.length listed s hb f2 f3 (by simpa using hr)
   ((sF.bd hb h).mono fun s' ⟨hb',h'⟩=>mY.lex l (k+1) _ s' hb' (fun j=>by have:=hl (j+1);simpa[Nat.add_assoc,Nat.add_comm 1 j] using this) hB' h')
end
section
variable {P:Program} {N:Nat} {Ty:Types} {ops:Array Oper} {n0:Nat}
theorem mY.sound (hT:aX P Ty) {R:AS->Prop} (hN:ops.toList.all (fun o=>dM N o.dst)=true) {Q:Exit->Act->World->Prop} {c0:Ctx} (hQ:∀ a c O,bh c0 c->Good c->cL N c O a->R (O,c.H,c.n)->Q .normal a c.w) :
  ∀ (fuel:Nat) (listed:Array Bool) (O:Env) (c:Ctx) (a:Act),n0<=c.n->bh c0 c->Good c->cL N c O a->mY Ty ops n0 R fuel listed (O,c.H,c.n)->wpAny P .any ops Q fuel listed a c.w
 | 0,_,_,_,_,_,hk,g,r,h=>⟨h.1,hQ _ _ _ hk g r h.2⟩
 | fuel+1,listed,O,c,a,hn0,hk,g,r,h=>by
  refine⟨fun h0=>hQ _ _ _ hk g r (h.1 h0),fun i hi=>?_⟩;obtain⟨o,ho,hst⟩:=h.2 i hi;have hd:dM N o.dst=true:=List.all_eq_true.1 hN o (by rw[<- Array.getElem?_toList] at ho;exact List.mem_of_getElem? ho);unfold wpOp;simp only[ho];rcases hst with ⟨hg,hrest⟩ | ⟨hg,hk3,hc,v,H',hs,hrest⟩ | ⟨hg,t,k,i',hop,hdst,hTy,hrest⟩
  ·rw[if_neg (by rw[bU r hN hg];simp)];exact mY.sound hT hN hQ fuel _ _ c _ hn0 hk g (r.put hd (.v _)) hrest
  ·rw[if_pos (bU r hN hg)];simp only at hs hrest;refine .inl (bb hT hs c a rfl rfl g r _ _ ?_);rintro v1 x c' ⟨rfl,hH,hn⟩ hrep hgood hkeep;exact mY.sound hT hN hQ fuel _ _ c' _ (by rw[hn];exact hn0) (hk.trans hkeep) hgood ((r.keeps hkeep).put hd hrep) (by rw[hH,hn];exact hrest)
  ·rw[if_pos (bU r hN hg)];have hs:a6 Ty o.dst o.op O c.H c.n=some (.ptr (c.n,k) 1 0 0,c.H.set (c.n,k) ⟨i'.zero.length,[i'.zero.map .v]⟩,c.n+1):=by rw[hop,hdst];simp only[a6,hTy]
   refine .inl (bb hT hs c a rfl rfl g r _ _ ?_);rintro v1 x c' ⟨rfl,hH,hn⟩ hrep hgood hkeep;have hr:=hrest c.n hn0 (fun j=>by
    show c.H (c.n,j)=none;cases hx:c.H (c.n,j) with
    | none=>rfl
    | some ob=>have:=g.stamp _ _ hx;simp only at this;omega)
   have hm:max c.n (c.n+1)=c.n+1:=by omega
   simp only[hm] at hr;rw[<- hdst] at hr;exact mY.sound hT hN hQ fuel _ _ c' _ (by rw[hn];omega) (hk.trans hkeep) hgood ((r.keeps hkeep).put hd hrep) (by rw[hH,hn];exact hr)
end
section
variable {P:Program} {f:FuncId} {N:Nat} {k:List Item} {O:Env} {H:az} {n:Nat} {Q:au->az->Nat->Prop} {Ty:Types}
theorem J.xi (hT:aX P Ty) {id:Nat} {ops:List Oper} (hm:P.follows .mixedOrders=true) (hN:ops.all (fun o=>dM N o.dst)=true) (hB:xi ops.toArray=true)
  (h:EW Ty ops.toArray n (fun s=>J P f N k s.1 s.2.1 s.2.2 Q) ops (O,H,n)):J P f N (.code (.region id ops.toArray true)::k) O H n Q:=by
 intro c a hH hn g r b cs hf hk;subst hH;subst hn;obtain⟨d1,d2⟩:=iB g;have hany:=mY.lex (Ty:=Ty) (ops:=ops.toArray) (n0:=c.n) ops 0 (Array.replicate ops.toArray.size false) (O,c.H,c.n) ⟨Nat.le_refl _,fun id o ho=>g.stamp id o ho⟩ (by simp) (by simpa[Ab.xi] using hB) h;have hw:(Code.region id ops.toArray true).wp P (fun e a' w'=>e = .normal/\∃ c' ρ',c'.w=w'/\bh c c'/\Good c'/\cL N c' ρ' a'/\J P f N k ρ' c'.H c'.n Q) a c.w:=by
  refine wp_region_any hm ?_;have:=mY.sound (P:=P) (N:=N) (Ty:=Ty) (ops:=ops.toArray) (n0:=c.n) (c0:=c) hT (by simpa using hN) (Q:=fun e a' w'=>e = .normal/\∃ c' ρ',c'.w=w'/\bh c c'/\Good c'/\cL N c' ρ' a'/\J P f N k ρ' c'.H c'.n Q)
   (R:=fun s=>J P f N k s.1 s.2.1 s.2.2 Q) (fun a' c' ρ' V hg' hr' hR=>⟨rfl,c',ρ',rfl,V,hg',hr',hR⟩) ops.length (Array.replicate ops.toArray.size false) O { c with w:={ c.w with drawn:=c.w.drawn+1 } } a (Nat.le_refl _) d1 d2 (r.keeps d1) hany
  simpa using this
 obtain⟨e,a',w',⟨rfl,c',ρ',rfl,V,hg',hr',hR⟩,harr⟩:=hw b k cs;obtain⟨x,v,c'',fr,q,hr,hg,hke,hst,rest⟩:=hR c' a' rfl rfl hg' hr' b cs hf hk;exact⟨x,v,c'',fr,q,hr,hg,V.trans hke,Steps.trans harr hst,rest⟩
end
def Bq (Ty:Types) (d:Option Nat):Op->Option (Nat × Ob)
 | .alloc t=>match d,Ty t with
  | some k,some i=>some (k,⟨i.zero.length,[i.zero.map .v]⟩)
  | _,_=>none
 | _=>none
section
variable (P:Program) (f:FuncId) (N:Nat) (k:List Item) (Q:au->az->Nat->Prop) (Ty:Types) (ops:Array Oper) (n0:Nat)
def kh:List Oper->Env->az->Nat->Prop
 | [],O,H,n=>J P f N k O H n Q
 | o::l,O,H,n=>
  match fp ops o O with
  | some false=>kh l (O.put o.dst nh) H n
  | some true=>match Bq Ty o.dst o.op with
   | some (j,ob)=>∀ a,n0<=a->(∀ q,H (a,q)=none)->kh l (O.put (some j) (.ptr (a,j) 1 0 0)) (H.set (a,j) ob) (max n (a+1))
   | none=>match a6 Ty o.dst o.op O H n with
    | some (v,H',_)=>dZ n0 o.op O/\kh l (O.put o.dst v) H' n
    | none=>False
  | none=>False
end
section
variable {P:Program} {f:FuncId} {N:Nat} {k:List Item} {O:Env} {H:az} {n:Nat} {Q:au->az->Nat->Prop} {Ty:Types} {ops:Array Oper} {n0:Nat}
theorem CB {d:Option Nat} {op:Op} {v:au} {H':az} {n':Nat} (h:Bq Ty d op=none) (hs:a6 Ty d op O H n=some (v,H',n')):cf op ≠ 3:=by
 cases op with
 | alloc t=>
  simp only[a6] at hs
  split at hs
  ·rename_i k' i hi
   simp only[Bq,hi] at h;cases h
  ·cases hs
 | call c=>
  obtain⟨cal,args,ats⟩:=c;cases cal with
  | builtin b=>cases b<;>simp[cf]
  | _=>simp[cf]
 | buildSlice t len ps=>
  unfold cf;simp only
  by_cases h0:len=0<;>simp[h0]
 | _=>simp[cf]
theorem jn:∀ (l:List Oper) (O:Env) (H:az) (n:Nat),kh P f N k Q Ty ops n0 l O H n->EW Ty ops n0 (fun s=>J P f N k s.1 s.2.1 s.2.2 Q) l (O,H,n)
 | [],_,_,_,h=>h
 | o::l,O,H,n,h=>by
  rw[kh] at h
  split at h
  ·rename_i hg
   exact .inl ⟨hg,jn l _ _ _ h⟩
  ·rename_i hg
   split at h
   ·rename_i j ob hnew
    unfold Bq at hnew
    split at hnew
    ·rename_i t hop
     split at hnew
     ·rename_i k' i hdst hTy
      cases hnew;exact .inr (.inr ⟨hg,t,_,_,hop,hdst,hTy,fun a ha hf=>jn l _ _ _ (h a ha hf)⟩)
     ·cases hnew
    ·cases hnew
   ·rename_i hnew
    split at h
    ·rename_i v H' n' hs
     have hk3:=CB hnew hs;obtain⟨hc,h⟩:=h;have hn:n'=n:=by
      rcases fP hk3 hc with hk | hk | hk
      ·exact (iM hk hs).2.1
      ·exact (eL (H2:=H) (n2:=n) hk hc (fun _ _=>rfl) hs).2.1
      ·obtain⟨_,_,_,_,_,_,_,e,_⟩:=jc hk hc hs;exact e
     subst hn;exact .inr (.inl ⟨hg,hk3,hc,v,H',hs,jn l _ _ _ h⟩)
    ·exact h.elim
  ·exact h.elim
@[simp] theorem evalN_nil : kh P f N k Q Ty ops n0 [] O H n = J P f N k O H n Q := by rw [kh]
@[simp] theorem evalN_cons {o : Oper} {l : List Oper} : kh P f N k Q Ty ops n0 (o :: l) O H n = (match fp ops o O with
  | some false=>kh P f N k Q Ty ops n0 l (O.put o.dst nh) H n
  | some true=>match Bq Ty o.dst o.op with
   | some (j,ob)=>∀ a,n0<=a->(∀ q,H (a,q)=none)->kh P f N k Q Ty ops n0 l (O.put (some j) (.ptr (a,j) 1 0 0)) (H.set (a,j) ob) (max n (a+1))
   | none=>match a6 Ty o.dst o.op O H n with
    | some (v,H',_)=>dZ n0 o.op O/\kh P f N k Q Ty ops n0 l (O.put o.dst v) H' n
    | none=>False
  | none=>False):=by rw[kh]
theorem J.seqN (hT:aX P Ty) {id:Nat} {ops:List Oper} {y:Code} (hm:P.follows .mixedOrders=true) (hN:ops.all (fun o=>dM N o.dst)=true) (hB:Ab.xi ops.toArray=true)
  (h:∀ k':List Item,(∀ O H n,J P f N (.code y::k) O H n Q->J P f N k' O H n Q)->kh P f N k' Q Ty ops.toArray n ops O H n):J P f N (.code (.seq (.region id ops.toArray true) y)::k) O H n Q:=
 J.seq (J.xi hT hm hN hB (jn ops _ _ _ (h (.code y::k) fun _ _ _ h=>h)))
end
attribute [simp] fp dZ CV Bq cf
end Go.Ab
namespace Go.Ab.Vg
open Go.Proofs
set_option maxRecDepth 100000
attribute [local simp] Control.cells aA.cells aQ.cells ay cb aI bm bC mC pA
theorem qF (l:List Int) (x:Int) (h:l.length<=1048576):aB prog 115 [.list false (l.map ay),int x] (fun r=>r=bool (kc l x)):=xP l x h
theorem mH (l:List Int) (x:Int) (h:l.length<=1048576):aB prog 140 [.list false (l.map ay),int x] (fun r=>r=bool (kc l x)):=Dl l x h
theorem e149:aW prog 149:=aW.of func149 (by kernel_rfl) rfl
theorem uw (b:aD) (place:Int) (nodes:List Int) (Z:Bool->Prop) (h:k9 b place nodes Z):aB prog 149 [.agg (bC false b),int place,.list false (nodes.map ay)] (fun r=>∃ y:Bool,Z y/\r=bool y):=by
 unfold k9 at h;refine aB.of func149 rfl ntmps149 (by simp) fun Q hQ=>?_
 refine J.cut (fun O H n=>(O 0 = .agg (bC false b)/\O 1=int place/\O 2 = .list false (nodes.map ay))) (by simp) ?_;rintro O H U E;refine zE fun _ V=>?_
 simp[E];apply V;refine J.cut (fun O H n=>(O 1=int place/\O 2 = .list false (nodes.map ay)/\O 3=pA U 3)/\H (U,3)=some ⟨6,[bC false b]⟩) (by refine⟨?_,?_⟩<;>simp[E]) ?_;clear E;rintro O H n3 ⟨E,a⟩;apply J.seq;apply J.block;refine J.aG h (fun (sJ:Int) O H n=>match sJ with | placeV6=>(O 1=int placeV6/\O 2 = .list false (nodes.map ay)/\O 3=pA U 3)/\H (U,3)=some ⟨6,[bC false b]⟩) (by refine⟨?_,?_⟩<;>simp[E,a]) ?_;clear E a;rintro placeV6 O H n7 K h ⟨E,a⟩ IH8;refine zS fun _ V=>?_
 obtain⟨e,g,h⟩:=aC h;have f11:=nC (k:=.i64) g;simp[E,a,f11,-ax];apply V;refine J.ite (b:=e) (by simp[E,a]) (fun c=>?_) (fun c=>?_)
 ·replace h:=h.1 c;apply zK;apply J.block;refine zE fun _ V=>?_
  obtain⟨i,h⟩:=h;obtain⟨j,l,h⟩:=aC h;simp[E,a,c];refine zA (qF nodes placeV6 i) EZ (.cons (eC false nodes) (.cons (.v _ _ _) .nil)) (by simp[E,a,c]) ?_;rintro _ rfl;rw[<- l];simp[E,a,c];apply V;refine J.ite (b:=j) (by simp[E,a,c]) (fun d=>?_) (fun d=>?_)
  ·replace h:=h.1 d;refine zE fun _ V=>?_
   simp[E,a,c,d];apply V;exact J.bg (v:=bool true) func149 results149 (by simp[E,a,c,d]) (hQ _ _ _ _ (.of (.v _)) ⟨true,h,rfl⟩)
  replace h:=h.2 d;apply J.skip;refine zI fun _ V=>?_
  obtain⟨o,h⟩:=h;obtain⟨p,q,h⟩:=aC h;have f16:=fun H=>aL (H:=H) (fr:=false) (f:=(aA.cells false)) (k:=.i64) bK (fun _=>rfl) o q
  simp[E,a,f16,c,d,-aw];apply V;refine IH8 (p.parent) _ _ _ h (by refine⟨?_,?_⟩<;>simp[E,a,c,d])
 replace h:=h.2 c;refine J.exit rfl ?_;refine zE fun _ V=>?_
 simp[E,a,c];apply V;exact J.bg (v:=bool false) func149 results149 (by simp[E,a,c]) (hQ _ _ _ _ (.of (.v _)) ⟨false,h,rfl⟩)
theorem yq (b:aD) (place:Int) (nodes:List Int) (hp:mi b place nodes):aB prog 149 [.agg (bC false b),int place,.list false (nodes.map ay)] (fun r=>r=bool (ox b place nodes)):=(uw b place nodes _ (yB b place nodes hp)).mono (by rintro _ ⟨_,rfl,rfl⟩;rfl)
theorem e160:aW prog 160:=aW.of func160 (by kernel_rfl) rfl
theorem tq (ar:aD) (m:Match) (place:Int) (Z:Bool->Prop) (h:jD ar m place Z):aB prog 160 [.agg (bC false ar),.agg (mC false m),int place] (fun r=>∃ y:Bool,Z y/\r=bool y):=by
 unfold jD at h;refine aB.of func160 rfl ntmps160 (by simp) fun Q hQ=>?_
 refine J.cut (fun O H n=>(O 0 = .agg (bC false ar)/\O 1 = .agg (mC false m)/\O 2=int place)) (by simp) ?_;rintro O H U E;refine zE fun _ V=>?_
 simp[E];apply V;refine J.cut (fun O H n=>(O 2=int place/\O 3=pA U 3/\O 4=pA (U+1) 4)/\H (U,3)=some ⟨6,[bC false ar]⟩/\H (U+1,4)=some ⟨2,[mC false m]⟩) (by refine⟨?_,?_,?_⟩<;>simp[E]) ?_;clear E;rintro O H n4 ⟨E,a,c⟩;apply J.seq;apply J.block;refine J.aG h (fun (sJ:Int) O H n=>match sJ with | placeV7=>(O 2=int placeV7/\O 3=pA U 3/\O 4=pA (U+1) 4)/\H (U,3)=some ⟨6,[bC false ar]⟩/\H (U+1,4)=some ⟨2,[mC false m]⟩) (by refine⟨?_,?_,?_⟩<;>simp[E,a,c]) ?_;clear E a c;rintro placeV7 O H n8 K h ⟨E,a,c⟩ IH9;refine zS fun _ V=>?_
 obtain⟨g,i,h⟩:=aC h;have f12:=nC (k:=.i64) i;simp[E,a,c,f12,-ax];apply V;refine J.ite (b:=g) (by simp[E,a,c]) (fun d=>?_) (fun d=>?_)
 ·replace h:=h.1 d;apply J.skip;apply J.block;refine zS fun _ V=>?_
  obtain⟨j,h⟩:=h;obtain⟨l,o,h⟩:=aC h;simp[E,a,c,d];refine zA (mH m.nodes placeV7 j) Fm (.cons (eC false m.nodes) (.cons (.v _ _ _) .nil)) (by simp[E,a,c,d]) ?_;rintro _ rfl;rw[<- o];simp[E,a,c,d];apply V;refine J.ite (b:=l) (by simp[E,a,c,d]) (fun e=>?_) (fun e=>?_)
  ·replace h:=h.1 e;refine zE fun _ V=>?_
   simp[E,a,c,d,e];apply V;exact J.bg (v:=bool true) func160 results160 (by simp[E,a,c,d,e]) (hQ _ _ _ _ (.of (.v _)) ⟨true,h,rfl⟩)
  replace h:=h.2 e;apply J.skip;refine zF fun _ V=>?_
  obtain⟨p,h⟩:=h;obtain⟨q,t,h⟩:=aC h;have f17:=fun H=>aL (H:=H) (fr:=false) (f:=(aA.cells false)) (k:=.i64) bK (fun _=>rfl) p t
  simp[E,a,c,f17,d,e,-aw];apply V;apply J.inBlock;refine IH9 (q.parent) _ _ _ h (by refine⟨?_,?_,?_⟩<;>simp[E,a,c,d,e])
 replace h:=h.2 d;refine J.exit rfl ?_;refine zE fun _ V=>?_
 simp[E,a,c,d];apply V;exact J.bg (v:=bool false) func160 results160 (by simp[E,a,c,d]) (hQ _ _ _ _ (.of (.v _)) ⟨false,h,rfl⟩)
theorem xD (ar:aD) (m:Match) (place:Int) (hp:kt ar m place):aB prog 160 [.agg (bC false ar),.agg (mC false m),int place] (fun r=>r=bool (iD ar m place)):=(tq ar m place _ (vV ar m place hp)).mono (by rintro _ ⟨_,rfl,rfl⟩;rfl)
theorem e164:aW prog 164:=aW.of func164 (by kernel_rfl) rfl
theorem qx {H0:az} {n0:Nat} {X1:Id} (c:Int) (v_:Match) (hX1:H0 X1=some ⟨2,[mC false v_]⟩) (Z:Bool->Prop) (h:gb c v_ Z):fL prog H0 n0 (.fn (.func 164) [] [.ptr X1 1 0 0]) [int c] (fun r=>∃ y:Bool,Z y/\r=bool y):=by
 unfold gb at h;refine⟨164,[],[.ptr X1 1 0 0],rfl,e164,?_⟩;refine cJ.of func164 rfl ntmps164 (by simp) fun Q hB hQ=>?_
 have lX1:X1.1<n0:=(hB X1 _ hX1).1;have neX1:∀ m d,n0<=m->(X1=(m,d))=False:=fun m d hm=>by simp only[eq_iff_iff,iff_false];rintro rfl;simp at lX1;omega
 have hfr:Frame n0 H0 H0:=Frame.refl _ _;have hn0:n0<=n0:=Nat.le_refl _;refine J.cut (fun O H n=>(O 0=int c/\O 1 = .ptr X1 1 0 0)/\H X1=some ⟨2,[mC false v_]⟩/\n0<=n/\Frame n0 H0 H) (by refine⟨?_,?_,?_,?_⟩<;>first | ((repeat (first | exact hfr | refine Frame.set (by first | omega | (simp;omega)) ?_));done) | omega | simp[hX1]) ?_;rintro O H U ⟨E,mX1,hn0,hfr⟩;have hn1:=Nat.le_succ_of_le hn0;have hn2:=Nat.le_succ_of_le hn1;refine zE fun _ V=>?_
 simp[E,mX1,hn0,hn1,hn2,neX1];apply V;refine zE fun _ V=>?_
 obtain⟨hb2,h⟩:=h;obtain⟨r3,er3,h⟩:=aC h;simp[E,mX1,hn0,hn1,hn2,neX1];refine zA (qF v_.nodes c hb2) EZ (.cons (eC false v_.nodes) (.cons (.v _ _ _) .nil)) (by simp[E,mX1,hn0,hn1,hn2,neX1]) ?_;rintro _ rfl;rw[<- er3];simp[E,mX1,hn0,hn1,hn2,neX1];apply V;exact J.bg (v:=bool (!r3)) func164 results164 (by simp[E,mX1,hn0,hn1,hn2,neX1]) (hQ _ _ _ _ (.pN (.v _)) (hfr) ⟨(!r3),h,rfl⟩)
theorem nd {H0:az} {n0:Nat} {X1:Id} (c:Int) (v_:Match) (hX1:H0 X1=some ⟨2,[mC false v_]⟩) (hp:dA c v_):fL prog H0 n0 (.fn (.func 164) [] [.ptr X1 1 0 0]) [int c] (fun r=>r=bool (dj c v_)):=(qx c v_ hX1 _ (sX c v_ hp)).mono (by rintro _ ⟨_,rfl,rfl⟩;rfl)
theorem e150:aW prog 150:=aW.of func150 (by kernel_rfl) rfl
theorem sr (I:aD) (ar:aD) (m:Match) (Z:Bool->Prop) (h:iq I ar m Z):aB prog 150 [.agg (bC false I),.agg (bC false ar),.agg (mC false m)] (fun r=>∃ y:Bool,Z y/\r=bool y):=by
 unfold iq at h;refine aB.of func150 rfl ntmps150 (by simp) fun Q hQ=>?_
 refine J.cut (fun O H n=>(O 0 = .agg (bC false I)/\O 1 = .agg (bC false ar)/\O 2 = .agg (mC false m))) (by first | (simp ;done) | omega | (simp;omega)) ?_;rintro O H U E;refine zE fun k' V=>?_
 simp[E];apply V;refine J.cut (fun O H n=>(O 3=pA U 3/\O 4=pA (U+1) 4/\O 5=pA (U+2) 5)/\H (U,3)=some ⟨6,[bC false I]⟩/\H (U+1,4)=some ⟨6,[bC false ar]⟩/\H (U+2,5)=some ⟨2,[mC false m]⟩/\U<n/\U+1<n/\U+2<n) (by refine⟨?_,?_,?_,?_,?_,?_,?_⟩<;>first | (simp[E];done) | omega | (simp;omega)) ?_;clear E;rintro O H n5 ⟨E,c,d,a,g3_1,g4_2,g5_3⟩;refine zS fun k' V=>?_
 obtain⟨kS,elen6,h⟩:=aC h;have f7:=fun H=>aE (H:=H) (fr:=false) (f:=(aA.cells false)) bK elen6
 simp[E,c,d,a,g3_1,g4_2,g5_3,f7,-aP];apply V;apply J.block;refine J.aG h (fun (sJ:Int) O H n=>match sJ with | v10=>(O 3=pA U 3/\O 4=pA (U+1) 4/\O 5=pA (U+2) 5/\O 16 = .list false (I.nodes.map (aA.cells false))/\O 17=int kS/\O 18=int v10)/\H (U,3)=some ⟨6,[bC false I]⟩/\H (U+1,4)=some ⟨6,[bC false ar]⟩/\H (U+2,5)=some ⟨2,[mC false m]⟩/\U<n/\U+1<n/\U+2<n) (by refine⟨?_,?_,?_,?_,?_,?_,?_⟩<;>first | (simp[E,c,d,a,g3_1,g4_2,g5_3];done) | omega | (simp;omega)) ?_;clear E c d a g3_1 g4_2 g5_3;rintro v10 O H n11 K h ⟨E,c,d,a,g3_1,g4_2,g5_3⟩ D;refine zE fun k' V=>?_
 obtain⟨ac,ad,h⟩:=aC h;have f15:=aY (k:=.i64) ad;simp[E,c,d,a,g3_1,g4_2,g5_3,f15,-ax];apply V;apply J.seq;refine J.ite (b:=ac) (by simp[E,c,d,a,g3_1,g4_2,g5_3]) (fun q=>?_) (fun q=>?_)
 ·replace h:=h.1 q;apply zK;apply J.block;refine zE fun k' V=>?_
  obtain⟨af,h⟩:=h;obtain⟨C,am,h⟩:=aC h;have f18:=fun H=>aL (H:=H) (fr:=false) (f:=(aA.cells false)) (k:=.i64) bK (fun _=>rfl) af am
  simp[E,c,d,a,g3_1,g4_2,g5_3,f18,q,-aw];apply V;refine J.cut (fun O H n=>(O 3=pA U 3/\O 4=pA (U+1) 4/\O 5=pA (U+2) 5/\O 7=int v10/\O 8=pA n11 8/\O 16 = .list false (I.nodes.map (aA.cells false))/\O 17=int kS/\O 18=int v10)/\H (U,3)=some ⟨6,[bC false I]⟩/\H (U+1,4)=some ⟨6,[bC false ar]⟩/\H (U+2,5)=some ⟨2,[mC false m]⟩/\H (n11,8)=some ⟨3,[[int C.control,int C.parent,.list false (C.links.map ay)]]⟩/\U<n/\U+1<n/\U+2<n/\n11<n) (by refine⟨?_,?_,?_,?_,?_,?_,?_,?_,?_⟩<;>first | (simp[E,c,d,a,g3_1,g4_2,g5_3,f18,q,-aw];done) | omega | (simp;omega)) ?_;clear E c d a g3_1 g4_2 g5_3;rintro O H n20 ⟨E,c,d,a,e,g3_1,g4_2,g5_3,g8_18⟩;refine J.seqN aH bN (by decide) (by kernel_rfl) fun k' V=>?_
  obtain⟨ao,h⟩:=h;obtain⟨ev,ap,h⟩:=aC h;have f23:=fun H=>aL (H:=H) (fr:=false) (f:=ay) (k:=.i64) aR (fun _=>rfl) ao ap
  obtain⟨av,h⟩:=h;obtain⟨F,a0,h⟩:=aC h;have f26:=fun H=>aL (H:=H) (fr:=false) (f:=(aA.cells false)) (k:=.i64) bK (fun _=>rfl) av a0
  simp[E,c,d,a,e,g3_1,g4_2,g5_3,g8_18,f23,f26,-aw];intro G ha27 qa27;clear qa27;refine⟨ha27,V _ _ _ ?_⟩;refine J.cut (fun O H n=>(O 3=pA U 3/\O 4=pA (U+1) 4/\O 5=pA (U+2) 5/\O 7=int v10/\O 8=pA n11 8/\O 9 = .ptr (G,9) 1 0 0/\O 16 = .list false (I.nodes.map (aA.cells false))/\O 17=int kS/\O 18=int v10)/\H (U,3)=some ⟨6,[bC false I]⟩/\H (U+1,4)=some ⟨6,[bC false ar]⟩/\H (U+2,5)=some ⟨2,[mC false m]⟩/\H (n11,8)=some ⟨3,[[int C.control,int C.parent,.list false (C.links.map ay)]]⟩/\H (G,9)=some ⟨3,[[int F.control,int F.parent,.list false (F.links.map ay)]]⟩/\U<n/\U+1<n/\U+2<n/\n11<n/\G<n) (by refine⟨?_,?_,?_,?_,?_,?_,?_,?_,?_,?_,?_⟩<;>first | (simp[E,c,d,a,e,g3_1,g4_2,g5_3,g8_18,f23,f26,-aw];done) | omega | (simp;omega)) ?_;clear E c d a e g3_1 g4_2 g5_3 g8_18;rintro O H n28 ⟨E,c,d,a,e,j,g3_1,g4_2,g5_3,g8_18,g9_26⟩;refine zE fun k' V=>?_
  simp[E,c,d,a,e,j,g3_1,g4_2,g5_3,g8_18,g9_26];apply V;refine zS fun k' V=>?_
  obtain⟨a1,a2,h⟩:=aC h;have f30:=nC (k:=.i64) a2;simp[E,c,d,a,e,j,g3_1,g4_2,g5_3,g8_18,g9_26,f30,-ax];apply V;refine J.ite (b:=a1) (by simp[E,c,d,a,e,j,g3_1,g4_2,g5_3,g8_18,g9_26]) (fun l=>?_) (fun l=>?_)
  ·replace h:=h.1 l;refine zF fun k' V=>?_
   obtain⟨a3,h⟩:=h;obtain⟨ex,a4,h⟩:=aC h;have f33:=fun H=>aL (H:=H) (fr:=false) (f:=ay) (k:=.i64) aR (fun _=>rfl) a3 a4
   simp[E,c,d,a,e,j,g3_1,g4_2,g5_3,g8_18,g9_26,f33,l,-aw];apply V;refine zS fun k' V=>?_
   obtain⟨a5,a9,bd⟩:=h;have R:∀ (sJ:Bool) (O:Env) (H:az) (n:Nat),a5 sJ->(match sJ with | L=>(O 3=pA U 3/\O 4=pA (U+1) 4/\O 5=pA (U+2) 5/\O 7=int v10/\O 16 = .list false (I.nodes.map (aA.cells false))/\O 17=int kS/\O 18=int v10/\O 58=bool L)/\H (U,3)=some ⟨6,[bC false I]⟩/\H (U+1,4)=some ⟨6,[bC false ar]⟩/\H (U+2,5)=some ⟨2,[mC false m]⟩/\U<n/\U+1<n/\U+2<n)->J prog 150 82 k' O H n Q:=by
    rintro L O H n39 h ⟨E,c,d,a,g3_1,g4_2,g5_3⟩;replace h:=bd _ h;apply V;refine J.ite (b:=L) (by simp[E,c,d,a,g3_1,g4_2,g5_3]) (fun g=>?_) (fun g=>?_)
    ·replace h:=h.1 g;refine zE fun k' V=>?_
     simp[E,c,d,a,g3_1,g4_2,g5_3,g];apply V;exact J.bg (v:=bool false) func150 results150 (by simp[E,c,d,a,g3_1,g4_2,g5_3,g]) (hQ _ _ _ _ (.of (.v _)) ⟨false,h,rfl⟩)
    replace h:=h.2 g;apply J.skip;refine zS fun k' V=>?_
    obtain⟨be,h⟩:=h;obtain⟨ey,bi,h⟩:=aC h;simp[E,c,d,a,g3_1,g4_2,g5_3,g];refine zA ((dU I v10 be).pure) CJ (.cons (bo false I) (.cons (.v _ _ _) .nil)) (by simp[E,c,d,a,g3_1,g4_2,g5_3,g]) ?_;rintro _ rfl;rw[<- bi];simp[E,c,d,a,g3_1,g4_2,g5_3,g];apply V;refine zE fun k' V=>?_
    obtain⟨e0,bk,h⟩:=aC h;have f43:=fun H=>aE (H:=H) (fr:=true) (f:=ay) aR bk
    obtain⟨bs,bv,h⟩:=aC h;have f45:=gM (k:=.i64) bv;simp[E,c,d,a,g3_1,g4_2,g5_3,f43,f45,g,-ax,-aP];apply V;refine J.ite (b:=bs) (by simp[E,c,d,a,g3_1,g4_2,g5_3,g]) (fun o=>?_) (fun o=>?_)
    ·replace h:=h.1 o;refine J.exit rfl ?_;refine zF fun k' V=>?_
     obtain⟨b0,h⟩:=h;obtain⟨b1,b2,h⟩:=aC h;have f48:=aU b0 b2;simp[E,c,d,a,g3_1,g4_2,g5_3,f48,g,o,-ax];apply V;refine D (b1) _ _ _ h (by refine⟨?_,?_,?_,?_,?_,?_,?_⟩<;>first | (simp[E,c,d,a,g3_1,g4_2,g5_3,g,o];done) | omega | (simp;omega))
    replace h:=h.2 o;apply J.skip;refine J.ed aH aF bN (by decide) (by kernel_rfl) fun k' V=>?_
    obtain⟨b3,h⟩:=h;obtain⟨b5,b7,h⟩:=aC h;have f51:=fun H=>aL (H:=H) (fr:=false) (f:=ay) (k:=.i64) aR (fun _=>rfl) b3 b7
    obtain⟨b8,h⟩:=h;obtain⟨T,b9,h⟩:=aC h;simp[E,c,d,a,g3_1,g4_2,g5_3,f51,g,o,-aw];refine bw.cd aH aF ((dU ar b5 b8).pure) CJ (.cons (bo false ar) (.cons (.v _ _ _) .nil)) (by decide) rfl (by simp[E,c,d,a,g3_1,g4_2,g5_3,f51,g,o,-aw]) ?_;rw[<- b9];simp[E,c,d,a,g3_1,g4_2,g5_3,f51,g,o,-aw];apply V;refine J.cut (fun O H n=>(O 3=pA U 3/\O 4=pA (U+1) 4/\O 5=pA (U+2) 5/\O 13 = .list true (T.1.map ay)/\O 16 = .list false (I.nodes.map (aA.cells false))/\O 17=int kS/\O 18=int v10)/\H (U,3)=some ⟨6,[bC false I]⟩/\H (U+1,4)=some ⟨6,[bC false ar]⟩/\H (U+2,5)=some ⟨2,[mC false m]⟩/\U<n/\U+1<n/\U+2<n) (by refine⟨?_,?_,?_,?_,?_,?_,?_⟩<;>first | (simp[E,c,d,a,g3_1,g4_2,g5_3,f51,g,o,-aw];done) | omega | (simp;omega)) ?_;clear E c d a g3_1 g4_2 g5_3;rintro O H e1 ⟨E,c,d,a,g3_1,g4_2,g5_3⟩;refine zE fun k' V=>?_
    obtain⟨W,h⟩:=h;obtain⟨cc,ce,h⟩:=aC h;simp[E,c,d,a,g3_1,g4_2,g5_3];refine bE.lH aH (dz true T.1 (fun z=>dj z m) W.1 (fun z hz=>nd z m a (W.2 z hz))) Dt (by decide) (by decide) rfl (by simp[E,c,d,a,g3_1,g4_2,g5_3]) ?_;rintro _ rfl;rw[<- ce];simp[E,c,d,a,g3_1,g4_2,g5_3];apply V;refine J.ite (b:=cc) (by simp[E,c,d,a,g3_1,g4_2,g5_3]) (fun t=>?_) (fun t=>?_)
    ·replace h:=h.1 t;refine zE fun k' V=>?_
     simp[E,c,d,a,g3_1,g4_2,g5_3,t];apply V;exact J.bg (v:=bool false) func150 results150 (by simp[E,c,d,a,g3_1,g4_2,g5_3,t]) (hQ _ _ _ _ (.of (.v _)) ⟨false,h,rfl⟩)
    replace h:=h.2 t;apply J.skip;refine zI fun k' V=>?_
    obtain⟨ci,h⟩:=h;obtain⟨v58,cj,h⟩:=aC h;have f59:=aU ci cj;simp[E,c,d,a,g3_1,g4_2,g5_3,f59,t,-ax];apply V;refine D (v58) _ _ _ h (by refine⟨?_,?_,?_,?_,?_,?_,?_⟩<;>first | (simp[E,c,d,a,g3_1,g4_2,g5_3,t];done) | omega | (simp;omega))
   replace h:=a9;obtain⟨ck,cl,h⟩:=aC h;have f61:=c4 (k:=.i64) cl;rcases Bool.eq_false_or_eq_true ck with u | u
   ·replace h:=h.1 u;simp[E,c,d,a,e,j,g3_1,g4_2,g5_3,g8_18,g9_26,f61,l,u,-ax];exact R (true) _ _ _ h (by refine⟨?_,?_,?_,?_,?_,?_,?_⟩<;>first | (simp[E,c,d,a,e,j,g3_1,g4_2,g5_3,g8_18,g9_26,f61,l,u,-ax];done) | omega | (simp;omega))
   replace h:=h.2 u;obtain⟨cm,co,h⟩:=aC h;have f63:=c4 (k:=.i64) co;simp[E,c,d,a,e,j,g3_1,g4_2,g5_3,g8_18,g9_26,f61,f63,l,u,-ax];exact R (cm) _ _ _ h (by refine⟨?_,?_,?_,?_,?_,?_,?_⟩<;>first | (simp[E,c,d,a,e,j,g3_1,g4_2,g5_3,g8_18,g9_26,f61,f63,l,u,-ax];done) | omega | (simp;omega))
  replace h:=h.2 l;refine zF fun k' V=>?_
  obtain⟨cp,h⟩:=h;obtain⟨e2,cs,h⟩:=aC h;have f66:=jL cp cs;obtain⟨c0,h⟩:=h;obtain⟨e3,c1,h⟩:=aC h;have f69:=fun H=>aL (H:=H) (fr:=false) (f:=ay) (k:=.i64) aR (fun _=>rfl) c0 c1
  simp[E,c,d,a,e,j,g3_1,g4_2,g5_3,g8_18,g9_26,f66,f69,l,-aw,-ax];apply V;refine zS fun k' V=>?_
  obtain⟨c2,c3,c6⟩:=h;have X:∀ (sJ:Bool) (O:Env) (H:az) (n:Nat),c2 sJ->(match sJ with | N=>(O 3=pA U 3/\O 4=pA (U+1) 4/\O 5=pA (U+2) 5/\O 7=int v10/\O 16 = .list false (I.nodes.map (aA.cells false))/\O 17=int kS/\O 18=int v10/\O 58=bool N)/\H (U,3)=some ⟨6,[bC false I]⟩/\H (U+1,4)=some ⟨6,[bC false ar]⟩/\H (U+2,5)=some ⟨2,[mC false m]⟩/\U<n/\U+1<n/\U+2<n)->J prog 150 82 k' O H n Q:=by
   rintro N O H e4 h ⟨E,c,d,a,g3_1,g4_2,g5_3⟩;replace h:=c6 _ h;apply V;refine J.ite (b:=N) (by simp[E,c,d,a,g3_1,g4_2,g5_3]) (fun i=>?_) (fun i=>?_)
   ·replace h:=h.1 i;refine zE fun k' V=>?_
    simp[E,c,d,a,g3_1,g4_2,g5_3,i];apply V;exact J.bg (v:=bool false) func150 results150 (by simp[E,c,d,a,g3_1,g4_2,g5_3,i]) (hQ _ _ _ _ (.of (.v _)) ⟨false,h,rfl⟩)
   replace h:=h.2 i;apply J.skip;refine zS fun k' V=>?_
   obtain⟨c7,h⟩:=h;obtain⟨e5,c9,h⟩:=aC h;simp[E,c,d,a,g3_1,g4_2,g5_3,i];refine zA ((dU I v10 c7).pure) CJ (.cons (bo false I) (.cons (.v _ _ _) .nil)) (by simp[E,c,d,a,g3_1,g4_2,g5_3,i]) ?_;rintro _ rfl;rw[<- c9];simp[E,c,d,a,g3_1,g4_2,g5_3,i];apply V;refine zE fun k' V=>?_
   obtain⟨e6,da,h⟩:=aC h;have f79:=fun H=>aE (H:=H) (fr:=true) (f:=ay) aR da
   obtain⟨dc,dk,h⟩:=aC h;have f81:=gM (k:=.i64) dk;simp[E,c,d,a,g3_1,g4_2,g5_3,f79,f81,i,-ax,-aP];apply V;refine J.ite (b:=dc) (by simp[E,c,d,a,g3_1,g4_2,g5_3,i]) (fun p=>?_) (fun p=>?_)
   ·replace h:=h.1 p;refine J.exit rfl ?_;refine zF fun k' V=>?_
    obtain⟨dl,h⟩:=h;obtain⟨dr,ds,h⟩:=aC h;have f84:=aU dl ds;simp[E,c,d,a,g3_1,g4_2,g5_3,f84,i,p,-ax];apply V;refine D (dr) _ _ _ h (by refine⟨?_,?_,?_,?_,?_,?_,?_⟩<;>first | (simp[E,c,d,a,g3_1,g4_2,g5_3,i,p];done) | omega | (simp;omega))
   replace h:=h.2 p;apply J.skip;refine J.ed aH aF bN (by decide) (by kernel_rfl) fun k' V=>?_
   obtain⟨d0,h⟩:=h;obtain⟨d1,d2,h⟩:=aC h;have f87:=fun H=>aL (H:=H) (fr:=false) (f:=ay) (k:=.i64) aR (fun _=>rfl) d0 d2
   obtain⟨d3,h⟩:=h;obtain⟨Y,d4,h⟩:=aC h;simp[E,c,d,a,g3_1,g4_2,g5_3,f87,i,p,-aw];refine bw.cd aH aF ((dU ar d1 d3).pure) CJ (.cons (bo false ar) (.cons (.v _ _ _) .nil)) (by decide) rfl (by simp[E,c,d,a,g3_1,g4_2,g5_3,f87,i,p,-aw]) ?_;rw[<- d4];simp[E,c,d,a,g3_1,g4_2,g5_3,f87,i,p,-aw];apply V;refine J.cut (fun O H n=>(O 3=pA U 3/\O 4=pA (U+1) 4/\O 5=pA (U+2) 5/\O 13 = .list true (Y.1.map ay)/\O 16 = .list false (I.nodes.map (aA.cells false))/\O 17=int kS/\O 18=int v10)/\H (U,3)=some ⟨6,[bC false I]⟩/\H (U+1,4)=some ⟨6,[bC false ar]⟩/\H (U+2,5)=some ⟨2,[mC false m]⟩/\U<n/\U+1<n/\U+2<n) (by refine⟨?_,?_,?_,?_,?_,?_,?_⟩<;>first | (simp[E,c,d,a,g3_1,g4_2,g5_3,f87,i,p,-aw];done) | omega | (simp;omega)) ?_;clear E c d a g3_1 g4_2 g5_3;rintro O H e7 ⟨E,c,d,a,g3_1,g4_2,g5_3⟩;refine zE fun k' V=>?_
   obtain⟨ab,h⟩:=h;obtain⟨d5,d6,h⟩:=aC h;simp[E,c,d,a,g3_1,g4_2,g5_3];refine bE.lH aH (dz true Y.1 (fun z=>dj z m) ab.1 (fun z hz=>nd z m a (ab.2 z hz))) Dt (by decide) (by decide) rfl (by simp[E,c,d,a,g3_1,g4_2,g5_3]) ?_;rintro _ rfl;rw[<- d6];simp[E,c,d,a,g3_1,g4_2,g5_3];apply V;refine J.ite (b:=d5) (by simp[E,c,d,a,g3_1,g4_2,g5_3]) (fun A=>?_) (fun A=>?_)
   ·replace h:=h.1 A;refine zE fun k' V=>?_
    simp[E,c,d,a,g3_1,g4_2,g5_3,A];apply V;exact J.bg (v:=bool false) func150 results150 (by simp[E,c,d,a,g3_1,g4_2,g5_3,A]) (hQ _ _ _ _ (.of (.v _)) ⟨false,h,rfl⟩)
   replace h:=h.2 A;apply J.skip;refine zI fun k' V=>?_
   obtain⟨d7,h⟩:=h;obtain⟨d8,d9,h⟩:=aC h;have f95:=aU d7 d9;simp[E,c,d,a,g3_1,g4_2,g5_3,f95,A,-ax];apply V;refine D (d8) _ _ _ h (by refine⟨?_,?_,?_,?_,?_,?_,?_⟩<;>first | (simp[E,c,d,a,g3_1,g4_2,g5_3,A];done) | omega | (simp;omega))
  replace h:=c3;obtain⟨eg,el,h⟩:=aC h;have f97:=c4 (k:=.i64) el;rcases Bool.eq_false_or_eq_true eg with B | B
  ·replace h:=h.1 B;simp[E,c,d,a,e,j,g3_1,g4_2,g5_3,g8_18,g9_26,f97,l,B,-ax];exact X (true) _ _ _ h (by refine⟨?_,?_,?_,?_,?_,?_,?_⟩<;>first | (simp[E,c,d,a,e,j,g3_1,g4_2,g5_3,g8_18,g9_26,f97,l,B,-ax];done) | omega | (simp;omega))
  replace h:=h.2 B;obtain⟨em,es,h⟩:=aC h;have f99:=c4 (k:=.i64) es;simp[E,c,d,a,e,j,g3_1,g4_2,g5_3,g8_18,g9_26,f97,f99,l,B,-ax];exact X (em) _ _ _ h (by refine⟨?_,?_,?_,?_,?_,?_,?_⟩<;>first | (simp[E,c,d,a,e,j,g3_1,g4_2,g5_3,g8_18,g9_26,f97,f99,l,B,-ax];done) | omega | (simp;omega))
 replace h:=h.2 q;refine J.exit rfl ?_;refine zE fun k' V=>?_
 simp[E,c,d,a,g3_1,g4_2,g5_3,q];apply V;exact J.bg (v:=bool true) func150 results150 (by simp[E,c,d,a,g3_1,g4_2,g5_3,q]) (hQ _ _ _ _ (.of (.v _)) ⟨true,h,rfl⟩)
theorem uz (I:aD) (ar:aD) (m:Match) (hp:jQ I ar m):aB prog 150 [.agg (bC false I),.agg (bC false ar),.agg (mC false m)] (fun r=>r=bool (eu I ar m)):=(sr I ar m _ (vO I ar m hp)).mono (by rintro _ ⟨_,rfl,rfl⟩;rfl)
theorem e151:aW prog 151:=aW.of func151 (by kernel_rfl) rfl
theorem qi (I:aD) (ar:aD) (nodes:List Int) (Z:((List Int) × Bool)->Prop) (h:gk I ar nodes Z):br prog 151 [.agg (bC false I),.agg (bC false ar),.list false (nodes.map ay)] (.t [.s [.c],.c]) (fun r=>∃ y:(List Int) × Bool,Z y/\r = .tup [.list true (y.1.map ay),bool y.2]):=by
 unfold gk at h;have M:Sep bA 0 [] []:=Sep.nil (by simp);refine br.of func151 rfl ntmps151 (by simp) fun Q hQ=>?_
 refine J.cut (fun O H n=>(O 0 = .agg (bC false I)/\O 1 = .agg (bC false ar)/\O 2 = .list false (nodes.map ay))/\Sep H n [] []) (by refine⟨by simp ,M⟩) ?_;rintro O H U ⟨E,M⟩;refine zE fun k' V=>?_
 simp[E];apply V;refine J.cut (fun O H n=>((O 2 = .list false (nodes.map ay)/\O 3=pA U 3/\O 4=pA (U+1) 4)/\H (U,3)=some ⟨6,[bC false I]⟩/\H (U+1,4)=some ⟨6,[bC false ar]⟩)/\Sep H n [] [(U+1,4),(U,3)]) (by refine⟨by simp[E],M.var.var⟩) ?_;clear E;rintro O H n4 ⟨⟨E,a,d⟩,M⟩;refine zE fun k' V=>?_
 obtain⟨kV,elen5,h⟩:=aC h;have f6:=fun H=>aE (H:=H) (fr:=false) (f:=bm) iY elen5
 obtain⟨hb7,h⟩:=h;obtain⟨v8,ev8,h⟩:=aC h;have f9:=aU hb7 ev8;obtain⟨b2,h⟩:=h;obtain⟨b3,b5,h⟩:=aC h;simp[E,a,d,f6,f9,-ax,-aP];refine zW (Av [(-1)] v8 b2) e165 (.cons (aM.listF (fr:=true) (els:=[(-1)].map ay) (by simp)) (.cons (.v _ _ _) .nil)) M (by simp[E,a,d,f6,f9,-ax,-aP]) ?_;rintro v12 f0 n14 _ M rfl f3 be;rw[<- b5] at M;have a:=(be _ (by simp)).trans a;have d:=(be _ (by simp)).trans d;simp[E,a,d,f6,f9,-ax,-aP];apply V;refine J.cut (fun O H n=>∃ (W:au),((O 2 = .list false (nodes.map ay)/\O 3=pA U 3/\O 4=pA (U+1) 4/\O 8=W)/\H (U,3)=some ⟨6,[bC false I]⟩/\H (U+1,4)=some ⟨6,[bC false ar]⟩)/\Sep H n [oI W b3] [(U+1,4),(U,3)]) (by refine⟨v12,by simp[E,a,d,f6,f9,-ax,-aP],M⟩) ?_;clear E a d;rintro O H n20 ⟨W,⟨E,a,d⟩,M⟩;refine zS fun k' V=>?_
 obtain⟨G,b7,h⟩:=aC h;have f22:=fun H=>aE (H:=H) (fr:=false) (f:=(aA.cells false)) bK b7
 simp[E,a,d,f22,-aP];apply V;apply J.block;refine J.aG h (fun (sJ:Int × (List Int)) O H n=>match sJ with | (v30,i)=>∃ (v32:au),((O 2 = .list false (nodes.map ay)/\O 3=pA U 3/\O 4=pA (U+1) 4/\O 8=v32/\O 28 = .list false (I.nodes.map (aA.cells false))/\O 29=int G/\O 30=int v30)/\H (U,3)=some ⟨6,[bC false I]⟩/\H (U+1,4)=some ⟨6,[bC false ar]⟩)/\Sep H n [oI v32 i] [(U+1,4),(U,3)]) (by refine⟨W,by simp[E,a,d],M⟩) ?_;clear E a d;rintro⟨v30,i⟩ O H n33 K h ⟨v32,⟨E,a,d⟩,M⟩ b8;refine zE fun k' V=>?_
 obtain⟨b9,cc,h⟩:=aC h;have f37:=aY (k:=.i64) cc;simp[E,a,d,f37,-ax];apply V;apply J.seq;refine J.ite (b:=b9) (by simp[E,a,d]) (fun A=>?_) (fun A=>?_)
 ·replace h:=h.1 A;apply zK;apply J.block;refine zE fun k' V=>?_
  obtain⟨ce,h⟩:=h;obtain⟨B,ci,h⟩:=aC h;have f40:=fun H=>aL (H:=H) (fr:=false) (f:=(aA.cells false)) (k:=.i64) bK (fun _=>rfl) ce ci
  simp[E,a,d,f40,A,-aw];apply V;refine J.cut (fun O H n=>∃ (X:au),((O 2 = .list false (nodes.map ay)/\O 3=pA U 3/\O 4=pA (U+1) 4/\O 8=X/\O 9=int v30/\O 10=pA n33 10/\O 28 = .list false (I.nodes.map (aA.cells false))/\O 29=int G/\O 30=int v30)/\H (U,3)=some ⟨6,[bC false I]⟩/\H (U+1,4)=some ⟨6,[bC false ar]⟩/\H (n33,10)=some ⟨3,[[int B.control,int B.parent,.list false (B.links.map ay)]]⟩)/\Sep H n [oI X i] [(n33,10),(U+1,4),(U,3)]) (by refine⟨v32,by simp[E,a,d,f40,A,-aw],M.var⟩) ?_;clear E a d;rintro O H n43 ⟨X,⟨E,a,d,am⟩,M⟩;refine zE fun k' V=>?_
  obtain⟨Y,cj,h⟩:=aC h;have f45:=fun H=>aE (H:=H) (fr:=false) (f:=ay) aR cj
  simp[E,a,d,am,f45,-aP];apply V;apply J.block;refine J.aG h (fun (sJ:Int × (List Int)) O H n=>match sJ with | (v53,e)=>∃ (v55:au),((O 2 = .list false (nodes.map ay)/\O 3=pA U 3/\O 4=pA (U+1) 4/\O 8=v55/\O 9=int v30/\O 28 = .list false (I.nodes.map (aA.cells false))/\O 29=int G/\O 30=int v30/\O 36 = .list false (B.links.map ay)/\O 37=int Y/\O 38=int v53)/\H (U,3)=some ⟨6,[bC false I]⟩/\H (U+1,4)=some ⟨6,[bC false ar]⟩)/\Sep H n [oI v55 e] [(U+1,4),(U,3)]) (by refine⟨X,by simp[E,a,d,am],(Sep.sub M (by simp +contextual))⟩) ?_;clear E a d am;rintro⟨v53,e⟩ O H f4 K h ⟨v55,⟨E,a,d⟩,M⟩ ck;refine zE fun k' V=>?_
  obtain⟨cl,cm,h⟩:=aC h;have f60:=aY (k:=.i64) cm;simp[E,a,d,f60,-ax];apply V;apply J.seq;refine J.ite (b:=cl) (by simp[E,a,d]) (fun o=>?_) (fun o=>?_)
  ·replace h:=h.1 o;apply zK;apply J.block;refine zE fun k' V=>?_
   obtain⟨co,h⟩:=h;obtain⟨L,cp,h⟩:=aC h;have f63:=fun H=>aL (H:=H) (fr:=false) (f:=ay) (k:=.i64) aR (fun _=>rfl) co cp
   simp[E,a,d,f63,o,-aw];apply V;refine J.ed aH aF bN (by decide) (by kernel_rfl) fun k' V=>?_
   obtain⟨cs,h⟩:=h;obtain⟨f5,c0,h⟩:=aC h;have f66:=fun H=>aL (H:=H) (fr:=false) (f:=ay) (k:=.i64) aR (fun _=>rfl) cs c0
   obtain⟨c1,h⟩:=h;obtain⟨f7,c2,h⟩:=aC h;have f69:=fun H=>aL (H:=H) (fr:=false) (f:=(aA.cells false)) (k:=.i64) bK (fun _=>rfl) c1 c2
   obtain⟨c3,h⟩:=h;obtain⟨ao,c6,h⟩:=aC h;have f72:=fun H=>aL (H:=H) (fr:=false) (f:=ay) (k:=.i64) aR (fun _=>rfl) c3 c6
   simp[E,a,d,f66,f69,f72,o,-aw];apply V;refine J.cut (fun O H n=>∃ (ap:au),((O 2 = .list false (nodes.map ay)/\O 3=pA U 3/\O 4=pA (U+1) 4/\O 8=ap/\O 9=int v30/\O 12=int L/\O 13=int ao/\O 28 = .list false (I.nodes.map (aA.cells false))/\O 29=int G/\O 30=int v30/\O 36 = .list false (B.links.map ay)/\O 37=int Y/\O 38=int v53)/\H (U,3)=some ⟨6,[bC false I]⟩/\H (U+1,4)=some ⟨6,[bC false ar]⟩)/\Sep H n [oI ap e] [(U+1,4),(U,3)]) (by refine⟨v55,by simp[E,a,d,f66,f69,f72,o,-aw],M⟩) ?_;clear E a d;rintro O H f8 ⟨ap,⟨E,a,d⟩,M⟩;refine zS fun k' V=>?_
   obtain⟨c7,c9,da⟩:=h;have bi:∀ (sJ:Bool) (O:Env) (H:az) (n:Nat),c7 sJ->(match sJ with | av=>∃ (v79:au),((O 2 = .list false (nodes.map ay)/\O 3=pA U 3/\O 4=pA (U+1) 4/\O 8=v79/\O 9=int v30/\O 12=int L/\O 13=int ao/\O 28 = .list false (I.nodes.map (aA.cells false))/\O 29=int G/\O 30=int v30/\O 36 = .list false (B.links.map ay)/\O 37=int Y/\O 38=int v53/\O 67=bool av)/\H (U,3)=some ⟨6,[bC false I]⟩/\H (U+1,4)=some ⟨6,[bC false ar]⟩)/\Sep H n [oI v79 e] [(U+1,4),(U,3)])->J prog 151 110 k' O H n Q:=by
    rintro av O H dc h ⟨v79,⟨E,a,d⟩,M⟩;replace h:=da _ h;apply V;refine J.ite (b:=av) (by simp[E,a,d]) (fun l=>?_) (fun l=>?_)
    ·replace h:=h.1 l;refine zE fun k' V=>?_
     simp[E,a,d,l];apply V;exact J.j5 (v:=.v (.slice none 0 0)) (w:=bool false) func151 results151 (by simp[E,a,d,l]) (by simp[E,a,d,l]) (hQ _ _ _ _ (Sep.sub (dD:=[]) (Sep.hd (Sep.jC (aV.own (aV.v _ aV.nil)) (Sep.nt M))) (by simp)) ⟨([],false),h,rfl⟩)
    replace h:=h.2 l;apply J.skip;refine zF fun k' V=>?_
    obtain⟨a0,h⟩:=h;obtain⟨a1,hv,dk,gc,N⟩:=Sep.fM M (by simp) a0;subst hv;simp at N;obtain⟨gd,dl,h⟩:=aC h;have f90:=fun H (hm:H a1=some ⟨1,e.map ay⟩)=>cP (H:=H) (k:=.i64) (off:=0) (len:=e.length) (g:=e.length) aR hm (by simp) rfl a0
    have f91:=cO (q:=L.toNat) a0 dl rfl;obtain⟨a2,ds,h⟩:=aC h;simp[E,a,d,dk,N,f90,f91,l,-aw,-bL];refine ei (q:=L.toNat) (news:=ay ao) [] [] M (by simp) (by simp;omega) (by simp) (by simp[-aT,cx]) (aV.v _ aV.nil) ?_;rintro d0 M bk;replace M:Sep d0 dc [oI (.arr a1 e.length 0 e.length) a2] [(U+1,4),(U,3)]:=Sep.st ds M;have a:=(bk _ (by simp)).trans a;have d:=(bk _ (by simp)).trans d;simp[E,a,d,N,f90,f91,l,-aw];apply V;refine J.cut (fun O H n=>∃ (ab:au),((O 2 = .list false (nodes.map ay)/\O 3=pA U 3/\O 4=pA (U+1) 4/\O 8=ab/\O 9=int v30/\O 28 = .list false (I.nodes.map (aA.cells false))/\O 29=int G/\O 30=int v30/\O 36 = .list false (B.links.map ay)/\O 37=int Y/\O 38=int v53)/\H (U,3)=some ⟨6,[bC false I]⟩/\H (U+1,4)=some ⟨6,[bC false ar]⟩)/\Sep H n [oI ab a2] [(U+1,4),(U,3)]) (by refine⟨.arr a1 e.length 0 e.length,by simp[E,a,d,N,f90,f91,l,-aw],M⟩) ?_;clear E a d N;rintro O H gg ⟨ab,⟨E,a,d⟩,M⟩;refine zI fun k' V=>?_
    obtain⟨d1,h⟩:=h;obtain⟨d2,d3,h⟩:=aC h;have f100:=aU d1 d3;simp[E,a,d,f100,-ax];apply V;refine ck (d2,a2) _ _ _ h (by refine⟨ab,by simp[E,a,d],M⟩)
   replace h:=c9;obtain⟨a3,h⟩:=h;obtain⟨ac,hv,ad,gi,R⟩:=Sep.fM M (by simp) a3;subst hv;simp at R;obtain⟨gj,a4,h⟩:=aC h;have f107:=fun H (hm:H ac=some ⟨1,e.map ay⟩)=>cP (H:=H) (k:=.i64) (off:=0) (len:=e.length) (g:=e.length) aR hm (by simp) rfl a3
   have f108:=cO (q:=L.toNat) a3 a4 rfl;obtain⟨d4,d5,h⟩:=aC h;have f110:=nC (k:=.i64) d5;rcases Bool.eq_false_or_eq_true d4 with C | C
   ·replace h:=h.1 C;obtain⟨bs,h⟩:=h;obtain⟨go,d6,h⟩:=aC h;have d7:=a4.trans d6.symm;subst d7;have f114:=fun H (hm:H ac=some ⟨1,e.map ay⟩)=>cP (H:=H) (k:=.i64) (off:=0) (len:=e.length) (g:=e.length) aR hm (by simp) rfl bs
    have f115:=cO (q:=L.toNat) bs a4 rfl;obtain⟨d8,d9,h⟩:=aC h;have f117:=c4 (k:=.i64) d9;simp[E,a,d,ad,R,f107,f108,f110,f114,f115,f117,C,-aw,-ax];exact bi (d8) _ _ _ h (by refine⟨.arr ac e.length 0 e.length,by simp[E,a,d,ad,R,f107,f108,f110,f114,f115,f117,C,-aw,-ax],M⟩)
   replace h:=h.2 C;simp[E,a,d,ad,R,f107,f108,f110,C,-aw,-ax];exact bi (false) _ _ _ h (by refine⟨.arr ac e.length 0 e.length,by simp[E,a,d,ad,R,f107,f108,f110,C,-aw,-ax],M⟩)
  replace h:=h.2 o;refine J.exit rfl ?_;refine zI fun k' V=>?_
  obtain⟨eg,h⟩:=h;obtain⟨el,em,h⟩:=aC h;have f120:=aU eg em;simp[E,a,d,f120,o,-ax];apply V;refine b8 (el,e) _ _ _ h (by refine⟨v55,by simp[E,a,d,o],M⟩)
 replace h:=h.2 A;refine J.exit rfl ?_;refine zS fun k' V=>?_
 simp[E,a,d,A];apply V;apply J.block;refine J.aG h (fun (sJ:Int) O H n=>match sJ with | v124=>∃ (T:au),((O 3=pA U 3/\O 4=pA (U+1) 4/\O 8=T/\O 75=int I.edges/\O 76=int v124)/\H (U,3)=some ⟨6,[bC false I]⟩/\H (U+1,4)=some ⟨6,[bC false ar]⟩)/\Sep H n [oI T i] [(U+1,4),(U,3)]) (by refine⟨v32,by simp[E,a,d,A],M⟩) ?_;clear E a d;rintro v124 O H n126 K h ⟨T,⟨E,a,d⟩,M⟩ es;refine zE fun k' V=>?_
 obtain⟨ev,ex,h⟩:=aC h;have f130:=aY (k:=.i64) ex;simp[E,a,d,f130,-ax];apply V;apply J.seq;refine J.ite (b:=ev) (by simp[E,a,d]) (fun j=>?_) (fun j=>?_)
 ·replace h:=h.1 j;apply zK;apply J.block;refine zE fun k' V=>?_
  simp[E,a,d,j];apply V;refine zE fun k' V=>?_
  obtain⟨ey,h⟩:=h;obtain⟨e0,e1,h⟩:=aC h;simp[E,a,d,j];refine zW (lB I v124 ey) e146 (.cons (bo false I) (.cons (.v _ _ _) .nil)) M (by simp[E,a,d,j]) ?_;rintro fh gs n135 _ M rfl gu bv;rw[<- e1] at M;have a:=(bv _ (by simp)).trans a;have d:=(bv _ (by simp)).trans d;replace M:=Sep.qH M;obtain⟨L141,hv,e2,M⟩:=M;subst hv;obtain⟨v139,gv,hv⟩:=cq (by simpa using e2);subst hv;simp only[fu,List.cons_append,List.nil_append] at M;replace M:=Sep.nF M;replace M:=Sep.nF M;try simp only[List.append_eq,List.cons_append,List.nil_append,List.append_assoc] at M
  simp[E,a,d,j];apply V;refine J.cut (fun O H n=>∃ (v145 v146:au),((O 3=pA U 3/\O 4=pA (U+1) 4/\O 8=v145/\O 14=int v124/\O 15=v146/\O 75=int I.edges/\O 76=int v124)/\H (U,3)=some ⟨6,[bC false I]⟩/\H (U+1,4)=some ⟨6,[bC false ar]⟩)/\Sep H n [oI v145 i,oE [.c,.c] cb v146 e0.1] [(U+1,4),(U,3)]) (by refine⟨T,v139,by simp[E,a,d,j],M.f2.dr⟩) ?_;clear E a d;rintro O H n147 ⟨v145,v146,⟨E,a,d⟩,M⟩;refine J.ed aH aF bN (by decide) (by kernel_rfl) fun k' V=>?_
  obtain⟨a5,h⟩:=h;obtain⟨af,hv,D,gw,p⟩:=Sep.fM M (by simp) a5;subst hv;simp at p;obtain⟨e3,a9,h⟩:=aC h;have f154:=fun H (hm:H af=some ⟨1,i.map ay⟩)=>cP (H:=H) (k:=.i64) (off:=0) (len:=i.length) (g:=i.length) aR hm (by simp) rfl a5
  have f155:=cO (q:=v124.toNat) a5 a9 rfl;obtain⟨e4,h⟩:=h;obtain⟨gY,e5,h⟩:=aC h;simp[E,a,d,D,p,f154,f155,-aw];refine bw.cd aH aF ((lB ar e3 e4).pure) e146 (.cons (bo false ar) (.cons (.v _ _ _) .nil)) (by decide) rfl (by simp[E,a,d,D,p,f154,f155,-aw]) ?_;rw[<- e5];simp[E,a,d,D,p,f154,f155,-aw];apply V;refine J.ed aH aF bN (by decide) (by kernel_rfl) fun k' V=>?_
  obtain⟨e6,e7,e8⟩:=h;have b0:∀ (sJ:Bool) (O:Env) (H:az) (n:Nat),e6 sJ->(match sJ with | bd=>∃ (v162:au),((O 3=pA U 3/\O 4=pA (U+1) 4/\O 8=v162/\O 75=int I.edges/\O 76=int v124/\O 107=bool bd)/\H (U,3)=some ⟨6,[bC false I]⟩/\H (U+1,4)=some ⟨6,[bC false ar]⟩)/\Sep H n [oI v162 i] [(U+1,4),(U,3)])->J prog 151 110 k' O H n Q:=by
   rintro bd O H n164 h ⟨v162,⟨E,a,d⟩,M⟩;replace h:=e8 _ h;apply V;refine J.ite (b:=bd) (by simp[E,a,d]) (fun u=>?_) (fun u=>?_)
   ·replace h:=h.1 u;refine zE fun k' V=>?_
    simp[E,a,d,u];apply V;exact J.j5 (v:=.v (.slice none 0 0)) (w:=bool false) func151 results151 (by simp[E,a,d,u]) (by simp[E,a,d,u]) (hQ _ _ _ _ (Sep.sub (dD:=[]) (Sep.hd (Sep.jC (aV.own (aV.v _ aV.nil)) (Sep.nt M))) (by simp)) ⟨([],false),h,rfl⟩)
   replace h:=h.2 u;apply J.skip;refine zI fun k' V=>?_
   obtain⟨e9,h⟩:=h;obtain⟨v168,fd,h⟩:=aC h;have f169:=aU e9 fd;simp[E,a,d,f169,u,-ax];apply V;refine es (v168) _ _ _ h (by refine⟨v162,by simp[E,a,d,u],M⟩)
  replace h:=e7;obtain⟨b1,h⟩:=h;obtain⟨g0,fe,h⟩:=aC h;have fk:=a9.trans fe.symm;subst fk;have f173:=fun H (hm:H af=some ⟨1,i.map ay⟩)=>cP (H:=H) (k:=.i64) (off:=0) (len:=i.length) (g:=i.length) aR hm (by simp) rfl b1
  have f174:=cO (q:=v124.toNat) b1 a9 rfl;obtain⟨fl,fn,h⟩:=aC h;have f176:=nC (k:=.i64) fn;rcases Bool.eq_false_or_eq_true fl with F | F
  ·replace h:=h.1 F;simp[E,a,d,D,p,f173,f174,f176,F,-aw,-ax];exact b0 (true) _ _ _ h (by refine⟨.arr af i.length 0 i.length,by simp[E,a,d,D,p,f173,f174,f176,F,-aw,-ax],M.f1.dr⟩)
  replace h:=h.2 F;obtain⟨g1,fo,h⟩:=aC h;have f178:=fun H=>aE (H:=H) (fr:=true) (f:=cb) fJ fo
  obtain⟨fs,fv,h⟩:=aC h;have f180:=eb (Sep.len (m:=fs) M.f1 fJ (by rw[fv,List.length_map]));obtain⟨fx,fz,h⟩:=aC h;have f182:=c4 (k:=.i64) fz;simp[E,a,d,D,p,f173,f174,f176,f178,f180,f182,F,-aw,-ax,-aP];exact b0 (fx) _ _ _ h (by refine⟨.arr af i.length 0 i.length,by simp[E,a,d,D,p,f173,f174,f176,f178,f180,f182,F,-aw,-ax,-aP],M.f1.dr⟩)
 replace h:=h.2 j;refine J.exit rfl ?_;refine zE fun k' V=>?_
 simp[E,a,d,j];apply V;exact J.j5 (v:=T) (w:=bool true) func151 results151 (by simp[E,a,d,j]) (by simp[E,a,d,j]) (hQ _ _ _ _ (Sep.sub (dD:=[]) (Sep.jC (aV.own (aV.v _ aV.nil)) M) (by simp)) ⟨(i,true),h,rfl⟩)
theorem tA (I:aD) (ar:aD) (nodes:List Int) (hp:dv I ar nodes):br prog 151 [.agg (bC false I),.agg (bC false ar),.list false (nodes.map ay)] (.t [.s [.c],.c]) (fun r=>r = .tup [.list true (((eQ I ar nodes).1).map ay),bool ((eQ I ar nodes).2)]):=(qi I ar nodes _ (tx I ar nodes hp)).mono (by rintro _ ⟨_,rfl,rfl⟩;rfl)
theorem e148:aW prog 148:=aW.of func148 (by kernel_rfl) rfl
theorem tk {H0:az} {n0:Nat} {X1:Id} {X2:Id} (p:Int) (v_:aD) (v_':Match) (hX1:H0 X1=some ⟨6,[bC false v_]⟩) (hX2:H0 X2=some ⟨2,[mC false v_']⟩) (Z:Bool->Prop) (h:jz p v_ v_' Z):fL prog H0 n0 (.fn (.func 148) [] [.ptr X1 1 0 0,.ptr X2 1 0 0]) [int p] (fun r=>∃ y:Bool,Z y/\r=bool y):=by
 unfold jz at h;refine⟨148,[],[.ptr X1 1 0 0,.ptr X2 1 0 0],rfl,e148,?_⟩;refine cJ.of func148 rfl ntmps148 (by simp) fun Q hB hQ=>?_
 have lX1:X1.1<n0:=(hB X1 _ hX1).1;have lX2:X2.1<n0:=(hB X2 _ hX2).1;have neX1:∀ m d,n0<=m->(X1=(m,d))=False:=fun m d hm=>by simp only[eq_iff_iff,iff_false];rintro rfl;simp at lX1;omega
 have neX2:∀ m d,n0<=m->(X2=(m,d))=False:=fun m d hm=>by simp only[eq_iff_iff,iff_false];rintro rfl;simp at lX2;omega
 have hfr:Frame n0 H0 H0:=Frame.refl _ _;have hn0:n0<=n0:=Nat.le_refl _;refine J.cut (fun O H n=>(O 0=int p/\O 1 = .ptr X1 1 0 0/\O 2 = .ptr X2 1 0 0)/\H X1=some ⟨6,[bC false v_]⟩/\H X2=some ⟨2,[mC false v_']⟩/\n0<=n/\Frame n0 H0 H) (by refine⟨?_,?_,?_,?_,?_⟩<;>first | ((repeat (first | exact hfr | refine Frame.set (by first | omega | (simp;omega)) ?_));done) | omega | simp[hX1,hX2]) ?_;rintro O H U ⟨E,mX1,mX2,hn0,hfr⟩;have hn1:=Nat.le_succ_of_le hn0;have hn2:=Nat.le_succ_of_le hn1;refine zE fun k' V=>?_
 simp[E,mX1,mX2,hn0,hn1,hn2,neX1,neX2];apply V;refine zE fun k' V=>?_
 obtain⟨J2,hJ3,hr4⟩:=h;have fin6:∀ (sJ:Bool) (O:Env) (H:az) (n:Nat),J2 sJ->(match sJ with | b5=>O 4=bool b5/\H X1=some ⟨6,[bC false v_]⟩/\H X2=some ⟨2,[mC false v_']⟩/\n0<=n/\Frame n0 H0 H)->J prog 148 22 k' O H n Q:=by
  rintro b5 O H n7 h ⟨E,mX1,mX2,hn0,hfr⟩;have hn1:=Nat.le_succ_of_le hn0;have hn2:=Nat.le_succ_of_le hn1;replace h:=hr4 _ h;apply V;exact J.bg (v:=bool b5) func148 results148 (by simp[E,mX1,mX2,hn0,hn1,hn2,neX1,neX2]) (hQ _ _ _ _ (.pN (.v _)) (hfr) ⟨b5,h,rfl⟩)
 replace h:=hJ3;obtain⟨hb8,h⟩:=h;obtain⟨v9,ev9,h⟩:=aC h;have f10:=zq hb8 ev9;obtain⟨pd,b,h⟩:=aC h;have f12:=fun H=>aE (H:=H) (fr:=false) (f:=(aA.cells false)) bK b
 obtain⟨c,h⟩:=h;obtain⟨e,g,h⟩:=aC h;have f15:=jL c g;obtain⟨i,j,h⟩:=aC h;simp[E,mX1,mX2,hn0,hn1,hn2,neX1,neX2,f10,f12,f15,-ax,-aP,-uE,eN];refine zA (dT p v9 e ) te (.cons (.v _ _ _) (.cons (.v _ _ _) (.cons (.v _ _ _) .nil))) (by simp[E,mX1,mX2,hn0,hn1,hn2,neX1,neX2,f10,f12,f15,-ax,-aP,-uE,eN]) ?_;rintro _ rfl;rw[<- j];rcases Bool.eq_false_or_eq_true i with a | a
 ·replace h:=h.1 a;obtain⟨l,h⟩:=h;obtain⟨o,q,h⟩:=aC h;simp[E,mX1,mX2,hn0,hn1,hn2,neX1,neX2,f10,f12,f15,a,-ax,-aP,-uE,eN];refine zA (yq v_ p v_'.nodes l) e149 (.cons (bo false v_) (.cons (.v _ _ _) (.cons (eC false v_'.nodes) .nil))) (by simp[E,mX1,mX2,hn0,hn1,hn2,neX1,neX2,f10,f12,f15,a,-ax,-aP,-uE,eN]) ?_;rintro _ rfl;rw[<- q];simp[E,mX1,mX2,hn0,hn1,hn2,neX1,neX2,f10,f12,f15,a,-ax,-aP,-uE,eN];exact fin6 (o) _ _ _ h (by refine⟨?_,?_,?_,?_,?_⟩<;>first | ((repeat (first | exact hfr | refine Frame.set (by first | omega | (simp;omega)) ?_));done) | omega | simp[E,mX1,mX2,hn0,hn1,hn2,neX1,neX2,f10,f12,f15,a,-ax,-aP,-uE,eN])
 replace h:=h.2 a;simp[E,mX1,mX2,hn0,hn1,hn2,neX1,neX2,f10,f12,f15,a,-ax,-aP,-uE,eN];exact fin6 (true) _ _ _ h (by refine⟨?_,?_,?_,?_,?_⟩<;>first | ((repeat (first | exact hfr | refine Frame.set (by first | omega | (simp;omega)) ?_));done) | omega | simp[E,mX1,mX2,hn0,hn1,hn2,neX1,neX2,f10,f12,f15,a,-ax,-aP,-uE,eN])
theorem yb {H0:az} {n0:Nat} {X1:Id} {X2:Id} (p:Int) (v_:aD) (v_':Match) (hX1:H0 X1=some ⟨6,[bC false v_]⟩) (hX2:H0 X2=some ⟨2,[mC false v_']⟩) (hp:kM p v_ v_'):fL prog H0 n0 (.fn (.func 148) [] [.ptr X1 1 0 0,.ptr X2 1 0 0]) [int p] (fun r=>r=bool (fI p v_ v_')):=(tk p v_ v_' hX1 hX2 _ (xe p v_ v_' hp)).mono (by rintro _ ⟨_,rfl,rfl⟩;rfl)
theorem e113:aW prog 113:=aW.of func113 (by kernel_rfl) rfl
theorem u5 (I:aD) (ar:aD) (m:Match) (Z:Bool->Prop) (h:kB I ar m Z):aB prog 113 [.agg (bC false I),.agg (bC false ar),.agg (mC false m)] (fun r=>∃ y:Bool,Z y/\r=bool y):=by
 unfold kB at h;refine aB.of func113 rfl ntmps113 (by simp) fun Q hQ=>?_
 refine J.cut (fun O H n=>(O 0 = .agg (bC false I)/\O 1 = .agg (bC false ar)/\O 2 = .agg (mC false m))) (by simp) ?_;rintro O H U E;refine zE fun k' V=>?_
 simp[E];apply V;refine J.cut (fun O H n=>(O 3=pA U 3/\O 4=pA (U+1) 4/\O 5=pA (U+2) 5)/\H (U,3)=some ⟨6,[bC false I]⟩/\H (U+1,4)=some ⟨6,[bC false ar]⟩/\H (U+2,5)=some ⟨2,[mC false m]⟩) (by refine⟨?_,?_,?_,?_⟩<;>simp[E]) ?_;clear E;rintro O H n5 ⟨E,e,c,d⟩;refine zS fun k' V=>?_
 obtain⟨J6,hJ7,hr8⟩:=h;have B:∀ (sJ:Bool) (O:Env) (H:az) (n:Nat),J6 sJ->(match sJ with | b9=>(O 3=pA U 3/\O 4=pA (U+1) 4/\O 5=pA (U+2) 5/\O 25=bool b9)/\H (U,3)=some ⟨6,[bC false I]⟩/\H (U+1,4)=some ⟨6,[bC false ar]⟩/\H (U+2,5)=some ⟨2,[mC false m]⟩)->J prog 113 65 k' O H n Q:=by
  rintro b9 O H n11 h ⟨E,e,c,d⟩;replace h:=hr8 _ h;apply V;refine J.ite (b:=b9) (by simp[E,e,c,d]) (fun db9=>?_) (fun db9=>?_)
  ·replace h:=h.1 db9;refine zE fun k' V=>?_
   simp[E,e,c,d,db9];apply V;exact J.bg (v:=bool false) func113 results113 (by simp[E,e,c,d,db9]) (hQ _ _ _ _ (.of (.v _)) ⟨false,h,rfl⟩)
  replace h:=h.2 db9;apply J.skip;refine zS fun k' V=>?_
  obtain⟨cD,L,h⟩:=aC h;have f13:=fun H=>aE (H:=H) (fr:=false) (f:=ay) aR L
  simp[E,e,c,d,f13,db9,-aP];apply V;apply J.block;refine J.aG h (fun (sJ:Int) O H n=>match sJ with | q=>(O 3=pA U 3/\O 4=pA (U+1) 4/\O 5=pA (U+2) 5/\O 27 = .list false (m.nodes.map ay)/\O 28=int cD/\O 29=int q)/\H (U,3)=some ⟨6,[bC false I]⟩/\H (U+1,4)=some ⟨6,[bC false ar]⟩/\H (U+2,5)=some ⟨2,[mC false m]⟩) (by refine⟨?_,?_,?_,?_⟩<;>simp[E,e,c,d,db9]) ?_;clear E e c d;rintro q O H n17 K h ⟨E,e,c,d⟩ N;refine zE fun k' V=>?_
  obtain⟨R,T,h⟩:=aC h;have f21:=aY (k:=.i64) T;simp[E,e,c,d,f21,-ax];apply V;apply J.seq;refine J.ite (b:=R) (by simp[E,e,c,d]) (fun g=>?_) (fun g=>?_)
  ·replace h:=h.1 g;apply zK;apply J.block;refine zE fun k' V=>?_
   obtain⟨W,h⟩:=h;obtain⟨C,X,h⟩:=aC h;have f24:=fun H=>aL (H:=H) (fr:=false) (f:=ay) (k:=.i64) aR (fun _=>rfl) W X
   simp[E,e,c,d,f24,g,-aw];apply V;refine zE fun k' V=>?_
   obtain⟨Y,ab,ac⟩:=h;have D:∀ (sJ:Bool) (O:Env) (H:az) (n:Nat),Y sJ->(match sJ with | t=>(O 3=pA U 3/\O 4=pA (U+1) 4/\O 5=pA (U+2) 5/\O 27 = .list false (m.nodes.map ay)/\O 28=int cD/\O 29=int q/\O 45=bool t)/\H (U,3)=some ⟨6,[bC false I]⟩/\H (U+1,4)=some ⟨6,[bC false ar]⟩/\H (U+2,5)=some ⟨2,[mC false m]⟩)->J prog 113 65 k' O H n Q:=by
    rintro t O H n30 h ⟨E,e,c,d⟩;replace h:=ac _ h;apply V;refine J.ite (b:=t) (by simp[E,e,c,d]) (fun o=>?_) (fun o=>?_)
    ·replace h:=h.1 o;refine zE fun k' V=>?_
     simp[E,e,c,d,o];apply V;exact J.bg (v:=bool false) func113 results113 (by simp[E,e,c,d,o]) (hQ _ _ _ _ (.of (.v _)) ⟨false,h,rfl⟩)
    replace h:=h.2 o;apply J.skip;refine zI fun k' V=>?_
    obtain⟨ad,h⟩:=h;obtain⟨v32,af,h⟩:=aC h;have f33:=aU ad af;simp[E,e,c,d,f33,o,-ax];apply V;refine N (v32) _ _ _ h (by refine⟨?_,?_,?_,?_⟩<;>simp[E,e,c,d,o])
   replace h:=ab;obtain⟨am,h⟩:=h;obtain⟨ao,ap,h⟩:=aC h;simp[E,e,c,d,g];refine zA (yI ar C am) e147 (.cons (bo false ar) (.cons (.v _ _ _) .nil)) (by simp[E,e,c,d,g]) ?_;rintro _ rfl;rw[<- ap];rcases Bool.eq_false_or_eq_true ao with l | l
   ·replace h:=h.1 l;obtain⟨av,h⟩:=h;obtain⟨F,a0,h⟩:=aC h;have f38:=fun H=>oe (H:=H) (fr:=false) (f:=ay) (lo:=none) (hi:=some (int q)) (a:=0) (b:=q) (by simp[bB]) (by simp[bB]) aR (fun _=>rfl) av a0
    obtain⟨a1,h⟩:=h;obtain⟨a2,a3,h⟩:=aC h;simp[E,e,c,d,f38,g,l,-ca];refine zA (qF F C a1) EZ (.cons (eC false F) (.cons (.v _ _ _) .nil)) (by simp[E,e,c,d,f38,g,l,-ca]) ?_;rintro _ rfl;rw[<- a3];simp[E,e,c,d,f38,g,l,-ca];exact D (a2) _ _ _ h (by refine⟨?_,?_,?_,?_⟩<;>simp[E,e,c,d,f38,g,l,-ca])
   replace h:=h.2 l;simp[E,e,c,d,g,l];exact D (true) _ _ _ h (by refine⟨?_,?_,?_,?_⟩<;>simp[E,e,c,d,g,l])
  replace h:=h.2 g;refine J.exit rfl ?_;refine zS fun k' V=>?_
  obtain⟨G,h⟩:=h;obtain⟨a4,a5,h⟩:=aC h;simp[E,e,c,d,g];refine bE.lH aH (dz false m.roots (fun z=>fI z ar m) G.1 (fun z hz=>yb z ar m c d (G.2 z hz))) Dt (by decide) (by decide) rfl (by simp[E,e,c,d,g]) ?_;rintro _ rfl;rw[<- a5];simp[E,e,c,d,g];apply V;refine J.ite (b:=a4) (by simp[E,e,c,d,g]) (fun i=>?_) (fun i=>?_)
  ·replace h:=h.1 i;refine zE fun k' V=>?_
   simp[E,e,c,d,g,i];apply V;exact J.bg (v:=bool false) func113 results113 (by simp[E,e,c,d,g,i]) (hQ _ _ _ _ (.of (.v _)) ⟨false,h,rfl⟩)
  replace h:=h.2 i;apply J.skip;refine zS fun k' V=>?_
  obtain⟨a9,h⟩:=h;obtain⟨u,bd,h⟩:=aC h;simp[E,e,c,d,g,i];refine zA (uz I ar m a9) e150 (.cons (bo false I) (.cons (bo false ar) (.cons (As false m) .nil))) (by simp[E,e,c,d,g,i]) ?_;rintro _ rfl;rw[<- bd];simp[E,e,c,d,g,i];apply V;refine J.ite (b:=(!u)) (by simp[E,e,c,d,g,i]) (fun j=>?_) (fun j=>?_)
  ·have j:u=false:=by simpa using j
   replace h:=h.2 j;refine zE fun k' V=>?_
   simp[E,e,c,d,g,i,j];apply V;exact J.bg (v:=bool false) func113 results113 (by simp[E,e,c,d,g,i,j]) (hQ _ _ _ _ (.of (.v _)) ⟨false,h,rfl⟩)
  have j:u=true:=by simpa using j
  replace h:=h.1 j;apply J.skip;refine zE fun k' V=>?_
  obtain⟨be,h⟩:=h;obtain⟨A,bi,h⟩:=aC h;simp[E,e,c,d,g,i,j];refine zA ((tA I ar m.nodes be).pure) e151 (.cons (bo false I) (.cons (bo false ar) (.cons (eC false m.nodes) .nil))) (by simp[E,e,c,d,g,i,j]) ?_;rintro _ rfl;rw[<- bi];simp[E,e,c,d,g,i,j];apply V;refine J.cut (fun O H n=>O 10=bool A.2) (by simp[E,e,c,d,g,i,j]) ?_;clear E e c d;rintro O H n47 E;refine zE fun k' V=>?_
  simp[E];apply V;exact J.bg (v:=bool A.2) func113 results113 (by simp[E]) (hQ _ _ _ _ (.of (.v _)) ⟨A.2,h,rfl⟩)
 replace h:=hJ7;obtain⟨b5,bk,h⟩:=aC h;have f49:=fun H=>aE (H:=H) (fr:=false) (f:=ay) aR bk
 obtain⟨b7,bs,h⟩:=aC h;have f51:=fun H=>aE (H:=H) (fr:=false) (f:=(aA.cells false)) bK bs
 obtain⟨bv,b0,h⟩:=aC h;have f53:=c4 (k:=.i64) b0;rcases Bool.eq_false_or_eq_true bv with p | p
 ·replace h:=h.1 p;simp[E,e,c,d,f49,f51,f53,p,-ax,-aP];exact B (true) _ _ _ h (by refine⟨?_,?_,?_,?_⟩<;>simp[E,e,c,d,f49,f51,f53,p,-ax,-aP])
 replace h:=h.2 p;obtain⟨b8,b1,h⟩:=aC h;have f55:=fun H=>aE (H:=H) (fr:=false) (f:=ay) aR b1
 obtain⟨b2,b3,h⟩:=aC h;have f57:=c4 (k:=.i64) b3;simp[E,e,c,d,f49,f51,f53,f55,f57,p,-ax,-aP];exact B (b2) _ _ _ h (by refine⟨?_,?_,?_,?_⟩<;>simp[E,e,c,d,f49,f51,f53,f55,f57,p,-ax,-aP])
theorem Ac (I:aD) (ar:aD) (m:Match) (hp:jt I ar m):aB prog 113 [.agg (bC false I),.agg (bC false ar),.agg (mC false m)] (fun r=>r=bool (isMatch I ar m)):=(u5 I ar m _ (zj I ar m hp)).mono (by rintro _ ⟨_,rfl,rfl⟩;rfl)
theorem e57:aW prog 57:=aW.of func57 (by kernel_rfl) rfl
theorem qk (sig:List Control) (I:aD) (ar:aD) (Z:Bool->Prop) (h:fW sig I ar Z):aB prog 57 [.list false (sig.map Control.cells),.agg (bC false I),.agg (bC false ar)] (fun r=>∃ y:Bool,Z y/\r=bool y):=by
 unfold fW at h;refine aB.of func57 rfl ntmps57 (by simp) fun Q hQ=>?_
 refine J.cut (fun O H n=>(O 0 = .list false (sig.map Control.cells)/\O 1 = .agg (bC false I)/\O 2 = .agg (bC false ar))) (by simp) ?_;rintro O H U E;refine zE fun k' V=>?_
 simp[E];apply V;refine J.cut (fun O H n=>(O 0 = .list false (sig.map Control.cells)/\O 4=pA U 4/\O 5=pA (U+1) 5)/\H (U,4)=some ⟨6,[bC false I]⟩/\H (U+1,5)=some ⟨6,[bC false ar]⟩) (by refine⟨?_,?_,?_⟩<;>simp[E]) ?_;clear E;rintro O H n4 ⟨E,b,c⟩;refine zE fun k' V=>?_
 obtain⟨J5,hJ6,hr7⟩:=h;have fin9:∀ (sJ:Bool) (O:Env) (H:az) (n:Nat),J5 sJ->(match sJ with | b8=>O 6=bool b8)->J prog 57 19 k' O H n Q:=by
  rintro b8 O H n10 h E;replace h:=hr7 _ h;apply V;exact J.bg (v:=bool b8) func57 results57 (by simp[E]) (hQ _ _ _ _ (.of (.v _)) ⟨b8,h,rfl⟩)
 replace h:=hJ6;obtain⟨e,h⟩:=h;obtain⟨g,i,h⟩:=aC h;simp[E,b,c];refine zA (ou sig I e) e68 (.cons (lp false sig) (.cons (bo false I) .nil)) (by simp[E,b,c]) ?_;rintro _ rfl;rw[<- i];rcases Bool.eq_false_or_eq_true g with a | a
 ·replace h:=h.1 a;obtain⟨j,h⟩:=h;obtain⟨l,o,h⟩:=aC h;simp[E,b,c,a];refine zA (za I j) e69 (.cons (bo false I) .nil) (by simp[E,b,c,a]) ?_;rintro _ rfl;rw[<- o];rcases Bool.eq_false_or_eq_true l with d | d
  ·replace h:=h.1 d;obtain⟨p,h⟩:=h;obtain⟨q,t,h⟩:=aC h;simp[E,b,c,a,d];refine zA (Bj sig ar p) e70 (.cons (lp false sig) (.cons (bo false ar) .nil)) (by simp[E,b,c,a,d]) ?_;rintro _ rfl;rw[<- t];simp[E,b,c,a,d];exact fin9 (q) _ _ _ h (by simp[E,b,c,a,d])
  replace h:=h.2 d;simp[E,b,c,a,d];exact fin9 (false) _ _ _ h (by simp[E,b,c,a,d])
 replace h:=h.2 a;simp[E,b,c,a];exact fin9 (false) _ _ _ h (by simp[E,b,c,a])
theorem sS (sig:List Control) (I:aD) (ar:aD) (hp:ch sig I ar):aB prog 57 [.list false (sig.map Control.cells),.agg (bC false I),.agg (bC false ar)] (fun r=>r=bool (nW sig I ar)):=(qk sig I ar _ (sZ sig I ar hp)).mono (by rintro _ ⟨_,rfl,rfl⟩;rfl)
end Go.Ab.Vg
