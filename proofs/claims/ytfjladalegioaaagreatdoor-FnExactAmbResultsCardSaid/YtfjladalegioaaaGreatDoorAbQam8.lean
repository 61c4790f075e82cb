/- Merged texts (8 of 12) of the proof that ends in Amy: Cow Cpw Cqw Lmt Lmw Mpw Pb Pc Pd Pe Pf Pg Ph Pi Pj Pw Caw Cgw. -/
import Derived.Test.YtfjladalegioaaaGreatDoorAbQam7
open Go.Proofs.Tryz
set_option linter.unusedSimpArgs false
set_option linter.unusedVariables false
namespace Go.Ab.Vg
open Go.Proofs
set_option maxRecDepth 100000
attribute [local simp] bW bO pA
theorem e47:aV prog 47:=aV.of func47 (by kernel_rfl) rfl
theorem sW (p:aw) (parent:Int) (Z:(List Int)->Prop) (h:kQ p parent Z):bE prog 47 [.agg [.list false (p.map J.cells)],int parent] (.s [.c]) (fun r=>∃ y:List Int,Z y/\r = .list true (y.map bW)):=by
 unfold kQ at h;have M:Sep bc 0 [] []:=Sep.nil (by simp);refine bE.of func47 rfl ntmps47 (by simp) fun Q hQ=>?_
 refine I.cut (fun O H n=>(O 0 = .agg [.list false (p.map J.cells)]/\O 1=int parent)/\Sep H n [] []) (by refine⟨by simp[J.cells],M⟩) ?_;rintro O H U ⟨E,M⟩;refine zE fun _ V=>?_
 simp[E,J.cells];apply V;refine I.cut (fun O H n=>((O 1=int parent/\O 2=pA U 2)/\H (U,2)=some ⟨1,[[.list false (p.map J.cells)]]⟩)/\Sep H n [] [(U,2)]) (by refine⟨by simp[E,J.cells],M.var⟩) ?_;clear E;rintro O H n3 ⟨⟨E,e⟩,M⟩;refine zE fun _ V=>?_
 simp[E,e,J.cells];apply V;refine I.cut (fun O H n=>∃ (v5:ao),((O 1=int parent/\O 2=pA U 2/\O 5=v5)/\H (U,2)=some ⟨1,[[.list false (p.map J.cells)]]⟩)/\Sep H n [oI v5 ([]:List Int)] [(U,2)]) (by refine⟨.arr (n3,8) 0 0 0,by simp[E,e,J.cells],(Sep.addEmpty (l:=[.c]) M)⟩) ?_;clear E e;rintro O H n6 ⟨v5,⟨E,e⟩,M⟩;refine zS fun _ V=>?_
 obtain⟨qf,elen7,h⟩:=aF h;have f8:=fun H=>bU (H:=H) (fr:=false) (f:=J.cells) bx elen7
 simp[E,e,f8,J.cells,-bL];apply V;apply I.block;refine I.aI h (fun (sJ:Int × (List Int)) O H n=>match sJ with | (g,j)=>∃ (o:ao),(O 1=int parent/\O 5=o/\O 10 = .list false (p.map J.cells)/\O 11=int qf/\O 12=int g)/\Sep H n [oI o j] []) (by refine⟨v5,by simp[E,e,J.cells],(Sep.sub M (by simp +contextual))⟩) ?_;clear E e;rintro⟨g,j⟩ O H n19 K h ⟨o,E,M⟩ u;refine zE fun _ V=>?_
 obtain⟨B,C,h⟩:=aF h;have f23:=bF (k:=.i64) C;simp[E,f23,J.cells,-ax];apply V;apply I.seq;refine I.ite (b:=B) (by simp[E,J.cells]) (fun i=>?_) (fun i=>?_)
 ·replace h:=h.1 i;apply zK;apply I.block;refine zE fun _ V=>?_
  obtain⟨D,h⟩:=h;obtain⟨q,F,h⟩:=aF h;have f26:=fun H=>bl (H:=H) (fr:=false) (f:=J.cells) (k:=.i64) bx (fun _=>rfl) D F
  simp[E,f26,i,J.cells,-ar];apply V;refine I.cut (fun O H n=>∃ (v28:ao),((O 1=int parent/\O 5=v28/\O 6=int g/\O 7=pA n19 7/\O 10 = .list false (p.map J.cells)/\O 11=int qf/\O 12=int g)/\H (n19,7)=some ⟨3,[[int q.kind,str q.name,int q.parent]]⟩)/\Sep H n [oI v28 j] [(n19,7)]) (by refine⟨o,by simp[E,f26,i,J.cells,-ar],M.var⟩) ?_;clear E;rintro O H n29 ⟨v28,⟨E,a⟩,M⟩;refine zE fun _ V=>?_
  obtain⟨G,L,h⟩:=aF h;have f31:=b7 (k:=.i64) L;simp[E,a,f31,J.cells,-ax];apply V;refine I.ite (b:=G) (by simp[E,a,J.cells]) (fun d=>?_) (fun d=>?_)
  ·replace h:=h.1 d;refine zF fun _ V=>?_
   obtain⟨N,h⟩:=h;obtain⟨t,R,h⟩:=aF h;simp[E,a,d,J.cells,-aR];refine cx [] [] [[int g]] [bW g] M dG (by simp) (by simp) (by simp[J.cells]) (by simp[-aL,cX]) (cB (aX.v _ aX.nil)) (by simp) (by simpa using N) ?_;rintro A T n36 M W am;replace M:Sep T n36 [oI A t] [(n19,7)]:=Sep.ap R M;have a:=(W _ (by simp)).trans a;simp[E,a,d,J.cells];apply V;refine I.cut (fun O H n=>∃ (v40:ao),(O 1=int parent/\O 5=v40/\O 10 = .list false (p.map J.cells)/\O 11=int qf/\O 12=int g)/\Sep H n [oI v40 t] []) (by refine⟨A,by simp[E,a,d,J.cells],(Sep.sub M (by simp +contextual))⟩) ?_;clear E a;rintro O H n41 ⟨v40,E,M⟩;refine zI fun _ V=>?_
   obtain⟨X,h⟩:=h;obtain⟨Y,ac,h⟩:=aF h;have f44:=a8 X ac;simp[E,f44,J.cells,-ax];apply V;refine u (Y,t) _ _ _ h (by refine⟨v40,by simp[E,J.cells],M⟩)
  replace h:=h.2 d;apply I.skip;refine zI fun _ V=>?_
  obtain⟨ad,h⟩:=h;obtain⟨v46,af,h⟩:=aF h;have f47:=a8 ad af;simp[E,a,f47,d,J.cells,-ax];apply V;refine u (v46,j) _ _ _ h (by refine⟨v28,by simp[E,a,d,J.cells],(Sep.sub M (by simp +contextual))⟩)
 replace h:=h.2 i;refine I.exit rfl ?_;refine zE fun _ V=>?_
 simp[E,i,J.cells];apply V;exact I.b9 (v:=o) func47 results47 (by simp[E,i,J.cells]) (hQ _ _ _ _ (Sep.sub (ids':=[]) M (by simp)) ⟨j,h,rfl⟩)
theorem jO (p:aw) (parent:Int) (hp:ee p parent):bE prog 47 [.agg [.list false (p.map J.cells)],int parent] (.s [.c]) (fun r=>r = .list true ((kids p parent).map bW)):=(sW p parent _ (vk p parent hp)).mono (by rintro _ ⟨_,rfl,rfl⟩;rfl)
theorem e52:aV prog 52:=aV.of func52 (by kernel_rfl) rfl
theorem lL (l:List aH) (h:l.length<=1073741824):gB prog 52 (fun v=>[v]) (.s [.c]) (.list true (l.map bO)) (fun e r=>e = .list true ((dA l).1.map bO)/\r = .tup []):=gB.sort (by omega) (fun blk off cap w hH hb=>Tryz.slices_Sort_string blk off cap l w hH hb (by omega)) (fun w=>(Tryz.slices_Sort_string_none none 0 w).mono (by rintro e w' ⟨h1,h2⟩;exact⟨h1,h2 ▸ Go.RowKit.Below.refl _ _⟩))
theorem e69:aV prog 69:=aV.of func69 (by kernel_rfl) rfl
theorem e42:aV prog 42:=aV.of func42 (by kernel_rfl) rfl
theorem nM (p:aw) (parent:Int) (Z:(List Int)->Prop) (h:fZ p parent Z):bE prog 42 [.agg [.list false (p.map J.cells)],int parent] (.s [.c]) (fun r=>∃ y:List Int,Z y/\r = .list true (y.map bW)):=by
 unfold fZ at h;have M:Sep bc 0 [] []:=Sep.nil (by simp);refine bE.of func42 rfl ntmps42 (by simp) fun Q hQ=>?_
 refine I.cut (fun O H n=>(O 0 = .agg [.list false (p.map J.cells)]/\O 1=int parent)/\Sep H n [] []) (by refine⟨by simp[J.cells],M⟩) ?_;rintro O H U ⟨E,M⟩;refine zE fun _ V=>?_
 simp[E,J.cells];apply V;refine I.cut (fun O H n=>((O 1=int parent/\O 2=pA U 2)/\H (U,2)=some ⟨1,[[.list false (p.map J.cells)]]⟩)/\Sep H n [] [(U,2)]) (by refine⟨by simp[E,J.cells],M.var⟩) ?_;clear E;rintro O H n3 ⟨⟨E,a⟩,M⟩;refine zE fun _ V=>?_
 simp[E,a,J.cells];apply V;refine I.cut (fun O H n=>∃ (v5:ao),((O 1=int parent/\O 2=pA U 2/\O 5=v5)/\H (U,2)=some ⟨1,[[.list false (p.map J.cells)]]⟩)/\Sep H n [oI v5 ([]:List Int)] [(U,2)]) (by refine⟨.arr (n3,7) 0 0 0,by simp[E,a,J.cells],(Sep.addEmpty (l:=[.c]) M)⟩) ?_;clear E a;rintro O H n6 ⟨v5,⟨E,a⟩,M⟩;refine zS fun _ V=>?_
 simp[E,a,J.cells];apply V;apply I.block;refine I.aI h (fun (sJ:Int × (List Int)) O H n=>match sJ with | (i14,g)=>∃ (i:ao),((O 1=int parent/\O 2=pA U 2/\O 5=i/\O 6=int i14)/\H (U,2)=some ⟨1,[[.list false (p.map J.cells)]]⟩)/\Sep H n [oI i g] [(U,2)]) (by refine⟨v5,by simp[E,a,J.cells],M⟩) ?_;clear E a;rintro⟨i14,g⟩ O H n17 K h ⟨i,⟨E,a⟩,M⟩ q;refine zS fun _ V=>?_
 obtain⟨ad,u,h⟩:=aF h;have f21:=fun H=>bU (H:=H) (fr:=false) (f:=J.cells) bx u
 obtain⟨A,B,h⟩:=aF h;have f23:=bF (k:=.i64) B;simp[E,a,f21,f23,J.cells,-ax,-bL];apply V;refine I.ite (b:=A) (by simp[E,a,J.cells]) (fun d=>?_) (fun d=>?_)
 ·replace h:=h.1 d;apply zK;apply I.block;refine zE fun _ V=>?_
  obtain⟨C,h⟩:=h;obtain⟨af,D,h⟩:=aF h;have f26:=fun H=>bl (H:=H) (fr:=false) (f:=J.cells) (k:=.i64) bx (fun _=>rfl) C D
  obtain⟨F,G,h⟩:=aF h;have f28:=b7 (k:=.i64) G;simp[E,a,f26,f28,d,J.cells,-ar,-ax];apply V;refine I.ite (b:=F) (by simp[E,a,d,J.cells]) (fun e=>?_) (fun e=>?_)
  ·replace h:=h.1 e;refine zF fun _ V=>?_
   obtain⟨L,h⟩:=h;obtain⟨o,N,h⟩:=aF h;simp[E,a,d,e,J.cells,-aR];refine cx [] [] [[int i14]] [bW i14] M dG (by simp) (by simp) (by simp[J.cells]) (by simp[-aL,cX]) (cB (aX.v _ aX.nil)) (by simp) (by simpa using L) ?_;rintro v31 R n33 M T am;replace M:Sep R n33 [oI v31 o] [(U,2)]:=Sep.ap N M;have a:=(T _ (by simp)).trans a;simp[E,a,d,e,J.cells];apply V;refine I.cut (fun O H n=>∃ (v37:ao),((O 1=int parent/\O 2=pA U 2/\O 5=v37/\O 6=int i14)/\H (U,2)=some ⟨1,[[.list false (p.map J.cells)]]⟩)/\Sep H n [oI v37 o] [(U,2)]) (by refine⟨v31,by simp[E,a,d,e,J.cells],M⟩) ?_;clear E a;rintro O H n38 ⟨v37,⟨E,a⟩,M⟩;refine zI fun _ V=>?_
   obtain⟨W,h⟩:=h;obtain⟨v40,X,h⟩:=aF h;have f41:=a8 W X;simp[E,a,f41,J.cells,-ax];apply V;refine q (v40,o) _ _ _ h (by refine⟨v37,by simp[E,a,J.cells],M⟩)
  replace h:=h.2 e;apply I.skip;refine zI fun _ V=>?_
  obtain⟨Y,h⟩:=h;obtain⟨t,ac,h⟩:=aF h;have f44:=a8 Y ac;simp[E,a,f44,d,e,J.cells,-ax];apply V;refine I.cut (fun O H n=>∃ (j:ao),((O 1=int parent/\O 2=pA U 2/\O 5=j/\O 6=int t)/\H (U,2)=some ⟨1,[[.list false (p.map J.cells)]]⟩)/\Sep H n [oI j g] [(U,2)]) (by refine⟨i,by simp[E,a,f44,d,e,J.cells,-ax],M⟩) ?_;clear E a;rintro O H n46 ⟨j,⟨E,a⟩,M⟩;refine q (t,g) _ _ _ h (by refine⟨j,by simp[E,a,J.cells],M⟩)
 replace h:=h.2 d;refine I.exit rfl ?_;refine zE fun _ V=>?_
 simp[E,a,d,J.cells];apply V;exact I.b9 (v:=i) func42 results42 (by simp[E,a,d,J.cells]) (hQ _ _ _ _ (Sep.sub (ids':=[]) M (by simp)) ⟨g,h,rfl⟩)
theorem mg (p:aw) (parent:Int) (hp:ie p parent):bE prog 42 [.agg [.list false (p.map J.cells)],int parent] (.s [.c]) (fun r=>r = .list true ((rn p parent).map bW)):=(nM p parent _ (ra p parent hp)).mono (by rintro _ ⟨_,rfl,rfl⟩;rfl)
end Go.Ab.Vg
namespace Go.Ab.Vg
open Go.Proofs
set_option maxRecDepth 100000
end Go.Ab.Vg
namespace Go.Ab.Vg
open Go.Proofs
set_option maxRecDepth 100000
theorem szT_ok (p:aw) (left:Int) (h0:0<=left) (h1:left<=1048576) (hp:Small p):aA prog 4 [bq false p,int left] (fun r=>r=int (wh p left)):=Go.Ab.nH p left h0 h1 hp
end Go.Ab.Vg
namespace Go.Ab.Vg
open Go.Proofs
theorem k8 (k:Int) (h:ea k):aA prog 38 [int k] (fun r=>r=str (eA k)):=by
 have:=o9 k.toNat (by omega)
 rwa [Int.toNat_of_nonneg h.1] at this
end Go.Ab.Vg
namespace Go.Ab.Vg
open Go.Proofs
set_option maxRecDepth 100000
end Go.Ab.Vg
namespace Go.Ab.Vg
open Go.Proofs
set_option maxRecDepth 100000
attribute [local simp] bW bO pA
theorem e21:aV prog 21:=aV.of func21 (by kernel_rfl) rfl
theorem mF (a:List J) (k_:Int) (Z:((List J) × Int)->Prop) (h:fh a k_ Z):gB prog 21 (fun v=>[v,int k_]) (.s [.c,.c,.c]) (.list true (a.map J.cells)) (fun e' r=>∃ y:(List J) × Int,Z y/\e' = .list true (y.1.map J.cells)/\r=int y.2):=by
 unfold fh at h;refine gB.of func21 rfl ntmps21 (fun _=>by simp) fun H0 n0 v0 K0 cq M Q hQ=>?_
 have h00:=M.1;have hid:∀ i ∈ cq,H0 i=H0 i:=fun _ _=>rfl
 have hnn:n0<=n0:=Nat.le_refl _;refine I.cut (fun O H n=>(O 0=v0/\O 1=int k_)/\n0<=n/\(∀ i ∈ cq,H i=H0 i)/\Sep H n (oE [.c,.c,.c] J.cells v0 a::K0) (cq)) (by refine⟨?_,(by omega),hid,M⟩<;>simp[J.cells]) ?_;rintro O H n2 ⟨E,hnn,hid,M⟩;have hq_n2:=hnn;refine zE fun _ V=>?_
 simp[E,J.cells];apply V;refine zS fun _ V=>?_
 simp[E,J.cells];apply V;apply I.block;refine I.aI h (fun (sJ:Int × Int × (List J)) O H n=>match sJ with | (k10,i11,d)=>(O 0=v0/\O 1=int k10/\O 5=int i11)/\n0<=n/\(∀ i ∈ cq,H i=H0 i)/\Sep H n (oE [.c,.c,.c] J.cells v0 d::K0) (cq)) (by refine⟨?_,(by omega),hid,M⟩<;>simp[E,J.cells]) ?_;clear E;rintro⟨k10,i11,d⟩ O H Y K h ⟨E,hnn,hid,M⟩ ac;have hq_n13:=hnn;refine zS fun _ V=>?_
 obtain⟨ad,af,h⟩:=aF h;have f17:=di (Sep.len (m:=ad) M bx (by rw[af,List.length_map]));obtain⟨am,ap,h⟩:=aF h;have f19:=bF (k:=.i64) ap;simp[E,f17,f19,J.cells,-ax,-bL];apply V;refine I.ite (b:=am) (by simp[E,J.cells]) (fun j=>?_) (fun j=>?_)
 ·replace h:=h.1 j;apply zK;apply I.block;refine zE fun _ V=>?_
  obtain⟨l,h⟩:=h;obtain⟨e,hv,aP,ce,ci⟩:=Sep.cp M (by simp) l;subst hv;obtain⟨t,F,h⟩:=aF h;have f26:=fun H (hm:H e=some ⟨3,d.map J.cells⟩)=>bJ (H:=H) (k:=.i64) (off:=0) (len:=d.length) (g:=d.length) bx hm (by simp) rfl l
  have f27:=bm (q:=i11.toNat) l F rfl;obtain⟨u,a0,h⟩:=aF h;simp[E,aP,f26,f27,j,J.cells,-ar,-bf];refine cO (i:=kN) (q:=i11.toNat) (off:=0) (new:=[int k10]) (ix:=i11) (x:=t) (y:=(J.mk k10 t.name t.parent)) (f:=J.cells) M (by simp) (by simp) l F rfl rfl (fun _=>rfl) (by simp[J.cells]) (by simp) (by simp[bQ,J.cells]) (by simp) ?_;rintro G M a1;replace M:Sep G Y (oE [.c,.c,.c] J.cells (.arr e d.length 0 d.length) u::K0) (cq):=by rw[a0];exact M
  have hid:∀ i ∈ cq,G i=H0 i:=fun i hi=>(a1 i (by simp[hi])).trans (hid i hi)
  simp[E,f26,f27,j,J.cells,-ar];apply V;refine I.cut (fun O H n=>(O 0 = .arr e d.length 0 d.length/\O 1=int k10/\O 5=int i11)/\n0<=n/\(∀ i ∈ cq,H i=H0 i)/\Sep H n (oE [.c,.c,.c] J.cells (.arr e d.length 0 d.length) u::K0) (cq)) (by refine⟨?_,(by omega),hid,M⟩<;>simp[E,f26,f27,j,J.cells,-ar]) ?_;clear E;rintro O H n32 ⟨E,hnn,hid,M⟩;have hq_n32:=hnn;refine zE fun _ V=>?_
  obtain⟨a2,h⟩:=h;obtain⟨L,a3,h⟩:=aF h;have f35:=a8 a2 a3;simp[E,f35,J.cells,-ax];apply V;refine zE fun _ V=>?_
  obtain⟨a4,h⟩:=h;obtain⟨N,a5,h⟩:=aF h;simp[E,J.cells];refine zA (k8 L a4) e38 (.cons (.v _ _ _) .nil) (by simp[E,J.cells]) ?_;rintro _ rfl;rw[<- a5];obtain⟨o,h⟩:=h;obtain⟨cj,hv,a9,cl,co⟩:=Sep.cp M (by simp) o;simp only[ao.arr.injEq] at hv;obtain⟨hv,hln43,-⟩:=hv;subst hv;have hlshln43:=hln43.symm;obtain⟨A,R,h⟩:=aF h;have f45:=fun H (hm:H e=some ⟨3,u.map J.cells⟩)=>bJ (H:=H) (k:=.i64) (off:=0) (len:=d.length) (g:=d.length) bx hm (by simp[hln43]) rfl (by rw[hln43];exact o)
  have f46:=bm (q:=i11.toNat) o R rfl;obtain⟨B,bd,h⟩:=aF h;simp[E,hlshln43,a9,f45,f46,J.cells,-ar,-bf];refine cO (i:=tC) (q:=i11.toNat) (off:=1) (new:=[str N]) (ix:=i11) (x:=A) (y:=(J.mk A.kind N A.parent)) (f:=J.cells) M (by simp) (by simp) o R rfl hln43 (fun _=>rfl) (by simp[J.cells]) (by simp) (by simp[bQ,J.cells]) (by simp) ?_;rintro T M be;replace M:Sep T n32 (oE [.c,.c,.c] J.cells (.arr e d.length 0 d.length) B::K0) (cq):=by rw[bd];exact M
  have hid:∀ i ∈ cq,T i=H0 i:=fun i hi=>(be i (by simp[hi])).trans (hid i hi)
  simp[E,hlshln43,f45,f46,J.cells,-ar];apply V;refine I.cut (fun O H n=>(O 0 = .arr e d.length 0 d.length/\O 1=int L/\O 5=int i11)/\n0<=n/\(∀ i ∈ cq,H i=H0 i)/\Sep H n (oE [.c,.c,.c] J.cells (.arr e d.length 0 d.length) B::K0) (cq)) (by refine⟨?_,(by omega),hid,M⟩<;>simp[E,hlshln43,f45,f46,J.cells,-ar]) ?_;clear E hlshln43;rintro O H n51 ⟨E,hnn,hid,M⟩;have hq_n51:=hnn;refine zE fun _ V=>?_
  obtain⟨bi,h⟩:=h;obtain⟨v53,bk,h⟩:=aF h;have f54:=a8 bi bk;simp[E,f54,J.cells,-ax];apply V;refine zE fun _ V=>?_
  obtain⟨p,h⟩:=h;obtain⟨cs,hv,bs,c0,c1⟩:=Sep.cp M (by simp) p;simp only[ao.arr.injEq] at hv;obtain⟨hv,hln60,-⟩:=hv;subst hv;have hlshln60:=hln60.symm;obtain⟨C,W,h⟩:=aF h;have f62:=fun H (hm:H e=some ⟨3,B.map J.cells⟩)=>bJ (H:=H) (k:=.i64) (off:=0) (len:=d.length) (g:=d.length) bx hm (by simp[hln60]) rfl (by rw[hln60];exact p)
  have f63:=bm (q:=i11.toNat) p W rfl;obtain⟨D,bv,h⟩:=aF h;simp[E,hlshln60,bs,f62,f63,J.cells,-ar,-bf];refine cO (i:=kN) (q:=i11.toNat) (off:=2) (new:=[int v53]) (ix:=i11) (x:=C) (y:=(J.mk C.kind C.name v53)) (f:=J.cells) M (by simp) (by simp) p W rfl hln60 (fun _=>rfl) (by simp[J.cells]) (by simp) (by simp[bQ,J.cells]) (by simp) ?_;rintro X M b0;replace M:Sep X n51 (oE [.c,.c,.c] J.cells (.arr e d.length 0 d.length) D::K0) (cq):=by rw[bv];exact M
  have hid:∀ i ∈ cq,X i=H0 i:=fun i hi=>(b0 i (by simp[hi])).trans (hid i hi)
  simp[E,hlshln60,f62,f63,J.cells,-ar];apply V;refine I.cut (fun O H n=>(O 0 = .arr e d.length 0 d.length/\O 1=int v53/\O 5=int i11)/\n0<=n/\(∀ i ∈ cq,H i=H0 i)/\Sep H n (oE [.c,.c,.c] J.cells (.arr e d.length 0 d.length) D::K0) (cq)) (by refine⟨?_,(by omega),hid,M⟩<;>simp[E,hlshln60,f62,f63,J.cells,-ar]) ?_;clear E hlshln60;rintro O H n68 ⟨E,hnn,hid,M⟩;have hq_n68:=hnn;refine zF fun _ V=>?_
  obtain⟨b1,h⟩:=h;obtain⟨v70,b2,h⟩:=aF h;have f71:=a8 b1 b2;simp[E,f71,J.cells,-ax];apply V;refine zI fun _ V=>?_
  obtain⟨b3,h⟩:=h;obtain⟨b8,cc,h⟩:=aF h;have f74:=a8 b3 cc;simp[E,f74,J.cells,-ax];apply V;refine ac (v70,b8,D) _ _ _ h (by refine⟨?_,(by omega),hid,M⟩<;>simp[E,J.cells])
 replace h:=h.2 j;refine I.exit rfl ?_;refine zE fun _ V=>?_
 simp[E,j,J.cells];apply V;exact I.b9 (v:=int k10) func21 results21 (by simp[E,j,J.cells]) (hQ _ _ _ _ (Sep.sub M (by simp +contextual)) hid (by omega) ⟨(d,k10),h,rfl,rfl⟩)
theorem ks (a:List J) (k_:Int) (hp:ew a k_):gB prog 21 (fun v=>[v,int k_]) (.s [.c,.c,.c]) (.list true (a.map J.cells)) (fun e' r=>e' = .list true (((bh a k_).1).map J.cells)/\r=int ((bh a k_).2)):=(mF a k_ _ (pj a k_ hp)).mono (by rintro _ _ ⟨_,rfl,rfl,rfl⟩;exact⟨rfl,rfl⟩)
theorem e10:aV prog 10:=aV.of func10 (by kernel_rfl) rfl
theorem kb (a:aw) (k_:Int) (Z:(aw × Int)->Prop) (h:dz a k_ Z):gB prog 10 (fun v=>[v,int k_]) (.a [.s [.c,.c,.c]]) (.agg [.list true (a.map J.cells)]) (fun e' r=>∃ y:aw × Int,Z y/\e' = .agg [.list true (y.1.map J.cells)]/\r=int y.2):=by
 unfold dz at h;refine gB.of func10 rfl ntmps10 (fun _=>by simp) fun H0 n0 v0 K0 cq M Q hQ=>?_
 have h00:=M.1;have hid:∀ i ∈ cq,H0 i=H0 i:=fun _ _=>rfl
 have hnn:n0<=n0:=Nat.le_refl _;replace M:=Sep.unpack M;obtain⟨L0,hv,hl0,M⟩:=M;subst hv;obtain⟨a0_,hv⟩:=kT (by simpa using hl0);subst hv;simp only[dM,List.cons_append,List.nil_append] at M;replace M:=Sep.sM M;try simp only[List.append_eq,List.cons_append,List.nil_append,List.append_assoc] at M
 replace M:=Sep.swap (K1:=K0) M;simp only[List.cons_append,List.nil_append] at M;refine I.cut (fun O H n=>(O 0 = .agg [a0_]/\O 1=int k_)/\n0<=n/\(∀ i ∈ cq,H i=H0 i)/\Sep H n (oE [.c,.c,.c] J.cells a0_ a::K0) (cq)) (by refine⟨?_,(by omega),hid,M⟩<;>simp[J.cells]) ?_;rintro O H n2 ⟨E,hnn,hid,M⟩;have hq_n2:=hnn;refine zE fun _ V=>?_
 have f3:=Sep.oc M;simp[E,f3,J.cells,-aJ,-aL,fx,cX];apply V;refine I.cut (fun O H n=>(O 1=int k_/\O 2=pA n2 2)/\H (n2,2)=some ⟨1,[[a0_]]⟩/\n0<=n/\(∀ i ∈ cq,H i=H0 i)/\Sep H n (oE [.c,.c,.c] J.cells a0_ a::K0) ((n2,2)::cq)) (by refine⟨?_,?_,(by omega),(by intro i hi;have hlt:=h00 i (by simp[hi]);repeat (first | exact hid i hi | rw[au.ay _ _ (by rintro rfl;simp at hlt;omega)])),M.var⟩<;>simp[E,f3,J.cells,-aJ,-aL,fx,cX]) ?_;clear E;rintro O H n5 ⟨E,b,hnn,hid,M⟩;have hq_n5:=hnn;refine zE fun _ V=>?_
 obtain⟨hb6,h⟩:=h;obtain⟨r7,er7,h⟩:=aF h;have f8:=Sep.oc M;simp[E,b,f8,J.cells,-aJ,-aL,fx,cX];refine bg.mQ (v:=a0_) aB (ks a k_ hb6) e21 M (by decide) (by decide) rfl (by simp[E,b,f8,J.cells,-aJ,-aL,fx,cX]) ?_;rintro _ H9 d _ ⟨rfl,rfl⟩ M g e;rw[<- er7] at M;rw[<- er7];replace M:Sep H9 d (oE [.c,.c,.c] J.cells a0_ r7.1::K0) ((n2,2)::cq):=M;have hid:∀ i ∈ cq,H9 i=H0 i:=fun i hi=>(e i (by simp[hi])).trans (hid i hi)
 have hnn:n0<=d:=by omega
 have hq_n10:=hnn;have b:=(e _ (by simp)).trans b;simp[E,b,f8,J.cells,-aJ,-aL,fx,cX];apply V;refine I.cut (fun O H n=>O 1=int r7.2/\n0<=n/\(∀ i ∈ cq,H i=H0 i)/\Sep H n (oE [.c,.c,.c] J.cells a0_ r7.1::K0) (cq)) (by refine⟨?_,(by omega),hid,(Sep.sub M (by simp +contextual))⟩<;>simp[E,b,f8,J.cells,-aJ,-aL,fx,cX]) ?_;clear E b;rintro O H j ⟨E,hnn,hid,M⟩;have hq_n14:=hnn;refine zE fun _ V=>?_
 simp[E,J.cells];apply V;exact I.b9 (v:=int r7.2) func10 results10 (by simp[E,J.cells]) (hQ _ _ _ _ (Sep.sub (Sep.pack (aX.own aX.nil) M) (by simp +contextual)) hid (by omega) ⟨(r7.1,r7.2),h,rfl,rfl⟩)
theorem lO (a:aw) (k_:Int) (hp:ek a k_):gB prog 10 (fun v=>[v,int k_]) (.a [.s [.c,.c,.c]]) (.agg [.list true (a.map J.cells)]) (fun e' r=>e' = .agg [.list true (((dZ a k_).1).map J.cells)]/\r=int ((dZ a k_).2)):=(kb a k_ _ (k7 a k_ hp)).mono (by rintro _ _ ⟨_,rfl,rfl,rfl⟩;exact⟨rfl,rfl⟩)
theorem e22:aV prog 22:=aV.of func22 (by kernel_rfl) rfl
theorem ml (a:List J) (k_:Int) (Z:Int->Prop) (h:eZ a k_ Z):aA prog 22 [.list false (a.map J.cells),int k_] (fun r=>∃ y:Int,Z y/\r=int y):=by
 unfold eZ at h;refine aA.of func22 rfl ntmps22 (by simp) fun Q hQ=>?_
 refine I.cut (fun O H n=>(O 0 = .list false (a.map J.cells)/\O 1=int k_)) (by simp[J.cells]) ?_;rintro O H U E;refine zE fun _ V=>?_
 simp[E,J.cells];apply V;refine zS fun _ V=>?_
 simp[E,J.cells];apply V;apply I.block;refine I.aI h (fun (sJ:Int × Int) O H n=>match sJ with | (k5,i6)=>(O 0 = .list false (a.map J.cells)/\O 1=int k5/\O 5=int i6)) (by simp[E,J.cells]) ?_;clear E;rintro⟨k5,i6⟩ O H n7 K h E IH8;refine zS fun _ V=>?_
 obtain⟨kA,o,h⟩:=aF h;have f11:=fun H=>bU (H:=H) (fr:=false) (f:=J.cells) bx o
 obtain⟨p,q,h⟩:=aF h;have f13:=bF (k:=.i64) q;simp[E,f11,f13,J.cells,-ax,-bL];apply V;refine I.ite (b:=p) (by simp[E,J.cells]) (fun c=>?_) (fun c=>?_)
 ·replace h:=h.1 c;apply zK;apply I.block;refine zS fun _ V=>?_
  obtain⟨t,h⟩:=h;obtain⟨a0,i,h⟩:=aF h;have f16:=fun H=>bl (H:=H) (fr:=false) (f:=J.cells) (k:=.i64) bx (fun _=>rfl) t i
  obtain⟨u,A,h⟩:=aF h;have f18:=eg (k:=.i64) A;simp[E,f16,f18,c,J.cells,-ar,-ax];apply V;refine I.ite (b:=u) (by simp[E,c,J.cells]) (fun e=>?_) (fun e=>?_)
  ·replace h:=h.1 e;refine zE fun _ V=>?_
   simp[E,c,e,J.cells];apply V;exact I.b9 (v:=int (-1)) func22 results22 (by simp[E,c,e,J.cells]) (hQ _ _ _ _ (.of (.v _)) ⟨(-1),h,rfl⟩)
  replace h:=h.2 e;apply I.skip;refine zE fun _ V=>?_
  obtain⟨B,h⟩:=h;obtain⟨v20,C,h⟩:=aF h;have f21:=a8 B C;simp[E,f21,c,e,J.cells,-ax];apply V;apply I.seq;refine I.gY aB aD cf (by decide) (by kernel_rfl) fun _ V=>?_
  obtain⟨D,h⟩:=h;obtain⟨a1,F,h⟩:=aF h;have G:=i.trans F.symm;subst G;have f25:=fun H=>bl (H:=H) (fr:=false) (f:=J.cells) (k:=.i64) bx (fun _=>rfl) D i
  obtain⟨L,h⟩:=h;obtain⟨a2,N,h⟩:=aF h;simp[E,f25,c,e,J.cells,-ar];refine bw.c8 aB aD (k8 v20 L) e38 (.cons (.v _ _ _) .nil) (by decide) rfl (by simp[E,f25,c,e,J.cells,-ar]) ?_;rw[<- N];obtain⟨j,R,h⟩:=aF h;have f29:=nu R;simp[E,f25,f29,c,e,J.cells,-ar,-bR];apply V;refine I.cut (fun O H n=>(O 0 = .list false (a.map J.cells)/\O 1=int v20/\O 5=int i6/\O 28=bool j)) (by simp[E,f25,f29,c,e,J.cells,-ar,-bR]) ?_;clear E;rintro O H n30 E;refine I.ite (b:=j) (by simp[E,J.cells]) (fun d=>?_) (fun d=>?_)
  ·replace h:=h.1 d;refine zE fun _ V=>?_
   simp[E,d,J.cells];apply V;exact I.b9 (v:=int (-1)) func22 results22 (by simp[E,d,J.cells]) (hQ _ _ _ _ (.of (.v _)) ⟨(-1),h,rfl⟩)
  replace h:=h.2 d;apply I.skip;refine zE fun _ V=>?_
  obtain⟨T,h⟩:=h;obtain⟨a3,W,h⟩:=aF h;have f33:=a8 T W;simp[E,f33,d,J.cells,-ax];apply V;refine zS fun _ V=>?_
  obtain⟨X,h⟩:=h;obtain⟨a4,Y,h⟩:=aF h;have f36:=fun H=>bl (H:=H) (fr:=false) (f:=J.cells) (k:=.i64) bx (fun _=>rfl) X Y
  obtain⟨ac,ad,h⟩:=aF h;have f38:=eg (k:=.i64) ad;simp[E,f36,f38,d,J.cells,-ar,-ax];apply V;refine I.ite (b:=ac) (by simp[E,d,J.cells]) (fun g=>?_) (fun g=>?_)
  ·replace h:=h.1 g;refine zE fun _ V=>?_
   simp[E,d,g,J.cells];apply V;exact I.b9 (v:=int (-1)) func22 results22 (by simp[E,d,g,J.cells]) (hQ _ _ _ _ (.of (.v _)) ⟨(-1),h,rfl⟩)
  replace h:=h.2 g;apply I.skip;refine zF fun _ V=>?_
  obtain⟨af,h⟩:=h;obtain⟨v40,am,h⟩:=aF h;have f41:=a8 af am;simp[E,f41,d,g,J.cells,-ax];apply V;refine zI fun _ V=>?_
  obtain⟨ap,h⟩:=h;obtain⟨l,aP,h⟩:=aF h;have f44:=a8 ap aP;simp[E,f44,d,g,J.cells,-ax];apply V;refine I.cut (fun O H n=>(O 0 = .list false (a.map J.cells)/\O 1=int v40/\O 5=int l)) (by simp[E,f44,d,g,J.cells,-ax]) ?_;clear E;rintro O H n45 E;refine IH8 (v40,l) _ _ _ h (by simp[E,J.cells])
 replace h:=h.2 c;refine I.exit rfl ?_;refine zE fun _ V=>?_
 simp[E,c,J.cells];apply V;exact I.b9 (v:=int k5) func22 results22 (by simp[E,c,J.cells]) (hQ _ _ _ _ (.of (.v _)) ⟨k5,h,rfl⟩)
theorem o3 (a:List J) (k_:Int) (hp:gz a k_):aA prog 22 [.list false (a.map J.cells),int k_] (fun r=>r=int (cr a k_)):=(ml a k_ _ (pM a k_ hp)).mono (by rintro _ ⟨_,rfl,rfl⟩;rfl)
theorem e29:aV prog 29:=aV.of func29 (by kernel_rfl) rfl
theorem kV (a:J) (Z:J->Prop) (h:gb a Z):aA prog 29 [.agg [int a.kind,str a.name,int a.parent]] (fun r=>∃ y:J,Z y/\r = .agg [int y.kind,str y.name,int y.parent]):=by
 unfold gb at h;refine aA.of func29 rfl ntmps29 (by simp) fun Q hQ=>?_
 refine I.cut (fun O H n=>O 0 = .agg [int a.kind,str a.name,int a.parent]) (by simp[]) ?_;rintro O H U E;refine zE fun _ V=>?_
 simp[E];apply V;refine I.cut (fun O H n=>(O 1=pA U 1/\O 2=pA (U+1) 2)/\H (U,1)=some ⟨3,[[int a.kind,str a.name,int a.parent]]⟩/\H (U+1,2)=some ⟨3,[[int 0,str [],int 0]]⟩) (by refine⟨?_,?_,?_⟩<;>simp[E]) ?_;clear E;rintro O H n4 ⟨E,c,b⟩;refine zE fun _ V=>?_
 simp[E,c,b];apply V;refine I.cut (fun O H n=>(O 1=pA U 1/\O 2=pA (U+1) 2/\O 3=pA n4 3)/\H (U,1)=some ⟨3,[[int a.kind,str a.name,int a.parent]]⟩/\H (U+1,2)=some ⟨3,[[int 0,str [],int 0]]⟩/\H (n4,3)=some ⟨3,[[int 0,str [],int 0]]⟩) (by refine⟨?_,?_,?_,?_⟩<;>simp[E,c,b]) ?_;clear E c b;rintro O H n6 ⟨E,c,b,d⟩;refine zE fun _ V=>?_
 simp[E,c,b,d];apply V;refine I.cut (fun O H n=>(O 1=pA U 1/\O 2=pA (U+1) 2/\O 3=pA n4 3)/\H (U,1)=some ⟨3,[[int a.kind,str a.name,int a.parent]]⟩/\H (U+1,2)=some ⟨3,[[int 0,str [],int 0]]⟩/\H (n4,3)=some ⟨3,[[int a.kind,str [],int 0]]⟩) (by refine⟨?_,?_,?_,?_⟩<;>simp[E,c,b,d]) ?_;clear E c b d;rintro O H n7 ⟨E,c,b,d⟩;refine zE fun _ V=>?_
 simp[E,c,b,d];apply V;refine I.cut (fun O H n=>(O 1=pA U 1/\O 2=pA (U+1) 2/\O 3=pA n4 3)/\H (U,1)=some ⟨3,[[int a.kind,str a.name,int a.parent]]⟩/\H (U+1,2)=some ⟨3,[[int 0,str [],int 0]]⟩/\H (n4,3)=some ⟨3,[[int a.kind,str a.name,int 0]]⟩) (by refine⟨?_,?_,?_,?_⟩<;>simp[E,c,b,d]) ?_;clear E c b d;rintro O H n8 ⟨E,c,b,d⟩;refine zE fun _ V=>?_
 simp[E,c,b,d];apply V;refine I.cut (fun O H n=>(O 2=pA (U+1) 2/\O 3=pA n4 3)/\H (U+1,2)=some ⟨3,[[int 0,str [],int 0]]⟩/\H (n4,3)=some ⟨3,[[int a.kind,str a.name,int a.parent]]⟩) (by refine⟨?_,?_,?_⟩<;>simp[E,c,b,d]) ?_;clear E c b d;rintro O H n9 ⟨E,b,d⟩;refine zE fun _ V=>?_
 simp[E,b,d];apply V;refine I.cut (fun O H n=>O 2=pA (U+1) 2/\H (U+1,2)=some ⟨3,[[int a.kind,str a.name,int a.parent]]⟩) (by refine⟨?_,?_⟩<;>simp[E,b,d]) ?_;clear E b d;rintro O H e ⟨E,b⟩;exact I.om aB (v:=.agg [int a.kind,str a.name,int a.parent]) func29 results29 (by simp[E,b,du]) (hQ _ _ _ _ (.of (.vp (.cons (.v _) (.cons (.v _) (.cons (.v _) .nil))))) ⟨a,h,rfl⟩)
theorem fT (a:J)  : aA prog 29 [.agg [int a.kind,str a.name,int a.parent]] (fun r=>r = .agg [int ((fC a).kind),str ((fC a).name),int ((fC a).parent)]):=(kV a _ (od a )).mono (by rintro _ ⟨_,rfl,rfl⟩;rfl)
theorem e16:aV prog 16:=aV.of func16 (by kernel_rfl) rfl
theorem kJ (a:List J) (Z:(List J)->Prop) (h:dW a Z):bE prog 16 [.list false (a.map J.cells)] (.s [.c,.c,.c]) (fun r=>∃ y:List J,Z y/\r = .list true (y.map J.cells)):=by
 unfold dW at h;have M:Sep bc 0 [] []:=Sep.nil (by simp);refine bE.of func16 rfl ntmps16 (by simp) fun Q hQ=>?_
 refine I.cut (fun O H n=>O 0 = .list false (a.map J.cells)/\Sep H n [] []) (by refine⟨by simp[J.cells],M⟩) ?_;rintro O H U ⟨E,M⟩;refine zE fun _ V=>?_
 simp[E,J.cells];apply V;refine zE fun _ V=>?_
 obtain⟨gV,elen2,h⟩:=aF h;have f3:=fun H=>bU (H:=H) (fr:=false) (f:=J.cells) rv elen2
 obtain⟨hb4,h⟩:=h;obtain⟨l5,el5,h⟩:=aF h;simp[E,f3,hb4,el5,J.cells,-bL];apply V;refine I.cut (fun O H n=>∃ (v7:ao),(O 0 = .list false (a.map J.cells)/\O 3=v7)/\Sep H n [oE [.c,.c,.c] J.cells v7 l5] []) (by refine⟨.arr (U,7) gV.toNat 0 gV.toNat,by simp[E,f3,hb4,el5,J.cells,-bL],(Sep.vB (z:=[int 0,str [],int 0]) (f:=J.cells) (k:=gV.toNat) el5 M (fun H=>by show Row H [.c,.c,.c] [int 0,str [],int 0] [int 0,str [],int 0] [];simp[Row,Tr]))⟩) ?_;clear E;rintro O H n8 ⟨v7,E,M⟩;refine zS fun _ V=>?_
 simp[E,J.cells];apply V;apply I.block;refine I.aI h (fun (sJ:Int × (List J)) O H n=>match sJ with | (i16,d)=>∃ (i:ao),(O 0 = .list false (a.map J.cells)/\O 3=i/\O 4=int i16)/\Sep H n [oE [.c,.c,.c] J.cells i d] []) (by refine⟨v7,by simp[E,J.cells],M⟩) ?_;clear E;rintro⟨i16,d⟩ O H n19 K h ⟨i,E,M⟩ t;refine zS fun _ V=>?_
 obtain⟨ad,u,h⟩:=aF h;have f23:=fun H=>bU (H:=H) (fr:=false) (f:=J.cells) rv u
 obtain⟨A,B,h⟩:=aF h;have f25:=bF (k:=.i64) B;simp[E,f23,f25,J.cells,-ax,-bL];apply V;refine I.ite (b:=A) (by simp[E,J.cells]) (fun e=>?_) (fun e=>?_)
 ·replace h:=h.1 e;apply zK;apply I.block;refine zF fun _ V=>?_
  obtain⟨C,h⟩:=h;obtain⟨D,F,h⟩:=aF h;have f28:=fun H=>bl (H:=H) (fr:=false) (f:=J.cells) (k:=.i64) rv (fun _=>rfl) C F
  obtain⟨G,L,h⟩:=aF h;simp[E,f28,e,J.cells,-ar];refine zA (fT D ) e29 (.cons (az.agg (.cons (.v _ _ _) (.cons (.v _ _ _) (.cons (.v _ _ _) .nil)))) .nil) (by simp[E,f28,e,J.cells,-ar]) ?_;rintro _ rfl;rw[<- L];obtain⟨l,h⟩:=h;obtain⟨o,hv,N,af,am⟩:=Sep.cp M (by simp) l;subst hv;obtain⟨ap,R,h⟩:=aF h;have f36:=fun H (hm:H o=some ⟨3,d.map J.cells⟩)=>bJ (H:=H) (k:=.i64) (off:=0) (len:=d.length) (g:=d.length) bx hm (by simp) rfl l
  have f37:=bm (q:=i16.toNat) l R rfl;obtain⟨p,T,h⟩:=aF h;simp[E,N,f28,f36,f37,e,J.cells,-ar,-bf];refine dk (q:=i16.toNat) (news:=J.cells G) [] [] M (by simp) (by simp;omega) (by simp) (by simp[-aL,cX]) (aX.v _ (aX.v _ (aX.v _ aX.nil))) ?_;rintro W M aP;replace M:Sep W n19 [oE [.c,.c,.c] J.cells (.arr o d.length 0 d.length) p] []:=Sep.st T M;simp[E,f28,f36,f37,e,J.cells,-ar];apply V;refine I.cut (fun O H n=>∃ (j:ao),(O 0 = .list false (a.map J.cells)/\O 3=j/\O 4=int i16)/\Sep H n [oE [.c,.c,.c] J.cells j p] []) (by refine⟨.arr o d.length 0 d.length,by simp[E,f28,f36,f37,e,J.cells,-ar],M⟩) ?_;clear E;rintro O H n43 ⟨j,E,M⟩;refine zI fun _ V=>?_
  obtain⟨X,h⟩:=h;obtain⟨Y,ac,h⟩:=aF h;have f46:=a8 X ac;simp[E,f46,J.cells,-ax];apply V;refine t (Y,p) _ _ _ h (by refine⟨j,by simp[E,J.cells],M⟩)
 replace h:=h.2 e;refine I.exit rfl ?_;refine zE fun _ V=>?_
 simp[E,e,J.cells];apply V;exact I.b9 (v:=i) func16 results16 (by simp[E,e,J.cells]) (hQ _ _ _ _ (Sep.sub (ids':=[]) M (by simp)) ⟨d,h,rfl⟩)
theorem fq (a:List J) (hp:dx a):bE prog 16 [.list false (a.map J.cells)] (.s [.c,.c,.c]) (fun r=>r = .list true ((jh a).map J.cells)):=(kJ a _ (mn a hp)).mono (by rintro _ ⟨_,rfl,rfl⟩;rfl)
theorem e6:aV prog 6:=aV.of func6 (by kernel_rfl) rfl
theorem lV (a:aw) (Z:aw->Prop) (h:eB a Z):bE prog 6 [.agg [.list false (a.map J.cells)]] (.a [.s [.c,.c,.c]]) (fun r=>∃ y:aw,Z y/\r = .agg [.list true (y.map J.cells)]):=by
 unfold eB at h;have M:Sep bc 0 [] []:=Sep.nil (by simp);refine bE.of func6 rfl ntmps6 (by simp) fun Q hQ=>?_
 refine I.cut (fun O H n=>O 0 = .agg [.list false (a.map J.cells)]/\Sep H n [] []) (by refine⟨by simp[J.cells],M⟩) ?_;rintro O H U ⟨E,M⟩;refine zE fun _ V=>?_
 simp[E,J.cells];apply V;refine I.cut (fun O H n=>((O 1=pA U 1/\O 2=pA (U+1) 2)/\H (U,1)=some ⟨1,[[.list false (a.map J.cells)]]⟩/\H (U+1,2)=some ⟨1,[[.v (.slice none 0 0)]]⟩)/\Sep H n [] [(U+1,2),(U,1)]) (by refine⟨by simp[E,J.cells],M.var.var⟩) ?_;clear E;rintro O H n4 ⟨⟨E,d,b⟩,M⟩;refine zE fun _ V=>?_
 simp[E,d,b,J.cells];apply V;refine I.cut (fun O H n=>((O 1=pA U 1/\O 2=pA (U+1) 2/\O 3=pA n4 3)/\H (U,1)=some ⟨1,[[.list false (a.map J.cells)]]⟩/\H (U+1,2)=some ⟨1,[[.v (.slice none 0 0)]]⟩/\H (n4,3)=some ⟨1,[[.v (.slice none 0 0)]]⟩)/\Sep H n [] [(n4,3),(U+1,2),(U,1)]) (by refine⟨by simp[E,d,b,J.cells],M.var⟩) ?_;clear E d b;rintro O H n6 ⟨⟨E,d,b,e⟩,M⟩;refine zE fun _ V=>?_
 obtain⟨hb7,h⟩:=h;obtain⟨r8,er8,h⟩:=aF h;simp[E,d,b,e,J.cells];refine zW (fq a hb7) e16 (.cons (az.bt (fr:=false) (els:=a.map J.cells) (by simp[J.cells])) .nil) M (by simp[E,d,b,e,J.cells]) ?_;rintro v9 j l _ M rfl o i;rw[<- er8] at M;have d:=(i _ (by simp)).trans d;have b:=(i _ (by simp)).trans b;have e:=(i _ (by simp)).trans e;have f16:=Sep.oc M;simp[E,d,b,e,f16,J.cells,-aJ,-aL,fx,cX];apply V;refine I.cut (fun O H n=>∃ (g:ao),((O 2=pA (U+1) 2/\O 3=pA n4 3)/\H (U+1,2)=some ⟨1,[[.v (.slice none 0 0)]]⟩/\H (n4,3)=some ⟨1,[[g]]⟩)/\Sep H n [oE [.c,.c,.c] J.cells g r8] [(n4,3),(U+1,2)]) (by refine⟨v9,by simp[E,d,b,e,f16,J.cells,-aJ,-aL,fx,cX],(Sep.sub (Sep.fv (w:=(n4,3)) M (by simp)) (by simp +contextual))⟩) ?_;clear E d b e;rintro O H n18 ⟨g,⟨E,b,e⟩,M⟩;refine zE fun _ V=>?_
 have f19:=Sep.oc M;simp[E,b,e,f19,J.cells,-aJ,-aL,fx,cX];apply V;refine I.cut (fun O H n=>∃ (v20:ao),(O 2=pA (U+1) 2/\H (U+1,2)=some ⟨1,[[v20]]⟩)/\Sep H n [oE [.c,.c,.c] J.cells v20 r8] [(U+1,2)]) (by refine⟨g,by simp[E,b,e,f19,J.cells,-aJ,-aL,fx,cX],(Sep.sub (Sep.fv (w:=(U+1,2)) M (by simp)) (by simp +contextual))⟩) ?_;clear E b e;rintro O H n21 ⟨v20,⟨E,b⟩,M⟩;exact I.om aB (v:=.agg [v20]) func6 results6 (by simp[E,b,du,J.cells]) (hQ _ _ _ _ (Sep.sub (ids':=[]) (Sep.pack (aX.own aX.nil) M) (by simp)) ⟨r8,h,rfl⟩)
theorem dE (a:aw) (hp:ck a):bE prog 6 [.agg [.list false (a.map J.cells)]] (.a [.s [.c,.c,.c]]) (fun r=>r = .agg [.list true ((toProcess a).map J.cells)]):=(lV a _ (nx a hp)).mono (by rintro _ ⟨_,rfl,rfl⟩;rfl)
end Go.Ab.Vg
namespace Go.Ab
open Go.Proofs
theorem wi:aV prog 77:=aV.of func77 (by kernel_rfl) rfl
theorem e76:aV prog 76:=aV.of func76 (by kernel_rfl) rfl
def aT (l:aw) (a:Nat) (ok:Bool):ao:=.agg [.list true (l.map J.cells),int a,bool ok]
def bu (s:aH) (a:Nat) (ok:Bool) (w:aH):Bool:=ok && w.isPrefixOf (s.drop a)
theorem pC (w r:aH):(r.take w.length == w)=w.isPrefixOf r:=by
 rw[Bool.eq_iff_iff,beq_iff_eq,List.isPrefixOf_iff_prefix,List.prefix_iff_eq_take];exact eq_comm
theorem db (n:Nat) (l:aw) (a:Nat) (ok:Bool):jn n (aT l a ok):=by
 refine .agg _ fun x hx=>?_
 simp at hx;rcases hx with rfl | rfl | rfl
 ·refine .list _ _ fun e he y hy=>?_
  simp at he;obtain⟨z,_,rfl⟩:=he;simp[J.cells] at hy;rcases hy with rfl | rfl | rfl<;>exact .v _
 ·exact .v _
 ·exact .v _
theorem cy (s:aH) (l:aw) (a:Nat) (ok:Bool) (w:aH) (hs:s.length<=4294967296) (ha:a<=s.length) (hw:w.length<=100) :
  cG prog 77 [str s,aT l a ok,str w] (fun r=>r=if bu s a ok w then aT l (a+w.length) true else aT l a false):=by
 refine cG.of func77 rfl ntmps77 (by simp) fun H n Q _ hQ=>?_
 refine zE fun k' V=>?_
 simp [aT];apply V;refine zS fun k' V=>?_
 have fin:∀ (O:Env) (H':au) (n':Nat),(O 2=str w/\O 4 = .ptr (n,4) 1 0 0/\O 6 = .ptr (n+1,6) 1 0 0/\O 32=bool (!bu s a ok w) /\
   H'=(H.set (n,4) ⟨3,[[.list true (l.map J.cells),int a,bool ok]]⟩).set (n+1,6) ⟨3,[[.v (.slice none 0 0),int 0,bool false]]⟩)->I prog 77 42 k' O H' n' Q:=by
  rintro O H' n' ⟨h2,h4,h6,h32,rfl⟩;apply V;refine I.ite h32 (fun hc1 => ?_) (fun hc1 => ?_)
  ·simp only[Bool.not_eq_true'] at hc1;refine zE fun k' V=>?_
   simp [h4];apply V;refine zE fun k' V=>?_
   simp [h4, h6];apply V;refine I.ret func77 (aG.cell (cs:=[.list true (l.map J.cells),int a,bool false]) (v:=aT l a false) aB results77 kk (by simp[h6]) (by simp[cR,aT])) (hQ _ _ _ _ (.pF (db n l a false)) (by repeat (first | exact Frame.refl _ _ | refine Frame.set (by simp) ?_)) (by rw[hc1];rfl))
  ·simp only[Bool.not_eq_false'] at hc1;have hle:a+w.length<=s.length:=by
    simp only[bu,Bool.and_eq_true] at hc1;have:=(List.isPrefixOf_iff_prefix.1 hc1.2).length_le;simp at this;omega
   have hok:ok=true:=by
    simp only[bu,Bool.and_eq_true] at hc1;exact hc1.1
   subst hok;apply I.skip;refine zE fun k' V=>?_
   have hw1:IntKind.i64.wrap ((a:Int)+w.length)=(a:Int)+w.length:=by rw[wrap64]<;>omega
   simp [h4, h2, hw1];apply V;refine zE fun k' V=>?_
   simp [h4, h6];apply V;refine I.ret func77 (aG.cell (cs:=[.list true (l.map J.cells),int ((a:Int)+w.length),bool true]) (v:=aT l (a+w.length) true) aB results77 kk (by simp[h6]) (by simp[cR,aT])) (hQ _ _ _ _ (.pF (db n l _ true)) (by repeat (first | exact Frame.refl _ _ | refine Frame.set (by simp) ?_)) (by rw[hc1];rfl))
 have hx:=pC w (s.drop a);have hw1:IntKind.i64.wrap ((a:Int)+w.length)=(a:Int)+w.length:=by rw[wrap64]<;>omega
 cases ok
 ·simp[guardOf];exact fin _ _ _ ⟨by simp,by simp,by simp,by simp[bu],rfl⟩
 ·by_cases hb:(s.length:Int)<(a:Int)+w.length
  ·simp[hb,hw1,guardOf];refine fin _ _ _ ⟨by simp,by simp,by simp,?_,rfl⟩;have:w.isPrefixOf (s.drop a)=false:=by
    rw[Bool.eq_false_iff];intro h;have:=(List.isPrefixOf_iff_prefix.1 h).length_le;simp at this;omega
   simp[bu,this]
  ·simp[hb,hw1,guardOf,show (0:Int)<=(a:Int)+w.length by omega,show (a:Int)+w.length<=s.length by omega,show ((a:Int)+w.length).toNat=a+w.length by omega,show (a:Int)<=(a:Int)+w.length by omega];refine fin _ _ _ ⟨by simp,by simp,by simp,?_,rfl⟩;simp[bu,<- hx]
theorem gr (s:aH) (l:aw) (a:Nat) (ok:Bool) (w:aH) (hs:s.length<=4294967296) (ha:a<=s.length) (hw:w.length<=100) :
  cG prog 76 [str s,aT l a ok,str w] (fun r=>r=bool (bu s a ok w)):=by
 refine cG.of func76 rfl ntmps76 (by simp) fun H n Q _ hQ=>?_
 refine zE fun _ V=>?_
 simp [aT];apply V;refine zE fun _ V=>?_
 simp;refine bg.dD aB (cy s l a ok w hs ha hw) wi (.refl _) (by decide) (by decide) rfl (by simp[aT]) ?_;rintro _ rfl;cases ht:bu s a ok w
 all_goals
  simp[aT];apply V;exact I.ret func76 (aG.one results76) (hQ _ _ _ _ (.pF (.v _)) (by repeat (first | exact Frame.refl _ _ | refine Frame.set (by simp) ?_)) (by simp[ht]))
end Go.Ab
namespace Go.Ab
open Go.Proofs
theorem e99:aV prog 99:=aV.of func99 (by kernel_rfl) rfl
def eK (s:aH) (a:Nat) (ok:Bool):Nat × Nat:=
 if bu s a ok (word 0) then (1,a+(word 0).length) else if bu s a ok (word 1) then (2,a+(word 1).length) else if bu s a ok (word 2) then (3,a+(word 2).length) else (0,a)
theorem uh {s:aH} {a:Nat} {ok:Bool} {k:Nat} (hk:k<3) (h0:∀ j,j<k->bu s a ok (word j)=false) (h:bu s a ok (word k)=true):eK s a ok=(k+1,a+(word k).length):=by
 match k,hk with
 | 0,_=>simp[eK,h]
 | 1,_=>simp[eK,h,h0 0 (by omega)]
 | 2,_=>simp[eK,h,h0 0 (by omega),h0 1 (by omega)]
theorem u4 {s:aH} {a:Nat} {ok:Bool} (h0:∀ j,j<3->bu s a ok (word j)=false):eK s a ok=(0,a):=by
 simp[eK,h0 0 (by omega),h0 1 (by omega),h0 2 (by omega)]
theorem qZ (s:aH) (l:aw) (a:Nat) (ok:Bool) (hs:s.length<=4294967296) (ha:a<=s.length) :
  cG prog 99 [str s,aT l a ok] (fun r=>r = .tup [int (eK s a ok).1,aT l (eK s a ok).2 ok]):=by
 have hwl:∀ k,(word k).length<=100:=fun k=>by have:=l9 k;omega
 refine cG.of func99 rfl ntmps99 (by simp) fun H n Q _ hQ=>?_
 refine zE fun _ V=>?_
 simp [aT];apply V;refine zS fun _ V=>?_
 simp;apply V;refine I.block (I.dQ 3 (fun k O H' n'=>O 0=str s/\O 3 = .ptr (n,3) 1 0 0/\O 5 = .ptr (n+1,5) 1 0 0/\O 6=int ((k+1:Nat):Int)/\(∀ j,j<k->bu s a ok (word j)=false) /\
  H'=(H.set (n,3) ⟨3,[[.list true (l.map J.cells),int a,bool ok]]⟩).set (n+1,5) ⟨3,[[.v (.slice none 0 0),int 0,bool false]]⟩) ?_ ?_)
 ·simp
 ·rintro k O H' n' hk ⟨h0,h3,h5,h6,hno,rfl⟩ IH;refine zS fun _ V=>?_
  simp [h6, -Int.natCast_add];apply V;refine I.ite rfl (fun hc1 => ?_) (fun hc1 => ?_)
  ·simp only[decide_eq_true_eq] at hc1;have hk3:k<3:=by omega
   apply zK;apply I.block;refine I.gY aB aD cf (by decide) (by kernel_rfl) fun _ V=>?_
   simp [h0, h3, h6, -Int.natCast_add];refine bw.c8 aB aD (jj ((k+1:Nat):Int) (by omega)) e59 (.cons (.v _ _ _) .nil) (by decide) rfl (by simp[h6]) ?_;simp[show (((k+1:Nat):Int) - 1).toNat=k by omega,-Int.natCast_add];refine bw.dD aB aD (gr s l a ok (word k) hs ha (hwl k)) e76 (.refl _) (by decide) rfl (by simp[h0,aT]) ?_;simp;apply V;refine I.ite rfl (fun hc2 => ?_) (fun hc2 => ?_)
   ·have hc2:bu s a ok (word k)=true:=hc2;refine I.gY aB aD cf (by decide) (by kernel_rfl) fun _ V=>?_
    simp [h0, h3, h6, -Int.natCast_add];refine bw.c8 aB aD (jj ((k+1:Nat):Int) (by omega)) e59 (.cons (.v _ _ _) .nil) (by decide) rfl (by simp[h6]) ?_;simp[show (((k+1:Nat):Int) - 1).toNat=k by omega,-Int.natCast_add];refine bw.dD aB aD (cy s l a ok (word k) hs ha (hwl k)) wi (.refl _) (by decide) rfl (by simp[h0,aT]) ?_;simp[hc2,h5,aT,-Int.natCast_add];apply V;have hok:ok=true:=by simp only[bu,Bool.and_eq_true] at hc2;exact hc2.1
    subst hok;refine I.ret func99 (aG.rb (v1:=int ((k+1:Nat):Int)) (v2:=aT l (a+(word k).length) true) aB results99 (by simp[du]) (by simp[du,h5,cR,aT])) (hQ _ _ _ _ (.pF (.uf (.v _) (db _ _ _ _))) (by repeat (first | exact Frame.refl _ _ | refine Frame.set (by simp) ?_)) (by rw[uh hk3 hno hc2]))
   ·have hc2:bu s a ok (word k)=false:=hc2;apply I.skip;refine zI fun _ V=>?_
    simp [h6, wrap_one (a := k + 1) rfl (by omega), -Int.natCast_add];apply V;refine IH hk3 _ _ _ ⟨by simp[h0],by simp[h3],by simp[h5],by simp,fun j hj=>?_,rfl⟩;rcases Nat.lt_or_ge j k with h | h
    ·exact hno j h
    ·rw[show j=k by omega];exact hc2
  ·simp only[decide_eq_false_iff_not] at hc1;have hk3:k=3:=by omega
   subst hk3;refine I.exit rfl ?_;refine I.gY aB aD cf (by decide) (by kernel_rfl) fun _ V=>?_
   simp [h3, h5];apply V;refine I.ret func99 (aG.rb (v1:=int 0) (v2:=aT l a ok) aB results99 (by simp[du]) (by simp[du,h5,cR,aT])) (hQ _ _ _ _ (.pF (.uf (.v _) (db _ _ _ _))) (by repeat (first | exact Frame.refl _ _ | refine Frame.set (by simp) ?_)) (by rw[u4 hno];rfl))
end Go.Ab
namespace Go.Ab
open Go.Proofs
theorem e100:aV prog 100:=aV.of func100 (by kernel_rfl) rfl
theorem wo {q:UInt8->Bool}:∀ {l:aH} {k:Nat},k<(l.takeWhile q).length->∃ h:k<l.length,q l[k]=true
 | [],k,h=>by simp at h
 | a::l,k,h=>by
  rw[List.takeWhile_cons] at h;cases ha:q a
  ·simp[ha] at h
  ·simp only[ha,if_true,List.length_cons] at h
   match k with
   | 0=>exact⟨by simp,by simpa using ha⟩
   | k+1=>
    obtain⟨h1,h2⟩:=wo (q:=q) (l:=l) (k:=k) (by omega);exact⟨by simpa using h1,by simpa using h2⟩
theorem tE {q:UInt8->Bool}:∀ {l:aH} (h:(l.takeWhile q).length<l.length),q l[(l.takeWhile q).length]=false
 | [],h=>by simp at h
 | a::l,h=>by
  cases ha:q a
  ·simp[List.takeWhile_cons,ha]
  ·have he:((a::l).takeWhile q).length=(l.takeWhile q).length+1:=by simp[List.takeWhile_cons,ha]
   have:=tE (l:=l) (by rw[he] at h;simpa using h);simpa[he] using this
theorem oo {q:UInt8->Bool}:∀ (l:aH),l.take (l.takeWhile q).length=l.takeWhile q
 | []=>by simp
 | a::l=>by
  cases ha:q a
  ·simp[List.takeWhile_cons,ha]
  ·simp[List.takeWhile_cons,ha,oo l]
theorem nZ {q:UInt8->Bool}:∀ (l:aH),l.drop (l.takeWhile q).length=l.dropWhile q
 | []=>by simp
 | a::l=>by
  cases ha:q a
  ·simp[List.takeWhile_cons,List.dropWhile_cons,ha]
  ·simp[List.takeWhile_cons,List.dropWhile_cons,ha,nZ l]
def nameAt (s:aH) (a:Nat):aH:=(s.drop a).takeWhile lower
theorem k9 (s:aH) (a:Nat) (ha:a<=s.length):a+(nameAt s a).length<=s.length:=by
 have:=(List.takeWhile_prefix lower (l:=s.drop a)).length_le;simp at this;simp only[nameAt];omega
theorem pZ (s:aH) (l:aw) (a:Nat) (ok:Bool) (hs:s.length<=4294967296) (ha:a<=s.length) :
  cG prog 100 [str s,aT l a ok] (fun r=>r = .tup [str (nameAt s a),aT l (a+(nameAt s a).length) (ok && ef (nameAt s a))]):=by
 have hnl:=k9 s a ha;refine cG.of func100 rfl ntmps100 (by simp) fun H n Q _ hQ=>?_
 refine zE fun k' V=>?_
 simp [aT];apply V;refine zE fun k' V=>?_
 simp;apply V;apply I.seq;refine I.block (I.dQ (nameAt s a).length (fun k O H' n'=>O 0=str s/\O 3 = .ptr (n,3) 1 0 0/\O 5 = .ptr (n+1,5) 1 0 0/\O 6=int a /\
  H' (n,3)=some ⟨3,[[.list true (l.map J.cells),int ((a:Int)+k),bool ok]]⟩/\H' (n+1,5)=some ⟨3,[[.v (.slice none 0 0),int 0,bool false]]⟩/\Frame n H H') ?_ ?_)
 ·refine⟨by simp,by simp,by simp,by simp,by simp,by simp,by repeat (first | exact Frame.refl _ _ | refine Frame.set (by simp) ?_)⟩
 ·rintro k O H' n' hk ⟨h0,h3,h5,h6,hm3,hm5,hfr⟩ IH;refine zS fun k' V=>?_
  have fin:∀ O:Env,(O 0=str s/\O 3 = .ptr (n,3) 1 0 0/\O 5 = .ptr (n+1,5) 1 0 0/\O 6=int a/\O 27=bool (decide (k<(nameAt s a).length)))->I prog 100 49 k' O H' n' Q:=by
   rintro O ⟨h0,h3,h5,h6,h27⟩;apply V;refine I.ite h27 (fun hc1 => ?_) (fun hc1 => ?_)
   ·simp only[decide_eq_true_eq] at hc1;apply I.skip;apply I.block;refine zF fun k' V=>?_
    have hw:IntKind.i64.wrap ((a:Int)+k+1)=(a:Int)+(k+1:Nat):=by rw[wrap64]<;>omega
    simp [h3, hm3, hw, -Int.natCast_add];apply V;apply I.inBlock;refine IH hc1 _ _ _ ⟨by simp[h0],by simp[h3],by simp[h5],by simp[h6],by simp,by simp[hm5],Frame.set (by simp) hfr⟩
   ·simp only[decide_eq_false_iff_not] at hc1;have hke:k=(nameAt s a).length:=by omega
    subst hke;refine I.exit rfl ?_;have hsl:(s.drop a).take (nameAt s a).length=nameAt s a:=oo _;have g1:(a:Int)<=(a:Int)+(nameAt s a).length:=by omega
    have g2:(a:Int)+(nameAt s a).length<=s.length:=by omega
    have g3:((a:Int)+(nameAt s a).length).toNat=a+(nameAt s a).length:=by omega
    refine zE fun k' V=>?_
    have fin2:∀ (O:Env) (H':au),(O 0=str s/\O 3 = .ptr (n,3) 1 0 0/\O 5 = .ptr (n+1,5) 1 0 0/\O 6=int a /\
      H' (n,3)=some ⟨3,[[.list true (l.map J.cells),int ((a:Int)+(nameAt s a).length),bool (ok && ef (nameAt s a))]]⟩/\H' (n+1,5)=some ⟨3,[[.v (.slice none 0 0),int 0,bool false]]⟩/\Frame n H H') ->
      I prog 100 49 k' O H' n' Q:=by
     rintro O H' ⟨h0,h3,h5,h6,hm3,hm5,hfr⟩;apply V;refine I.gY aB aD cf (by decide) (by kernel_rfl) fun k' V=>?_
     simp [h0, h3, h5, h6, hm3, hm5, g1, g2, g3, hsl];apply V;refine I.ret func100 (aG.rb (v1:=str (nameAt s a)) (v2:=aT l (a+(nameAt s a).length) (ok && ef (nameAt s a))) aB results100 (by simp[du]) (by simp[du,h5,cR,aT])) (hQ _ _ _ _ (.pF (.uf (.v _) (db _ _ _ _))) (Frame.set (by simp) hfr) rfl)
    cases ok
    ·simp [h3, hm3, guardOf];exact fin2 _ _ ⟨by simp[h0],by simp[h3],by simp[h5],by simp[h6],by simp,by simp[hm5],Frame.set (by simp) hfr⟩
    ·simp [h0, h3, h6, hm3, guardOf, g1, g2, g3, hsl];refine zA (mX (nameAt s a) (by omega)) e25 (.cons (.v _ _ _) .nil) (by simp) ?_;rintro _ rfl;simp[h3,hm3];exact fin2 _ _ ⟨by simp[h0],by simp[h3],by simp[h5],by simp[h6],by simp,by simp[hm5],Frame.set (by simp) hfr⟩
  by_cases hb:(a:Int)+k<s.length
  ·have hb':a+k<s.length:=by omega
   have ht:((a:Int)+k).toNat=a+k:=by omega
   have hp:(0:Int)<=(a:Int)+k:=by omega
   have hlow:(decide (k<(nameAt s a).length))=lower s[a+k]:=by
    rcases Nat.lt_or_ge k (nameAt s a).length with h | h
    ·obtain⟨h1,h2⟩:=wo (q:=lower) (l:=s.drop a) h;simp only[List.getElem_drop] at h2;simp[h,h2]
    ·have hke:k=(nameAt s a).length:=by omega
     have h2:=tE (q:=lower) (l:=s.drop a) (by simp only[nameAt] at hke;rw[<- hke];simp;omega);simp only[List.getElem_drop] at h2;simp only[nameAt] at hke;have h3:lower s[a+k]=false:=by
      rw[<- h2]
      congr 2
      omega
     rw[h3];simpa using h
   by_cases h97:(97:Int)<=(s[a+k].toNat:Int)
   ·by_cases h122:(s[a+k].toNat:Int)<=(122:Int)
    ·simp[h0,h3,hm3,hb,hb',ht,hp,h97,h122,guardOf];refine fin _ ⟨by simp[h0],by simp[h3],by simp[h5],by simp[h6],?_⟩;rw[hlow];simp[lower];omega
    ·simp[h0,h3,hm3,hb,hb',ht,hp,h97,h122,guardOf];refine fin _ ⟨by simp[h0],by simp[h3],by simp[h5],by simp[h6],?_⟩;rw[hlow];simp[lower];omega
   ·simp[h0,h3,hm3,hb,hb',ht,hp,h97,guardOf];refine fin _ ⟨by simp[h0],by simp[h3],by simp[h5],by simp[h6],?_⟩;rw[hlow];simp[lower];omega
  ·simp[h0,h3,hm3,hb,guardOf];refine fin _ ⟨by simp[h0],by simp[h3],by simp[h5],by simp[h6],?_⟩;simp;omega
end Go.Ab
namespace Go.Ab
open Go.Proofs
theorem e78:aV prog 78:=aV.of func78 (by kernel_rfl) rfl
theorem e58:aV prog 58:=aV.of func58 (by kernel_rfl) rfl
def rm (s:aH) (o:Option (aH × aw)) (r:ao):Prop:=
 match o with
 | some (t,l2)=>∃ a,a<=s.length/\t=s.drop a/\l2.length<=8/\r=aT l2 a true
 | none=>∃ l a,a<=s.length/\l.length<=8/\r=aT l a false
theorem cV {w s:aH} {a:Nat} (ha:a<=s.length) (h:w.isPrefixOf (s.drop a)=true):a+w.length<=s.length:=by
 have:=(List.isPrefixOf_iff_prefix.1 h).length_le;simp at this;omega
theorem jk (s:aH) (a:Nat) (ha:a<=s.length):(eK s a true).1=(kindOf (s.drop a)).1/\s.drop (eK s a true).2=(kindOf (s.drop a)).2/\(eK s a true).2<=s.length:=by
 unfold eK kindOf bu;simp only[Bool.true_and]
 split
 ·rename_i h;exact⟨rfl,by simp,cV ha h⟩
 ·split
  ·rename_i h;exact⟨rfl,by simp,cV ha h⟩
  ·split
   ·rename_i h;exact⟨rfl,by simp,cV ha h⟩
   ·exact⟨rfl,rfl,ha⟩
theorem qE (l:aw):∀ e ∈ l.map J.cells,∀ a ∈ e,flat a=true:=by simp[J.cells]
theorem vy (k:Nat):(cls k).length=1:=by unfold cls;split<;>simp
theorem nodeK (g:Nat) (s:aH) (hs:s.length<=4294967296) (l:aw) (hl:l.length<=8) (a:Nat) (ha:a<=s.length) (ok:Bool) (parent:Int)
  (hread:ok=true->∀ (l:aw) (a:Nat) (ok':Bool) (parent:Nat),l.length<=8->parent+1=l.length->a<=s.length->(ok'=true->3 * (8 - l.length)+2<=g)->cG prog 58 [str s,aT l a ok',int parent] (rm s (if ok' then ij true g parent (s.drop a) l else none)))
  (hg:ok=true->3 * (8 - l.length)<=g) :
  cG prog 78 [str s,aT l a ok,int parent] (rm s (if ok then bM true (g+1) parent (s.drop a) l else none)):=by
 refine cG.of func78 rfl ntmps78 (by simp) fun H n Q hB hQ=>?_
 refine zE fun k' V=>?_
 simp [aT];apply V;refine zE fun k' V=>?_
 simp;refine bg.dD aB (qZ s l a ok hs ha) e99 (.refl _) (by decide) (by decide) rfl (by simp[aT]) ?_;rintro _ rfl;have hkA:(eK s a ok).2<=s.length:=by
  cases ok
  ·simpa[eK,bu] using ha
  ·exact (jk s a ha).2.2
 obtain⟨k,a1,hka⟩:∃ k a1,eK s a ok=(k,a1):=⟨_,_,rfl⟩
 rw[hka] at hkA;rw[hka];simp only at hkA;simp[aT];apply V;refine zE fun k' V=>?_
 simp;refine bg.dD aB (pZ s l a1 ok hs hkA) e100 (.refl _) (by decide) (by decide) rfl (by simp[aT]) ?_;rintro _ rfl;have hnl:=k9 s a1 hkA;obtain⟨nm,hnm⟩:∃ nm,nameAt s a1=nm:=⟨_,rfl⟩
 rw[hnm] at hnl;rw[hnm];simp[aT];apply V;obtain⟨a2,ha2⟩:∃ a2,a1+nm.length=a2:=⟨_,rfl⟩
 rw[ha2] at hnl;simp only[<- Int.natCast_add,ha2];refine I.cut (fun O H' n'=>O 0=str s/\O 2=int parent/\O 4 = .ptr (n,4) 1 0 0/\O 6 = .ptr (n+1,6) 1 0 0/\O 7=int k/\O 8=str nm /\
  H' (n,4)=some ⟨3,[[.list true (l.map J.cells),int a2,bool (ok && ef nm)]]⟩/\H' (n+1,6)=some ⟨3,[[.v (.slice none 0 0),int 0,bool false]]⟩/\Frame n H H'/\n'=n+2) ?_ ?_
 ·refine⟨by simp,by simp,by simp,by simp,by simp,by simp,by simp,by simp,by repeat (first | exact Frame.refl _ _ | refine Frame.set (by simp) ?_),rfl⟩
 clear V;rintro O H1 U ⟨h0,h2,h4,h6,h7,h8,hm4,hm6,hfr,rfl⟩;refine zS fun k' V=>?_
 have fin:∀ O:Env,(O 0=str s/\O 2=int parent/\O 4 = .ptr (n,4) 1 0 0/\O 6 = .ptr (n+1,6) 1 0 0/\O 7=int k/\O 8=str nm/\O 31=bool (!(ok && ef nm && decide (l.length<8))))->I prog 78 69 k' O H1 (n+2) Q:=by
  rintro O ⟨h0,h2,h4,h6,h7,h8,h31⟩;apply V;refine I.ite h31 (fun hc1 => ?_) (fun hc1 => ?_)
  ·refine zE fun k' V=>?_
   simp [h4, hm4];apply V;refine zE fun k' V=>?_
   simp [h4, h6, hm6];apply V;refine I.ret func78 (aG.cell (cs:=[.list true (l.map J.cells),int a2,bool false]) (v:=aT l a2 false) aB results78 kk (by simp[h6]) (by simp[cR,aT])) (hQ _ _ _ _ (.pF (db n l a2 false)) (Frame.set (by simp) (Frame.set (by simp) hfr)) ?_);have hno:(if ok=true then bM true (g+1) parent (s.drop a) l else none)=none:=by
    cases ok
    ·rfl
    ·obtain⟨e1,e2,_⟩:=jk s a ha;rw[hka] at e1 e2;simp only at e1 e2;have hn2:nm=(kindOf (s.drop a)).2.takeWhile lower:=by rw[<- hnm,nameAt,e2]
     rw[if_pos rfl,bM,<- hn2,if_pos];have hl8:(l.length == 8) = !decide (l.length<8):=by
      by_cases h:l.length<8
      ·simp[h];omega
      ·simp[h];omega
     rw[hl8];cases hn:ef nm
     ·simp
     ·simp[hn] at hc1;simp[hc1]
   rw[hno];exact⟨l,a2,hnl,hl,rfl⟩
  ·simp only[Bool.not_eq_false',Bool.and_eq_true,decide_eq_true_eq] at hc1;obtain⟨⟨hok,hisn⟩,hl8⟩:=hc1;subst hok;apply I.skip;rw[hisn] at hm4;simp only[Bool.and_self] at hm4;refine zE fun k' V=>?_
   simp [h4, hm4];apply V;refine zE fun k' V=>?_
   simp [h2, h4, h7, h8, hm4, show l.length <= 1073741824 by omega, show l.length + 1 <= 1073741824 by omega, J.cells];apply V;obtain⟨e1,e2,_⟩:=jk s a ha;rw[hka] at e1 e2;simp only at e1 e2;have hn2:nm=(kindOf (s.drop a)).2.takeWhile lower:=by rw[<- hnm,nameAt,e2]
   have hd2:s.drop a2=(kindOf (s.drop a)).2.dropWhile lower:=by rw[<- nZ,<- e2,List.drop_drop,<- ha2,<- hnm];rfl
   have hk3:k<=3:=by rw[e1];exact nd _
   obtain⟨x,hx⟩:∃ x:J,x=⟨k,nm,parent⟩:=⟨_,rfl⟩
   have hxc:x.cells=[int k,str nm,int parent]:=by rw[hx];rfl
   refine I.wb (n+2,38) (o:=⟨3,(l++[x]).map J.cells⟩) (by simp[hx,J.cells]) (qE _) ?_;refine I.cut (fun O H' n'=>O 0=str s/\O 4 = .ptr (n,4) 1 0 0/\O 6 = .ptr (n+1,6) 1 0 0/\O 7=int k/\O 9=int l.length /\
    H' (n,4)=some ⟨3,[[.list true ((l++[x]).map J.cells),int a2,bool true]]⟩/\H' (n+1,6)=some ⟨3,[[.v (.slice none 0 0),int 0,bool false]]⟩/\Frame n H H') ?_ ?_
   ·refine⟨by simp[h0,nn],by simp[h4,ou],by simp[h6,ou],by simp[h7,nn],by simp[nn],?_,?_,?_⟩
    ·rw[tG (by simp)];simp[nn];exact fz_own (by simp[hx,J.cells];exact rfl) (by simp)
    ·rw[tG (by simp)];simp[nn,hm6]
    ·exact Frame.fz hB (by simp) (Frame.set (by simp) (Frame.set (by simp) hfr))
   clear V h0 h2 h4 h6 h7 h8 hm4 hm6 hfr;rintro O H1 U ⟨h0,h4,h6,h7,h9,hm4,hm6,hfr⟩;refine zS fun k' V=>?_
   simp [h7];apply V;have hgg:=hg rfl;refine I.ite rfl (fun hk0=>?_) (fun hk0=>?_)
   ·simp at hk0;have ho:opn k=[91]:=by simp[opn,hk0]
    have hc:cls k=[93]:=by simp[cls,hk0]
    refine zE fun k' V=>?_
    simp [h0, h4, hm4];refine bg.dD aB (cy s (l++[x]) a2 true [91] hs hnl (by simp)) wi (.refl _) (by decide) (by decide) rfl (by simp[aT,h0]) ?_;intro r1 hr1;have hR:∀ r,r=(if bu s a2 true [91] then aT (l++[x]) (a2+(List.length ([91]:aH))) true else aT (l++[x]) a2 false) ->
      ∃ a3 mw,r=aT (l++[x]) a3 mw/\a3<=s.length/\((mw=true/\(opn k).isPrefixOf (s.drop a2)=true/\s.drop a3=(s.drop a2).drop (opn k).length)\/(mw=false/\(opn k).isPrefixOf (s.drop a2)=false)):=by
     rintro _ rfl;rw[ho];cases ht:List.isPrefixOf [91] (s.drop a2)
     ·exact⟨a2,false,by simp[bu,ht],hnl,.inr ⟨rfl,rfl⟩⟩
     ·exact⟨a2+List.length ([91]:aH),true,by simp only[bu,ht,Bool.true_and,if_true],cV hnl ht,.inl ⟨rfl,rfl,by simp⟩⟩
    obtain⟨a3,mw,rfl,ha3,h3⟩:=hR _ hr1;simp[h0,h9,aT];refine bg.dD aB (hread rfl (l++[x]) a3 mw l.length (by simp;omega) (by simp) ha3 (fun _=>by simp;omega)) e58 (.refl _) (by decide) (by decide) rfl (by simp[aT,h0,h9]) ?_;intro r hr;obtain⟨l4,a4,oC,rfl,hl4,ha4,h4'⟩:∃ l4 a4 oC,r=aT l4 a4 oC/\l4.length<=8/\a4<=s.length/\(if mw=true then ij true g l.length (s.drop a3) (l++[x]) else none)=(if oC then some (s.drop a4,l4) else none):=by
     cases hp:(if mw=true then ij true g l.length (s.drop a3) (l++[x]) else none) with
     | none=>
      rw[hp] at hr;obtain⟨l',a',q1,q2,q3⟩:=hr;exact⟨l',a',false,q3,q2,q1,by simp⟩
     | some t=>
      rw[hp] at hr;obtain⟨a',q1,q2,q3,q4⟩:=hr;exact⟨t.2,a',true,q4,q3,q1,by simp[<- q2]⟩
    simp[h0,aT];refine bg.dD aB (cy s l4 a4 oC [93] hs ha4 (by simp)) wi (.refl _) (by decide) (by decide) rfl (by simp[aT,h0]) ?_;intro r2 hr2;have hfin:∀ r,r=(if bu s a4 oC [93] then aT l4 (a4+(List.length ([93]:aH))) true else aT l4 a4 false)->∃ a5 qF,r=aT l4 a5 qF/\rm s (bM true (g+1) parent (s.drop a) l) (aT l4 a5 qF):=by
     rintro _ rfl;rw[bM,<- hn2,<- hd2,<- e1,hisn,<- hx];cases ht:bu s a4 oC [93]
     ·refine⟨a4,false,by simp,?_⟩;have hnone:∀ o:Option (aH × aw),o=none->rm s o (aT l4 a4 false):=by
       rintro _ rfl;exact⟨l4,a4,ha4,hl4,rfl⟩
      refine hnone _ ?_;rcases h3 with ⟨rfl,q1,q2⟩ | ⟨rfl,q1⟩
      ·rw[q1,<- q2];simp only[if_true] at h4';rw[h4'];cases oC
       ·simp
       ·simp only[bu,Bool.true_and] at ht;simp[hc,ht]
      ·simp[q1]
     ·refine⟨a4+1,true,by simp,?_⟩;simp only[bu,Bool.and_eq_true] at ht;obtain⟨rfl,ht⟩:=ht;have hok3:mw=true:=by
       cases mw
       ·simp at h4'
       ·rfl
      subst hok3;rcases h3 with ⟨_,q1,q2⟩ | ⟨h,_⟩
      ·simp only[if_true] at h4';have h8:(l.length == 8)=false:=by simp;omega
       rw[q1,<- q2,h4',hc,h8];simp only[if_true,ht];refine⟨a4+1,cV ha4 ht,by simp,hl4,rfl⟩
      ·cases h
    obtain⟨a5,qF,rfl,hres⟩:=hfin _ hr2;simp[h6,hm6,aT];apply V;exact I.ret func78 (aG.cell (cs:=[.list true (l4.map J.cells),int a5,bool qF]) (v:=aT l4 a5 qF) aB results78 kk (by simp[h6]) (by simp[cR,aT])) (hQ _ _ _ _ (.pF (db n l4 a5 qF)) (Frame.set (by simp) hfr) (by simpa using hres))
   ·simp at hk0;apply I.skip;have ho:opn k=[46,40]:=by simp[opn,hk0]
    have hc:cls k=[41]:=by simp[cls,hk0]
    refine zE fun k' V=>?_
    simp [h0, h4, hm4];refine bg.dD aB (cy s (l++[x]) a2 true [46,40] hs hnl (by simp)) wi (.refl _) (by decide) (by decide) rfl (by simp[aT,h0]) ?_;intro r1 hr1;have hR:∀ r,r=(if bu s a2 true [46,40] then aT (l++[x]) (a2+(List.length ([46,40]:aH))) true else aT (l++[x]) a2 false) ->
      ∃ a3 mw,r=aT (l++[x]) a3 mw/\a3<=s.length/\((mw=true/\(opn k).isPrefixOf (s.drop a2)=true/\s.drop a3=(s.drop a2).drop (opn k).length)\/(mw=false/\(opn k).isPrefixOf (s.drop a2)=false)):=by
     rintro _ rfl;rw[ho];cases ht:List.isPrefixOf [46,40] (s.drop a2)
     ·exact⟨a2,false,by simp[bu,ht],hnl,.inr ⟨rfl,rfl⟩⟩
     ·exact⟨a2+List.length ([46,40]:aH),true,by simp only[bu,ht,Bool.true_and,if_true],cV hnl ht,.inl ⟨rfl,rfl,by simp⟩⟩
    obtain⟨a3,mw,rfl,ha3,h3⟩:=hR _ hr1;simp[h0,h9,aT];refine bg.dD aB (hread rfl (l++[x]) a3 mw l.length (by simp;omega) (by simp) ha3 (fun _=>by simp;omega)) e58 (.refl _) (by decide) (by decide) rfl (by simp[aT,h0,h9]) ?_;intro r hr;obtain⟨l4,a4,oC,rfl,hl4,ha4,h4'⟩:∃ l4 a4 oC,r=aT l4 a4 oC/\l4.length<=8/\a4<=s.length/\(if mw=true then ij true g l.length (s.drop a3) (l++[x]) else none)=(if oC then some (s.drop a4,l4) else none):=by
     cases hp:(if mw=true then ij true g l.length (s.drop a3) (l++[x]) else none) with
     | none=>
      rw[hp] at hr;obtain⟨l',a',q1,q2,q3⟩:=hr;exact⟨l',a',false,q3,q2,q1,by simp⟩
     | some t=>
      rw[hp] at hr;obtain⟨a',q1,q2,q3,q4⟩:=hr;exact⟨t.2,a',true,q4,q3,q1,by simp[<- q2]⟩
    simp[h0,aT];refine bg.dD aB (cy s l4 a4 oC [41] hs ha4 (by simp)) wi (.refl _) (by decide) (by decide) rfl (by simp[aT,h0]) ?_;intro r2 hr2;have hfin:∀ r,r=(if bu s a4 oC [41] then aT l4 (a4+(List.length ([41]:aH))) true else aT l4 a4 false)->∃ a5 qF,r=aT l4 a5 qF/\rm s (bM true (g+1) parent (s.drop a) l) (aT l4 a5 qF):=by
     rintro _ rfl;rw[bM,<- hn2,<- hd2,<- e1,hisn,<- hx];cases ht:bu s a4 oC [41]
     ·refine⟨a4,false,by simp,?_⟩;have hnone:∀ o:Option (aH × aw),o=none->rm s o (aT l4 a4 false):=by
       rintro _ rfl;exact⟨l4,a4,ha4,hl4,rfl⟩
      refine hnone _ ?_;rcases h3 with ⟨rfl,q1,q2⟩ | ⟨rfl,q1⟩
      ·rw[q1,<- q2];simp only[if_true] at h4';rw[h4'];cases oC
       ·simp
       ·simp only[bu,Bool.true_and] at ht;simp[hc,ht]
      ·simp[q1]
     ·refine⟨a4+1,true,by simp,?_⟩;simp only[bu,Bool.and_eq_true] at ht;obtain⟨rfl,ht⟩:=ht;have hok3:mw=true:=by
       cases mw
       ·simp at h4'
       ·rfl
      subst hok3;rcases h3 with ⟨_,q1,q2⟩ | ⟨h,_⟩
      ·simp only[if_true] at h4';have h8:(l.length == 8)=false:=by simp;omega
       rw[q1,<- q2,h4',hc,h8];simp only[if_true,ht];refine⟨a4+1,cV ha4 ht,by simp,hl4,rfl⟩
      ·cases h
    obtain⟨a5,qF,rfl,hres⟩:=hfin _ hr2;simp[h6,hm6,aT];apply V;exact I.ret func78 (aG.cell (cs:=[.list true (l4.map J.cells),int a5,bool qF]) (v:=aT l4 a5 qF) aB results78 kk (by simp[h6]) (by simp[cR,aT])) (hQ _ _ _ _ (.pF (db n l4 a5 qF)) (Frame.set (by simp) hfr) (by simpa using hres))
 cases ok
 ·simp[h4,hm4,guardOf];exact fin _ ⟨by simp[h0],by simp[h2],by simp[h4],by simp[h6],by simp[h7],by simp[h8],by simp⟩
 ·cases hn:ef nm
  ·simp[hn] at hm4;simp[h4,hm4,guardOf];exact fin _ ⟨by simp[h0],by simp[h2],by simp[h4],by simp[h6],by simp[h7],by simp[h8],by simp[hn]⟩
  ·simp[hn] at hm4;simp[h4,hm4,guardOf];refine fin _ ⟨by simp[h0],by simp[h2],by simp[h4],by simp[h6],by simp[h7],by simp[h8],?_⟩
   by_cases h:l.length<8
   ·simp[h,hn];omega
   ·simp[h,hn];omega
end Go.Ab
namespace Go.Ab
open Go.Proofs
theorem e40:aV prog 40:=aV.of func40 (by kernel_rfl) rfl
theorem rm.get {s:aH} {o:Option (aH × aw)} {r:ao} (h:rm s o r):∃ l a ok,r=aT l a ok/\a<=s.length/\l.length<=8/\o=if ok then some (s.drop a,l) else none:=by
 cases o with
 | none=>obtain⟨l,a,h1,h2,h3⟩:=h;exact⟨l,a,false,h3,h1,h2,rfl⟩
 | some x=>obtain⟨a,h1,h2,h3,h4⟩:=h;exact⟨x.2,a,true,h4,h1,h3,by simp[<- h2]⟩
theorem rm.of {s:aH} {o:Option (aH × aw)} {l:aw} {a:Nat} {ok:Bool} (ha:a<=s.length) (hl:l.length<=8) (h:o=if ok then some (s.drop a,l) else none):rm s o (aT l a ok):=by
 subst h;cases ok
 ·exact⟨l,a,ha,hl,rfl⟩
 ·exact⟨a,ha,rfl,hl,rfl⟩
theorem qN (s:aH) (hs:s.length<=4294967296):∀ (G:Nat) (l:aw) (a:Nat) (ok:Bool) (parent:Int),l.length<=8->a<=s.length->(ok=true->3 * (8 - l.length)+2<=G) ->
  cG prog 58 [str s,aT l a ok,int parent] (rm s (if ok then ij true G parent (s.drop a) l else none)):=by
 intro G
 induction G using Nat.strongRecOn with
 | _ G IHG=>
 intro l a ok parent hl ha hG;have node:∀ (g:Nat) (l:aw) (a:Nat) (ok:Bool),g+1<=G\/ok=false->l.length<=8->a<=s.length->(ok=true->3 * (8 - l.length)<=g) ->
   cG prog 78 [str s,aT l a ok,int parent] (rm s (if ok then bM true (g+1) parent (s.drop a) l else none)):=fun g l a ok hgG hl ha hg=>
  nodeK g s hs l hl a ha ok parent (fun hok l a ok' parent h1 h2 h3 h4=>by
   rcases hgG with h | h
   ·exact IHG g (by omega) l a ok' parent h1 h3 h4
   ·rw[hok] at h;cases h) hg
 refine cG.of func58 rfl ntmps58 (by simp) fun H n Q hB hQ=>?_
 refine zE fun k' V=>?_
 simp [aT];apply V;refine zS fun k' V=>?_
 simp;refine bg.dD aB (gr s l a ok [48] hs ha (by simp)) e76 (.refl _) (by decide) (by decide) rfl (by simp[aT]) ?_;rintro _ rfl;simp;apply V;refine I.ite rfl (fun hc1 => ?_) (fun hc1 => ?_)
 ·have hc1:bu s a ok [48]=true:=by simpa using hc1
  refine zE fun k' V=>?_
  simp;refine bg.dD aB (cy s l a ok [48] hs ha (by simp)) wi (.refl _) (by decide) (by decide) rfl (by simp[aT]) ?_;rintro _ rfl;simp[hc1,aT];apply V;simp only[bu,Bool.and_eq_true] at hc1;obtain⟨rfl,hp⟩:=hc1;have hG':=hG rfl;refine I.ret func58 (aG.cell (cs:=[.list true (l.map J.cells),int ((a+1:Nat):Int),bool true]) (v:=aT l (a+1) true) aB results58 kk (by simp) (by simp[cR,aT])) (hQ _ _ _ _ (.pF (db n l (a+1) true)) (by repeat (first | exact Frame.refl _ _ | refine Frame.set (by simp) ?_)) ?_);refine rm.of (cV ha hp) hl ?_;obtain⟨g,rfl⟩:∃ g,G=g+1:=⟨G - 1,by omega⟩
  rw[if_pos rfl,ij,if_pos hp];simp
 ·have hc1:bu s a ok [48]=false:=by simpa using hc1
  apply I.skip;refine zE fun k' V=>?_
  simp;refine bg.dD aB (node (G - 2) l a ok (by cases ok<;>simp_all;omega) hl ha (fun h=>by have:=hG h;omega)) e78 (.refl _) (by decide) (by decide) rfl (by simp[aT]) ?_;intro r hr;obtain⟨l1,a1,pP,rfl,ha1,hl1,he1⟩:=hr.get;simp[aT];apply V;apply I.seq;refine I.block (I.mR (fun m O H' n'=>O 0=str s/\O 2=int parent/\O 4 = .ptr (n,4) 1 0 0/\O 6 = .ptr (n+1,6) 1 0 0/\H' (n+1,6)=some ⟨3,[[.v (.slice none 0 0),int 0,bool false]]⟩/\Frame n H H'/\m<=G /\
   ∃ (l1:aw) (a1:Nat) (pP:Bool),H' (n,4)=some ⟨3,[[.list true (l1.map J.cells),int a1,bool pP]]⟩/\a1<=s.length/\l1.length<=8/\(pP=true->3 * (8 - l1.length)+3<=m) /\
    (if ok then ij true G parent (s.drop a) l else none)=(if pP then c4 true m parent (s.drop a1) l1 else none)) (G - 1) ?_ ?_)
  ·refine⟨by simp,by simp,by simp,by simp,by simp,by repeat (first | exact Frame.refl _ _ | refine Frame.set (by simp) ?_),by omega,l1,a1,pP,by simp,ha1,hl1,fun h=>?_,?_⟩
   ·subst h;cases ok
    ·simp at he1
    ·have hG':=hG rfl;have:=((cQ true _ _ _ _ _ _ hl).1 he1).2.1;omega
   ·cases ok
    ·simp at he1;subst he1
     rfl
    ·have hG':=hG rfl;obtain⟨g,rfl⟩:∃ g,G=g+2:=⟨G - 2,by omega⟩
     have hp:List.isPrefixOf [48] (s.drop a)=false:=by simpa[bu] using hc1
     rw[if_pos rfl,ij,if_neg (by simp[hp])];rw[if_pos rfl,show g+2 - 2+1=g+1 by omega] at he1;rw[he1];cases pP<;>rfl
  ·rintro m O H' n' ⟨h0,h2,h4,h6,hm6,hfr,hmG,l1,a1,pP,hm4,ha1,hl1,hm,htot⟩ IH;refine zS fun k' V=>?_
   have fin:∀ O:Env,(O 0=str s/\O 2=int parent/\O 4 = .ptr (n,4) 1 0 0/\O 6 = .ptr (n+1,6) 1 0 0/\O 23=bool (bu s a1 pP [124]))->I prog 58 31 k' O H' n' Q:=by
    rintro O ⟨h0,h2,h4,h6,h23⟩;apply V;refine I.ite h23 (fun hc2 => ?_) (fun hc2 => ?_)
    ·apply I.skip;apply I.block;refine zF fun k' V=>?_
     simp [h0, h4, hm4];refine bg.dD aB (cy s l1 a1 pP [124] hs ha1 (by simp)) wi (.refl _) (by decide) (by decide) rfl (by simp[aT,h0]) ?_;rintro _ rfl;simp[hc2,h0,h2,aT];simp only[bu,Bool.and_eq_true] at hc2;obtain⟨rfl,hp⟩:=hc2;have hm':=hm rfl;refine bg.dD aB (node (m - 2) l1 (a1+1) true (.inl (by omega)) hl1 (cV ha1 hp) (fun _=>by omega)) e78 (.refl _) (by decide) (by decide) rfl (by simp[aT,h0,h2]) ?_;intro r hr;obtain⟨l2,a2,ok2,rfl,ha2,hl2,he2⟩:=hr.get;simp[aT,h4,hm4];apply V;apply I.inBlock;refine IH (m - 1) _ _ _ (by omega) ⟨by simp[h0],by simp[h2],by simp[h4],by simp[h6],by simp[hm6],Frame.set (by simp) hfr,by omega,l2,a2,ok2,by simp,ha2,hl2,fun h=>?_,?_⟩
     ·subst h;have:=((cQ true _ _ _ _ _ _ hl1).1 he2).2.1;omega
     ·obtain⟨g,rfl⟩:∃ g,m=g+2:=⟨m - 2,by omega⟩
      rw[htot,if_pos rfl,c4,if_pos hp];rw[if_pos rfl,show g+2 - 2+1=g+1 by omega] at he2;rw[show (s.drop a1).drop 1=s.drop (a1+1) by simp,he2];cases ok2<;>rfl
    ·refine I.exit rfl ?_;refine zE fun k' V=>?_
     simp [h4, h6, hm4, hm6];apply V;refine I.ret func58 (aG.cell (cs:=[.list true (l1.map J.cells),int a1,bool pP]) (v:=aT l1 a1 pP) aB results58 kk (by simp[h6]) (by simp[cR,aT])) (hQ _ _ _ _ (.pF (db n l1 a1 pP)) (Frame.set (by simp) hfr) ?_);refine rm.of ha1 hl1 ?_;rw[htot];cases pP
     ·rfl
     ·have hm':=hm rfl;obtain⟨g,rfl⟩:∃ g,m=g+1:=⟨m - 1,by omega⟩
      simp only[bu,Bool.true_and] at hc2;rw[if_pos rfl,if_pos rfl,c4,if_neg (by simp[hc2])]
   cases pP
   ·simp[h4,hm4,guardOf];exact fin _ ⟨by simp[h0],by simp[h2],by simp[h4],by simp[h6],by simp[bu]⟩
   ·simp[h0,h4,hm4,guardOf];refine bg.dD aB (gr s l1 a1 true [124] hs ha1 (by simp)) e76 (.refl _) (by decide) (by decide) rfl (by simp[aT,h0]) ?_;rintro _ rfl;simp;exact fin _ ⟨by simp[h0],by simp[h2],by simp[h4],by simp[h6],by simp⟩
theorem iP (s:aH) (hs:s.length<=4294967296):aA prog 40 [str s] (fun r=>r = .tup [bq true (parse s).1,bool (parse s).2]):=by
 refine aA.of func40 rfl ntmps40 (by simp) fun Q hQ=>?_
 refine zE fun k' V=>?_
 simp;apply V;refine zE fun k' V=>?_
 simp;refine bg.dD aB (qN s hs 40 [] 0 true (-1) (by simp) (by omega) (by simp)) e58 (.cons (.refl _) (.cons (Sub.agg (.cons (Sub.nil true) (.refl _))) (.refl _))) (by decide) (by decide) rfl (by simp) ?_;intro r hr;obtain⟨l,a,ok,rfl,ha,hl,he⟩:=hr.get;rw[if_pos rfl,List.drop_zero] at he;have hpc:=sK s;rw[he] at hpc;simp[aT];apply V;refine zS fun k' V=>?_
 have fin:∀ O:Env,O 2 = .ptr (0,2) 1 0 0->O 4 = .ptr (1,4) 1 0 0->O 24=bool (!(parse s).2)->((parse s).2=true->(parse s).1=l)->((parse s).2=false->(parse s).1=[])->∀ H:au,H (0,2)=some ⟨1,[[.v (.slice none 0 0)]]⟩->H (1,4)=some ⟨3,[[.list true (l.map J.cells),int a,bool ok]]⟩->∀ n,I prog 40 28 k' O H n Q:=by
  intro O h2 h4 h24 hp1 hp2 H hm2 hm4 n;apply V;refine I.ite h24 (fun hc1 => ?_) (fun hc1 => ?_)
  ·have hc1:(parse s).2=false:=by simpa using hc1
   refine zE fun k' V=>?_
   simp [h2, hm2];apply V;refine I.ret func40 (aG.rb (v1:=.agg [.v (.slice none 0 0)]) (v2:=bool false) aB results40 (by simp[du,h2,cR]) (by simp[du])) (hQ _ _ _ (.tup [bq true [],bool false]) (.of (dv.uf (dv.agg1 (dv.nilS (d:=0))) _).ret) (by rw[hp2 hc1,hc1]))
  ·have hc1:(parse s).2=true:=by simpa using hc1
   apply I.skip;refine zE fun k' V=>?_
   simp [h2, h4, hm2, hm4];apply V;refine I.ret func40 (aG.rb (v1:=bq true l) (v2:=bool true) aB results40 (by simp[du,h2,cR,bq]) (by simp[du])) (hQ _ _ _ _ (.of (hU.fresh (by simp[bq,J.cells]))) (by rw[hp1 hc1,hc1]))
 cases ok
 ·simp[guardOf];simp at hpc;exact fin _ (by simp) (by simp) (by simp[hpc]) (by simp[hpc]) (by simp[hpc]) _ (by simp) (by simp) _
 ·simp only[if_true] at hpc
  by_cases hal:a=s.length
  ·subst hal;have hg:=jw ((cQ true 40 (-1) s [] _ _ (by simp)).2.1 he).1;have hv:=ca hg;simp[guardOf];refine zA (jx hv (l.length+1) (-1) (by omega) (by omega) (by omega) (by omega)) e28 (.cons (az.bq true l) (.cons (.v _ _ _) .nil)) (by simp[bq]) ?_;rintro _ rfl;simp[guardOf]
   by_cases ht:s=bb l (l.length+1) (-1)
   ·have ht':bb l (l.length+1) (-1)=s:=ht.symm;simp[ht'] at hpc;exact fin _ (by simp) (by simp) (by simp[hpc,<- ht]) (by simp[hpc]) (by simp[hpc]) _ (by simp) (by simp) _
   ·have ht':¬ bb l (l.length+1) (-1)=s:=fun h=>ht h.symm
    simp[ht'] at hpc;exact fin _ (by simp) (by simp) (by simp[hpc];exact fun h=>ht h.symm) (by simp[hpc]) (by simp[hpc]) _ (by simp) (by simp) _
  ·have hd:¬ s.drop a=[]:=by simp;omega
   simp only[hd,false_and,if_false] at hpc;have hal':((a:Int) != (s.length:Int))=true:=by simp;omega
   simp[guardOf,hal'];exact fin _ (by simp) (by simp) (by simp[hpc]) (by simp[hpc]) (by simp[hpc]) _ (by simp) (by simp) _
end Go.Ab
namespace Go.Ab
open Go.Proofs Go.RowKit
theorem e54:aV prog 54:=aV.of func54 (by kernel_rfl) rfl
theorem e74:aV prog 74:=aV.of func74 (by kernel_rfl) rfl
theorem e75:aV prog 75:=aV.of func75 (by kernel_rfl) rfl
theorem e98:aV prog 98:=aV.of func98 (by kernel_rfl) rfl
theorem ny (s p:aH):aA prog 74 [str s,str p] (fun r=>r = .tup [str (if p.isPrefixOf s then s.drop p.length else s),bool (p.isPrefixOf s)]):=by
 refine aA.jM fun c xs _ r=>?_
 obtain⟨x,y,rfl,hx,hy⟩:=r.vv;rw[hx.bo,hy.bo];refine (Tryz.strings_CutPrefix ⟨s.toArray⟩ ⟨p.toArray⟩ c.w).mono ?_;rintro e w' ⟨he,rfl⟩;refine⟨_,.tup [str (if p.isPrefixOf s then s.drop p.length else s),bool (p.isPrefixOf s)],he,rfl,by simp,fun c'=>?_,Below.refl _ _⟩;refine .tup _ [.string ⟨(if p.isPrefixOf s then s.drop p.length else s).toArray⟩,.bool (p.isPrefixOf s)] rfl fun i b x hb hx=>?_
 match i with
 | 0=>simp at hb hx;rw[<- hb,<- hx];exact .v _
 | 1=>simp at hb hx;rw[<- hb,<- hx];exact .v _
 | i+2=>simp at hb
def scan (s:aH) (nv:ao) (bad:Bool):Ob:=⟨3,[[str s,nv,bool bad]]⟩
theorem jD {X:Id} {H:au} {n:Nat} {s:aH} {nv:ao} {bad:Bool} (w:aH) (hX:H X=some (scan s nv bad)) :
  aS prog 54 [.ptr X 1 0 0,str w] H n (fun r H1 U=>r=bool (w.isPrefixOf s)/\U=n/\H1=if w.isPrefixOf s then H.set X (scan (s.drop w.length) nv bad) else H):=by
 unfold scan at hX ⊢;refine aS.of func54 rfl ntmps54 (by simp) fun Q hQ=>?_
 refine zE fun _ V=>?_
 simp;apply V;refine zE fun _ V=>?_
 simp [hX];refine zA (ny s w) e74 (.cons (.v _ _ _) (.cons (.v _ _ _) .nil)) (by simp) ?_;rintro _ rfl;simp;apply V;refine zS fun _ V=>?_
 simp;apply V;refine I.ite rfl (fun hc1 => ?_) (fun hc1 => ?_)
 ·have hc1:w.isPrefixOf s=true:=by simpa using hc1
  refine zF fun _ V=>?_
  have hp:w <+: s:=List.isPrefixOf_iff_prefix.1 hc1;simp [hX, hc1, hp];apply V;refine zE fun _ V=>?_
  simp;apply V;exact I.ret func54 (aG.one results54) (hQ _ _ _ ⟨by simp[hc1],rfl,by simp[hc1]⟩)
 ·have hc1:w.isPrefixOf s=false:=by simpa using hc1
  apply I.skip;refine zE fun _ V=>?_
  simp;apply V;exact I.ret func54 (aG.one results54) (hQ _ _ _ ⟨by simp[hc1],rfl,by simp[hc1]⟩)
theorem lX (s:aH):Lib.trimLeftS s alpha=s.dropWhile lower:=by
 have he:(fun c=>alpha.contains c)=lower:=funext kl;unfold Lib.trimLeftS;rw[he]
theorem tw_len (s:aH):(s.takeWhile lower).length+(s.dropWhile lower).length=s.length:=by
 rw[<- List.length_append,List.takeWhile_append_dropWhile]
theorem vY {X:Id} {H:au} {n:Nat} {s:aH} {nv:ao} {bad:Bool} (hs:s.length<=4294967296) (hX:H X=some (scan s nv bad)) :
  aS prog 75 [.ptr X 1 0 0] H n (fun r H1 U=>r=str (s.takeWhile lower)/\U=n/\H1=H.set X (scan (s.dropWhile lower) nv bad)):=by
 have hl:=tw_len s;unfold scan at hX ⊢;refine aS.of func75 rfl ntmps75 (by simp) fun Q hQ=>?_
 refine zE fun _ V=>?_
 simp;apply V;refine I.gY aB aD cf (by decide) (by kernel_rfl) fun _ V=>?_
 simp [hX];refine bw.c8 aB aD (oG s alpha (by decide) (by decide)) e98 (.cons (.v _ _ _) (.cons (.v _ _ _) .nil)) (by decide) rfl (by simp[alpha]) ?_;have hw:IntKind.i64.wrap ((s.length:Int) - (s.dropWhile lower).length)=((s.takeWhile lower).length:Int):=by rw[wrap64]<;>omega
 simp[lX,hw];apply V;refine zE fun _ V=>?_
 simp [hX, show ((s.takeWhile lower).length : Int) <= s.length by omega, oo];apply V;refine zE fun _ V=>?_
 have hdt:(s.drop (s.takeWhile lower).length).take (s.length - (s.takeWhile lower).length)=s.dropWhile lower:=by rw[nZ,List.take_of_length_le (by omega)]
 simp [hX, show ((s.takeWhile lower).length : Int) <= s.length by omega, hdt];apply V;refine zE fun _ V=>?_
 simp;apply V;exact I.ret func75 (aG.one results75) (hQ _ _ _ ⟨by simp,rfl,rfl⟩)
end Go.Ab
namespace Go.Ab
open Go.Proofs
theorem e36:aV prog 36:=aV.of func36 (by kernel_rfl) rfl
theorem e55:aV prog 55:=aV.of func55 (by kernel_rfl) rfl
def NV (X:Id) (m n:Nat) (H:au) (nv:ao) (l:aw):Prop:=
 (nv = .v (.slice none 0 0)/\l=[])\/∃ aj:Id,nv = .arr aj l.length 0 l.length/\H aj=some ⟨3,l.map J.cells⟩/\aj ≠ X/\m<=aj.1/\aj.1<n
theorem NV.mono {X:Id} {m n n':Nat} {H H':au} {nv:ao} {l:aw} (h:NV X m n H nv l) (hn:n<=n') (hH:∀ aj:Id,aj ≠ X->m<=aj.1->aj.1<n->H' aj=H aj):NV X m n' H' nv l:=by
 rcases h with h | ⟨aj,h1,h2,h3,h4,h5⟩
 ·exact .inl h
 ·exact .inr ⟨aj,h1,by rw[hH aj h3 h4 h5];exact h2,h3,h4,by omega⟩
def nq (X:Id) (m:Nat) (s:aH) (H:au) (n:Nat) (o:Option (aH × aw)) (H1:au) (U:Nat):Prop:=
 n<=U/\(∀ i:Id,i.1<m->i ≠ X->H1 i=H i)/\∃ s' l' nv' bad,H1 X=some (scan s' nv' bad)/\NV X m U H1 nv' l'/\s'.length<=s.length/\l'.length<=8 /\
  (match o with | some (t,l2)=>bad=false/\s'=t/\l'=l2 | none=>bad=true)
theorem tB {s:aH} {j:Nat} (hj:j<3) (hno:∀ i,i<j->(word i).isPrefixOf s=false) (h:(word j).isPrefixOf s=true):kindOf s=(j+1,s.drop (word j).length):=by
 unfold kindOf
 match j,hj with
 | 0,_=>rw[if_pos h]
 | 1,_=>rw[if_neg (by rw[hno 0 (by omega)];simp),if_pos h]
 | 2,_=>rw[if_neg (by rw[hno 0 (by omega)];simp),if_neg (by rw[hno 1 (by omega)];simp),if_pos h]
theorem nodeI {X:Id} {m n:Nat} {H:au} {s:aH} {l:aw} {nv:ao} (g:Nat) (parent:Int) (hs:s.length<=4294967296) (hl:l.length<=8) (hX:H X=some (scan s nv false)) (hNV:NV X m n H nv l) (hmn:m<=n) (hXn:X.1<n)
  (hin:∀ (H:au) (n:Nat) (s:aH) (l:aw) (nv:ao) (parent:Nat),s.length<=4294967296->l.length<=8->parent+1=l.length->H X=some (scan s nv false)->NV X m n H nv l->m<=n->X.1<n->3 * (8 - l.length)+2<=g ->
   aS prog 36 [.ptr X 1 0 0,int parent] H n (fun r H1 U=>r = .tup []/\nq X m s H n (ij false g parent s l) H1 U))
  (hg:3 * (8 - l.length)<=g) :
  aS prog 55 [.ptr X 1 0 0,int parent] H n (fun r H1 U=>r = .tup []/\nq X m s H n (bM false (g+1) parent s l) H1 U):=by
 have hX4:¬ X=(n,4):=by rintro rfl;simp at hXn
 have h4X:¬ (n,4)=X:=fun h=>hX4 h.symm
 refine aS.of func55 rfl ntmps55 (by simp) fun Q hQ=>?_
 refine zE fun k' V=>?_
 simp;apply V;refine zE fun k' V=>?_
 simp;apply V;refine I.vK (fun O H' n'=>O 0 = .ptr X 1 0 0/\O 4 = .ptr (n,4) 1 0 0/\O 5=str (opn (kindOf s).1)/\O 6=str (cls (kindOf s).1) /\
  H' (n,4)=some ⟨3,[[int (kindOf s).1,str [],int parent]]⟩/\H' X=some (scan (kindOf s).2 nv false)/\NV X m n H' nv l/\n'=n+1/\∀ i:Id,i.1<m->i ≠ X->H' i=H i) (fun after=>?_) ?_
 ·refine zE fun k' V=>?_
  simp;refine zA gX e70 .nil (by simp) ?_;rintro _ rfl;simp[cg];apply V;refine I.block (I.dQ 3 (fun j O H' n'=>O 0 = .ptr X 1 0 0/\O 4 = .ptr (n,4) 1 0 0/\O 5=str [91]/\O 6=str [93]/\O 12 = .list true [[str (word 0)],[str (word 1)],[str (word 2)]]/\O 13=int 3/\O 14=int j /\
   H' (n,4)=some ⟨3,[[int 0,str [],int parent]]⟩/\H' X=some (scan s nv false)/\(∀ i,i<j->(word i).isPrefixOf s=false)/\n'=n+1/\∀ i:Id,i.1<n->i ≠ X->H' i=H i) ?_ ?_)
  ·refine⟨by simp,by simp,by simp,by simp,by simp,by simp,by simp,by simp,by simp[hX4,hX],by simp,rfl,fun i h1 h2=>?_⟩;have h3:¬ i=(n,4):=by rintro rfl;simp at h1
   simp[h3]
  ·rintro j O H' n' hj ⟨h0,h4,h5,h6,h12,h13,h14,hm4,hmX,hno,rfl,hfr⟩ IH;have hw:∀ j,j<3->([[str (word 0)],[str (word 1)],[str (word 2)]]:List (List ao))[j]?=some [str (word j)]:=by
    intro j hj
    match j,hj with
    | 0,_=>rfl
    | 1,_=>rfl
    | 2,_=>rfl
   have hNV':∀ H2:au,(∀ i:Id,i.1<n->i ≠ X->H2 i=H i)->NV X m n H2 nv l:=fun H2 h=>hNV.mono (Nat.le_refl _) fun aj h1 _ h3=>h aj h3 h1
   refine zE fun k' V=>?_
   simp [h13, h14];apply V;apply I.seq;refine I.ite rfl (fun hc1 => ?_) (fun hc1 => ?_)
   ·simp only[decide_eq_true_eq] at hc1;have hj3:j<3:=by omega
    apply zK;apply I.block;refine zE fun k' V=>?_
    have hwj:∀ h:j<([[str (word 0)],[str (word 1)],[str (word 2)]]:List (List ao)).length,([[str (word 0)],[str (word 1)],[str (word 2)]]:List (List ao))[j]=[str (word j)]:=fun h=>by
     have:=hw j hj3;rw[List.getElem?_eq_getElem h] at this;exact Option.some.inj this
    have hj3':(j:Int)<3:=by omega
    simp [h12, h14, hwj, hj3, hj3'];apply V;refine zE fun k' V=>?_
    simp [h0];refine bg.hZ aB (jD (word j) hmX) e54 (by decide) (by decide) rfl (by simp[h0]) ?_;rintro v H2 n2 ⟨rfl,rfl,rfl⟩;simp;apply V;refine I.ite rfl (fun hc2 => ?_) (fun hc2 => ?_)
    ·have hc2:(word j).isPrefixOf s=true:=by simpa using hc2
     have hko:=tB hj3 hno hc2;have hp:word j <+: s:=List.isPrefixOf_iff_prefix.1 hc2;refine zE fun k' V=>?_
     have hw1:IntKind.i64.wrap (1+(j:Int))=((j+1:Nat):Int):=by rw[wrap64]<;>omega
     simp [h4, hm4, h4X, hp, hw1, -Int.natCast_add];apply V;refine zE fun k' V=>?_
     simp;apply V;refine I.exit rfl ?_;refine after _ _ _ ⟨by simp[h0],by simp[h4],by simp[hko,opn],by simp[hko,cls],by simp[hko],by simp[hX4,hko],hNV' _ fun i h1 h2=>?_,rfl,fun i h1 h2=>?_⟩
     ·rw[au.ay _ _ (by rintro rfl;simp at h1),au.ay _ _ h2,hfr i h1 h2]
     ·rw[au.ay _ _ (by rintro rfl;simp at h1;omega),au.ay _ _ h2,hfr i (by omega) h2]
    ·have hc2:(word j).isPrefixOf s=false:=by simpa using hc2
     have hp:¬ word j <+: s:=fun h=>by rw[List.isPrefixOf_iff_prefix.2 h] at hc2;cases hc2
     rw[if_neg hp];apply I.skip;refine zI fun k' V=>?_
     simp [h14, bY (show j < 4611686018427387904 by omega)];apply V;refine IH hj3 _ _ _ ⟨by simp[h0],by simp[h4],by simp[h5],by simp[h6],by simp[h12],by simp[h13],by simp,hm4,hmX,fun i hi=>?_,rfl,hfr⟩;rcases Nat.lt_or_ge i j with h | h
     ·exact hno i h
     ·rw[show i=j by omega];exact hc2
   ·simp only[decide_eq_false_iff_not] at hc1;have hj3:j=3:=by omega
    subst hj3;have hko:kindOf s=(0,s):=by simp[kindOf,hno 0 (by omega),hno 1 (by omega),hno 2 (by omega)]
    refine I.exit rfl ?_;exact after _ _ _ ⟨by simp[h0],by simp[h4],by simp[h5,hko,opn],by simp[h6,hko,cls],by simp[hm4,hko],by simp[hmX,hko],hNV' _ hfr,rfl,fun i h1 h2=>hfr i (by omega) h2⟩
 rintro O H1 U ⟨h0,h4,h5,h6,hm4,hmX,hNV,rfl,hfr⟩;obtain⟨k,hk⟩:∃ k,(kindOf s).1=k:=⟨_,rfl⟩
 obtain⟨s1,hs1⟩:∃ s1,(kindOf s).2=s1:=⟨_,rfl⟩
 have hsl:s1.length<=s.length:=by rw[<- hs1];exact jb s
 rw[hk] at h5 h6 hm4;rw[hs1] at hmX;refine zE fun k' V=>?_
 simp [h0];refine bg.hZ aB (vY (by omega) hmX) e75 (by decide) (by decide) rfl (by simp[h0]) ?_;rintro v H2 n2 ⟨rfl,rfl,rfl⟩;simp[h4,hm4,h4X];apply V;obtain⟨nm,hnm⟩:∃ nm,s1.takeWhile lower=nm:=⟨_,rfl⟩
 obtain⟨s2,hs2⟩:∃ s2,s1.dropWhile lower=s2:=⟨_,rfl⟩
 have hs2l:s2.length<=s1.length:=by rw[<- hs2];exact (List.dropWhile_suffix _).length_le
 rw[hnm,hs2];refine I.cut (fun O H' n'=>O 0 = .ptr X 1 0 0/\O 4 = .ptr (n,4) 1 0 0/\O 5=str (opn k)/\O 6=str (cls k) /\
  H' (n,4)=some ⟨3,[[int k,str nm,int parent]]⟩/\H' X=some (scan s2 nv false)/\NV X m n H' nv l/\n'=n+1/\∀ i:Id,i.1<m->i ≠ X->H' i=H i) ?_ ?_
 ·refine⟨by simp[h0],by simp[h4],by simp[h5],by simp[h6],by simp,by simp[hX4],hNV.mono (Nat.le_refl _) fun aj h1 h2 h3=>?_,rfl,fun i h1 h2=>?_⟩
  ·rw[au.ay _ _ (by rintro rfl;simp at h3),au.ay _ _ h1]
  ·rw[au.ay _ _ (by rintro rfl;simp at h1;omega),au.ay _ _ h2];exact hfr i h1 h2
 clear V hfr hNV hmX hm4 h6 h5 h4 h0;rintro O H1 U ⟨h0,h4,h5,h6,hm4,hmX,hNV,rfl,hfr⟩;refine zE fun k' V=>?_
 have mid:∀ O:Env,O 0 = .ptr X 1 0 0->O 4 = .ptr (n,4) 1 0 0->O 5=str (opn k)->O 6=str (cls k)->O 9=int l.length->I prog 55 84 k' O H1 (n+1) Q:=by
  intro O h0 h4 h5 h6 h9;apply V;refine zS fun k' V=>?_
  have hmX':=hmX;unfold scan at hmX';simp [h0, h5, hmX', guardOf];refine bg.hZ aB (jD (opn k) hmX) e54 (by decide) (by decide) rfl (by simp[h0,h5]) ?_;rintro v H2 n2 ⟨rfl,rfl,rfl⟩;have fin:∀ (O:Env) (s3:aH) (bad:Bool),O 0 = .ptr X 1 0 0->O 4 = .ptr (n,4) 1 0 0->O 6=str (cls k)->O 9=int l.length->s3.length<=s2.length->bad=(!(opn k).isPrefixOf s2 || l.length == 8)->(bad=false->s3=s2.drop (opn k).length) ->
    I prog 55 84 k' O (H1.set X (scan s3 nv bad)) (n+1) Q:=by
   intro O s3 bad h0 h4 h6 h9 hs3 hbad hs3';apply V;refine zE fun k' V=>?_
   simp [h0, scan];apply V;have hpn1:bad=true->bM false (g+1) parent s l=none:=by
    intro h;rw[hbad] at h;rw[bM,hk,hs1,hnm,hs2,if_pos (by simpa using h)]
   have hpn2:bad=false->ij false g l.length (s2.drop (opn k).length) (l++[⟨k,nm,parent⟩])=none->bM false (g+1) parent s l=none:=by
    intro h h';rw[hbad] at h;rw[bM,hk,hs1,hnm,hs2,if_neg (by simpa using h),h']
   have hpn3:bad=false->∀ r l2,ij false g l.length (s2.drop (opn k).length) (l++[⟨k,nm,parent⟩])=some (r,l2)->bM false (g+1) parent s l=if (cls k).isPrefixOf r then some (r.drop 1,l2) else none:=by
    intro h r l2 h';rw[hbad] at h;rw[bM,hk,hs1,hnm,hs2,if_neg (by simpa using h),h']
   refine I.ite rfl (fun hc3 => ?_) (fun hc3 => ?_)
   ·have hb:bad=true:=by simpa using hc3
    refine I.ret func55 (aG.zero results55) (hQ _ _ _ ⟨rfl,by omega,fun i h1 h2=>?_,s3,l,nv,true,?_,?_,by omega,hl,?_⟩)
    ·rw[au.ay _ _ h2];exact hfr i h1 h2
    ·simp[hb,scan]
    ·exact hNV.mono (by omega) fun aj h1 _ _=>au.ay _ _ h1
    ·rw[hpn1 hb]
   ·have hb:bad=false:=by simpa using hc3
    subst hb;have hs3e:=hs3' rfl;have hpn2:=hpn2 rfl;have hpn3:=hpn3 rfl;have hl8:l.length<8:=by
     simp at hbad;omega
    obtain⟨x,hx⟩:∃ x:J,x=⟨k,nm,parent⟩:=⟨_,rfl⟩
    rw[<- hx] at hpn2 hpn3;apply I.skip;refine I.gY aB aD cf (by decide) (by kernel_rfl) fun k' V=>?_
    have mid2:∀ (O:Env) (H':au) (n':Nat) (nv':ao),O 0 = .ptr X 1 0 0->O 6=str (cls k)->O 9=int l.length->H' X=some (scan s3 nv' false)->NV X m n' H' nv' (l++[x])->n+1<=n'->(∀ i:Id,i.1<m->i ≠ X->H' i=H i) ->
      I prog 55 84 k' O H' n' Q:=by
     intro O H' n' nv' h0 h6 h9 hmX hNV hn' hfr;apply V;refine zE fun k' V=>?_
     simp [h0, h9];refine bg.hZ aB (hin H' n' s3 (l++[x]) nv' l.length (by omega) (by simp;omega) (by simp) hmX hNV (by omega) (by omega) (by simp;omega)) e36 (by decide) (by decide) rfl (by simp[h0,h9]) ?_;rintro v H2 n2 ⟨rfl,hn2,hfr2,s',l',nv2,bad,hX2,hNV2,hs',hl',hres⟩;simp;apply V;rw[<- hs3e] at hpn2 hpn3;have hX2':=hX2;unfold scan at hX2';refine zF fun k' V=>?_
     have hs2d:(s2.drop (opn k).length).length<=s2.length:=by simp
     cases hpi:ij false g l.length s3 (l++[x]) with
     | none=>
      rw[hpi] at hres;subst hres;simp [h0, h6, hX2', guardOf];apply V;refine I.fin func55 (aG.zero results55) (hQ _ _ _ ⟨rfl,by omega,fun i h1 h2=>?_,s',l',nv2,true,by simp[scan],hNV2.mono (Nat.le_refl _) fun aj h1 _ _=>au.ay _ _ h1,by omega,hl',?_⟩)
      ·rw[au.ay _ _ h2,hfr2 i h1 h2,hfr i h1 h2]
      ·rw[hpn2 hpi]
     | some y=>
      obtain⟨r,l2⟩:=y;rw[hpi] at hres;obtain⟨rfl,rfl,rfl⟩:=hres;have hp3:=hpn3 _ _ hpi;simp [h0, h6, hX2', guardOf];refine bg.hZ aB (jD (cls k) hX2) e54 (by decide) (by decide) rfl (by simp[h0,h6]) ?_;rintro v H3 n3 ⟨rfl,rfl,rfl⟩;cases hcl:(cls k).isPrefixOf s'
      ·rw[hcl] at hp3;simp[h0,hX2',guardOf];apply V;refine I.fin func55 (aG.zero results55) (hQ _ _ _ ⟨rfl,by omega,fun i h1 h2=>?_,s',l',nv2,true,by simp[scan],hNV2.mono (Nat.le_refl _) fun aj h1 _ _=>au.ay _ _ h1,by omega,hl',?_⟩)
       ·rw[au.ay _ _ h2,hfr2 i h1 h2,hfr i h1 h2]
       ·rw[hp3];rfl
      ·rw[hcl] at hp3;simp[h0,scan,guardOf];apply V;refine I.fin func55 (aG.zero results55) (hQ _ _ _ ⟨rfl,by omega,fun i h1 h2=>?_,s'.drop (cls k).length,l',nv2,false,by simp[scan],hNV2.mono (Nat.le_refl _) fun aj h1 _ _=>au.ay _ _ h1,by simp;omega,hl',?_⟩)
       ·rw[au.ay _ _ h2,hfr2 i h1 h2,hfr i h1 h2]
       ·rw[hp3,vy];exact⟨rfl,rfl,rfl⟩
    have hm4':(H1.set X (scan s3 nv false)) (n,4)=some ⟨3,[[int k,str nm,int parent]]⟩:=by rw[au.ay _ _ h4X];exact hm4
    have hxc:x.cells=[int k,str nm,int parent]:=by rw[hx];rfl
    rcases id hNV with ⟨rfl,rfl⟩ | ⟨aj,rfl,hY,hYX,hmY,hYn⟩
    ·have hXn1:¬ X=(n+1,64):=by rintro rfl;simp at hXn;omega
     have hXn2:¬ (n+1,64)=X:=fun h=>hXn1 h.symm
     simp [h0, h4, hm4, h4X, hXn1, scan];refine mid2 _ _ _ (.arr (n+1,64) 1 0 1) (by simp[h0]) (by simp[h6]) (by simp[h9]) (by simp[scan]) (.inr ⟨(n+1,64),by simp,by simp[hXn2,hxc],hXn2,by simp;omega,by simp⟩) (by omega) fun i h1 h2=>?_
     rw[au.ay _ _ h2,au.ay _ _ (by rintro rfl;simp at h1;omega),au.ay _ _ h2,hfr i h1 h2]
    ·have hY':(H1.set X (scan s3 (.arr aj l.length 0 l.length) false)) aj=some ⟨3,l.map J.cells⟩:=by rw[au.ay _ _ hYX];exact hY
     have hXY:¬ X=aj:=fun h=>hYX h.symm
     simp [h0, h4, hm4, h4X, hY, hYX, hXY, scan, live, show l.length <= 1073741823 by omega];refine mid2 _ _ _ (.arr aj (l.length+1) 0 (l.length+1)) (by simp[h0]) (by simp[h6]) (by simp[h9]) (by simp[scan]) (.inr ⟨aj,by simp,by simp[hYX,hxc],hYX,hmY,by omega⟩) (by omega) fun i h1 h2=>?_
     rw[au.ay _ _ h2,au.ay _ _ (by rintro rfl;omega),au.ay _ _ h2,hfr i h1 h2]
  cases hop:(opn k).isPrefixOf s2
  ·simp[h0,hmX',guardOf];exact fin _ s2 true (by simp[h0]) (by simp[h4]) (by simp[h6]) (by simp[h9]) (by omega) (by simp[hop]) (by simp)
  ·by_cases h8:l.length=8
   ·simp[h0,h9,h8,scan,guardOf];exact fin _ (s2.drop (opn k).length) true (by simp[h0]) (by simp[h4]) (by simp[h6]) (by simp[h9]) (by simp) (by simp[h8]) (by simp)
   ·have h8':((l.length:Int) == 8)=false:=by simp;omega
    simp[h0,h9,h8',scan,guardOf];exact fin _ (s2.drop (opn k).length) false (by simp[h0]) (by simp[h4]) (by simp[h6]) (by simp[h9]) (by simp) (by simp[hop,h8]) (by simp)
 rcases id hNV with ⟨rfl,hl0⟩ | ⟨aj,rfl,hY,hYX,hmY,hYn⟩
 ·unfold scan at hmX;simp [h0, hmX];exact mid _ (by simp[h0]) (by simp[h4]) (by simp[h5]) (by simp[h6]) (by simp[hl0])
 ·unfold scan at hmX;simp [h0, hmX, hY, live];exact mid _ (by simp[h0]) (by simp[h4]) (by simp[h5]) (by simp[h6]) (by simp)
end Go.Ab
namespace Go.Ab
open Go.Proofs
theorem vu {X:Id} {m:Nat}:∀ (G:Nat) (H:au) (n:Nat) (s:aH) (l:aw) (nv:ao) (parent:Int),s.length<=4294967296->l.length<=8->H X=some (scan s nv false)->NV X m n H nv l->m<=n->X.1<n->3 * (8 - l.length)+2<=G ->
  aS prog 36 [.ptr X 1 0 0,int parent] H n (fun r H1 U=>r = .tup []/\nq X m s H n (ij false G parent s l) H1 U):=by
 intro G
 induction G using Nat.strongRecOn with
 | _ G IHG=>
 intro H n s l nv parent hs hl hX hNV hmn hXn hG;have node:∀ (g:Nat) (H:au) (n:Nat) (s:aH) (l:aw) (nv:ao),g+1<=G->s.length<=4294967296->l.length<=8->H X=some (scan s nv false)->NV X m n H nv l->m<=n->X.1<n->3 * (8 - l.length)<=g ->
   aS prog 55 [.ptr X 1 0 0,int parent] H n (fun r H1 U=>r = .tup []/\nq X m s H n (bM false (g+1) parent s l) H1 U):=fun g H n s l nv hgG hs hl hX hNV hmn hXn hg=>
  nodeI g parent hs hl hX hNV hmn hXn (fun H n s l nv parent h1 h2 _ h4 h5 h6 h7 h8=>IHG g (by omega) H n s l nv parent h1 h2 h4 h5 h6 h7 h8) hg
 have hX':=hX;unfold scan at hX';refine aS.of func36 rfl ntmps36 (by simp) fun Q hQ=>?_
 refine zS fun k' V=>?_
 simp;refine bg.hZ aB (jD [48] hX) e54 (by decide) (by decide) rfl (by simp) ?_;rintro v H2 n2 ⟨rfl,rfl,rfl⟩;simp;apply V;obtain⟨G',rfl⟩:∃ G',G=G'+2:=⟨G - 2,by omega⟩
 refine I.ite rfl (fun hc1 => ?_) (fun hc1 => ?_)
 ·have hp:List.isPrefixOf [48] s=true:=by simpa using hc1
  have hp':[48] <+: s:=List.isPrefixOf_iff_prefix.1 hp;rw[if_pos hp'];refine I.ret func36 (aG.zero results36) (hQ _ _ _ ⟨rfl,by omega,fun i h1 h2=>au.ay _ _ h2,_,l,nv,false,by simp;rfl,hNV.mono (Nat.le_refl _) fun aj h1 _ _=>au.ay _ _ h1,by simp,hl,?_⟩);rw[ij,if_pos hp];exact⟨rfl,by simp,rfl⟩
 ·have hp:List.isPrefixOf [48] s=false:=by simpa using hc1
  have hp':¬ [48] <+: s:=fun h=>by rw[List.isPrefixOf_iff_prefix.2 h] at hp;cases hp
  rw[if_neg hp'];apply I.skip;refine zE fun k' V=>?_
  simp;refine bg.hZ aB (node G' H n2 s l nv (by omega) hs hl hX hNV hmn hXn (by omega)) e55 (by decide) (by decide) rfl (by simp) ?_;rintro v H1 U ⟨rfl,hn1,hfr1,s1,l1,nv1,bad1,hX1,hNV1,hs1,hl1,hres1⟩;simp;apply V;refine I.block (I.mR (fun q O H' n'=>O 0 = .ptr X 1 0 0/\O 1=int parent/\n2<=n'/\q<=G'+1/\(∀ i:Id,i.1<m->i ≠ X->H' i=H i) /\
   ∃ (s1:aH) (l1:aw) (nv1:ao) (bad1:Bool),H' X=some (scan s1 nv1 bad1)/\NV X m n' H' nv1 l1/\s1.length<=s.length/\l1.length<=8/\(bad1=false->3 * (8 - l1.length)+3<=q) /\
    (ij false (G'+2) parent s l)=(if bad1 then none else c4 false q parent s1 l1)) (G'+1) ?_ ?_)
  ·refine⟨by simp,by simp,hn1,Nat.le_refl _,hfr1,s1,l1,nv1,bad1,hX1,hNV1,hs1,hl1,fun h=>?_,?_⟩
   ·cases hpn:bM false (G'+1) parent s l with
    | none=>rw[hpn] at hres1;simp only at hres1;rw[h] at hres1;cases hres1
    | some y=>
     rw[hpn] at hres1;obtain⟨_,rfl,rfl⟩:=hres1;have:=((cQ false _ _ _ _ _ _ hl).1 hpn).2.1;omega
   ·rw[ij,if_neg (by simpa using hp')];cases hpn:bM false (G'+1) parent s l with
    | none=>rw[hpn] at hres1;simp only at hres1;rw[hres1];rfl
    | some y=>
     rw[hpn] at hres1;obtain⟨rfl,rfl,rfl⟩:=hres1
     rfl
  ·clear hX1 hNV1 hs1 hl1 hres1 hfr1 V hn1;rintro q O H' n' ⟨h0,h1,hn',hq,hfr,s1,l1,nv1,bad1,hX1,hNV1,hs1,hl1,hgas,htot⟩ IH;have hX1':=hX1;unfold scan at hX1';refine zS fun k' V=>?_
   have stop:∀ (O:Env),O 17=bool false->bad1=true\/List.isPrefixOf [124] s1=false->I prog 36 21 k' O H' n' Q:=by
    intro O h17 hb;apply V;refine I.ite h17 (fun h=>by simp at h) (fun _=>?_);refine I.exit rfl ?_;refine I.fin func36 (aG.zero results36) (hQ _ _ _ ⟨rfl,hn',hfr,s1,l1,nv1,bad1,hX1,hNV1,hs1,hl1,?_⟩);rw[htot];cases bad1
    ·have hg:=hgas rfl;obtain⟨g,rfl⟩:∃ g,q=g+1:=⟨q - 1,by omega⟩
     have hb':List.isPrefixOf [124] s1=false:=by simpa using hb
     rw[if_neg (by simp),c4,if_neg (by simp[hb'])];exact⟨rfl,rfl,rfl⟩
    ·rfl
   cases bad1
   ·simp [h0, hX1', guardOf];refine bg.hZ aB (jD [124] hX1) e54 (by decide) (by decide) rfl (by simp[h0]) ?_;rintro v H3 n3 ⟨rfl,rfl,rfl⟩;cases hp2:List.isPrefixOf [124] s1
    ·simp;exact stop _ (by simp[hp2]) (.inr hp2)
    ·simp;apply V;refine I.ite rfl (fun _=>?_) (fun h=>by simp[hp2] at h);apply I.skip;apply I.block;refine zF fun k' V=>?_
     simp [h0, h1];have hg:=hgas rfl;obtain⟨q',rfl⟩:∃ q',q=q'+2:=⟨q - 2,by omega⟩
     refine bg.hZ aB (node q' (H'.set X (scan s1.tail nv1 false)) n3 s1.tail l1 nv1 (by omega) (by simp;omega) hl1 (by simp) (hNV1.mono (Nat.le_refl _) fun aj h1 _ _=>au.ay _ _ h1) (by omega) (by omega) (by omega)) e55 (by decide) (by decide) rfl (by simp[h0,h1]) ?_;rintro v H4 n4 ⟨rfl,hn4,hfr4,s2,l2,nv2,bad2,hX2,hNV2,hs2,hl2,hres2⟩;simp;apply V;apply I.inBlock;refine IH (q'+1) _ _ _ (by omega) ⟨by simp[h0],by simp[h1],by omega,by omega,fun i h1 h2=>?_,s2,l2,nv2,bad2,hX2,hNV2,by simp at hs2;omega,hl2,fun h=>?_,?_⟩
     ·rw[hfr4 i h1 h2,au.ay _ _ h2,hfr i h1 h2]
     ·cases hpn:bM false (q'+1) parent s1.tail l1 with
      | none=>rw[hpn] at hres2;simp only at hres2;rw[h] at hres2;cases hres2
      | some y=>
       rw[hpn] at hres2;obtain⟨_,rfl,rfl⟩:=hres2;have:=((cQ false _ _ _ _ _ _ hl1).1 hpn).2.1;omega
     ·rw[htot,if_neg (by simp),c4,if_pos hp2,List.drop_one];cases hpn:bM false (q'+1) parent s1.tail l1 with
      | none=>rw[hpn] at hres2;simp only at hres2;rw[hres2];rfl
      | some y=>
       rw[hpn] at hres2;obtain⟨rfl,rfl,rfl⟩:=hres2
       rfl
   ·simp [h0, hX1', guardOf];exact stop _ (by simp) (.inl rfl)
end Go.Ab
namespace Go.Ab
open Go.Proofs
theorem e19:aV prog 19:=aV.of func19 (by kernel_rfl) rfl
theorem iK (chk:Bool) (B:Nat):∀ g parent s l s2 l2,l.length<=8->s.length<=B->(∀ x ∈ l,x.name.length<=B) ->
  (bM chk g parent s l=some (s2,l2)->∀ x ∈ l2,x.name.length<=B)/\(ij chk g parent s l=some (s2,l2)->∀ x ∈ l2,x.name.length<=B)/\(c4 chk g parent s l=some (s2,l2)->∀ x ∈ l2,x.name.length<=B)
 | 0,parent,s,l,s2,l2,_,_,_=>by simp[bM,ij,c4]
 | g+1,parent,s,l,s2,l2,hl,hs,hn=>by
  refine⟨fun h=>?_,fun h=>?_,fun h=>?_⟩
  ·rw[bM] at h
   split at h
   ·cases h
   ·rename_i hc
    simp only[Bool.or_eq_true,not_or,Bool.and_eq_true,not_and,beq_iff_eq,Bool.not_eq_true',Bool.not_eq_true] at hc
    split at h
    ·cases h
    ·rename_i r l3 hr
     split at h
     ·cases h;have h8:=hc.2;have h4:=jb s;have h5:((kindOf s).2.dropWhile lower).length<=(kindOf s).2.length:=(List.dropWhile_suffix _).length_le;have h6:((kindOf s).2.takeWhile lower).length<=(kindOf s).2.length:=(List.takeWhile_prefix _).length_le;refine (iK chk B g _ _ _ _ _ (by simp;omega) (by simp;omega) (fun x hx=>?_)).2.1 hr;rcases List.mem_append.1 hx with hx | hx
      ·exact hn x hx
      ·simp at hx;subst hx;simp;omega
     ·cases h
  ·rw[ij] at h
   split at h
   ·cases h;exact hn
   ·split at h
    ·cases h
    ·rename_i r l3 hr
     have ha:=(cQ chk g _ _ _ _ _ hl).1 hr;exact (iK chk B g _ _ _ _ _ ha.1.choose_spec.2.1 (by omega) ((iK chk B g _ _ _ _ _ hl hs hn).1 hr)).2.2 h
  ·rw[c4] at h
   split at h
   ·split at h
    ·cases h
    ·rename_i r l3 hr
     have ha:=(cQ chk g _ _ _ _ _ hl).1 hr;have hd:(s.drop 1).length<=s.length:=by simp
     exact (iK chk B g _ _ _ _ _ ha.1.choose_spec.2.1 (by omega) ((iK chk B g _ _ _ _ _ hl (by omega) hn).1 hr)).2.2 h
   ·cases h;exact hn
theorem NV.aL {X:Id} {m n:Nat} {H:au} {nv:ao} {l:aw} (h:NV X m n H nv l):Ab.aL nv=true:=by
 rcases h with ⟨rfl,_⟩ | ⟨aj,rfl,_⟩<;>rfl
theorem NV.own {X:Id} {m n:Nat} {H:au} {nv:ao} {l:aw} (h:NV X m n H nv l):∃ S,dv H 1 nv (.list true (l.map J.cells)) S/\(∀ i ∈ S,i ≠ X/\m<=i.1/\i.1<n):=by
 rcases h with ⟨rfl,rfl⟩ | ⟨aj,rfl,hY,h1,h2,h3⟩
 ·exact⟨[],dv.nilS,by simp⟩
 ·exact⟨[aj],dv.pe hY (by simp) (by simp[J.cells]),by simpa using ⟨h1,h2,h3⟩⟩
end Go.Ab
namespace Go.Ab
open Go.Proofs
theorem Sep.proc {H:au} {n:Nat} {nv:ao} {l:aw} {b:Bool} (h:(nv = .v (.slice none 0 0)/\l=[])\/∃ aj:Id,nv = .arr aj l.length 0 l.length/\H aj=some ⟨3,l.map J.cells⟩/\aj.1<n) :
  Sep H n [(.t [.a [.s [.c,.c,.c]],.c],.tup [.agg [nv],bool b],.tup [bq true l,bool b])] []:=by
 have key:∀ S:List Id,Tr H (.s [.c,.c,.c]) nv (.list true (l.map J.cells)) S->(∀ i ∈ S,i.1<n)->Sep H n [(.t [.a [.s [.c,.c,.c]],.c],.tup [.agg [nv],bool b],.tup [bq true l,bool b])] []:=fun S h1 h2=>by
  refine⟨by simp,S,?_,fun i hi=>⟨h2 i hi,by simp⟩⟩;simp only[List.map_cons,List.map_nil,Row];refine⟨S,[],?_,rfl,by simp,by simp⟩;rw[Tr];refine⟨_,_,rfl,rfl,?_⟩;simp only[Row];refine⟨S,[],?_,⟨[],[],by rw[Tr];exact⟨rfl,ba.flat rfl,rfl⟩,rfl,rfl,by simp⟩,by simp,by simp⟩;rw[Tr];refine⟨_,_,rfl,rfl,?_⟩;simp only[Row];exact⟨S,[],h1,rfl,by simp,by simp⟩
 rcases h with ⟨rfl,rfl⟩ | ⟨aj,rfl,hY,hn⟩
 ·exact key [] (by rw[Tr];exact .inl ⟨rfl,rfl,rfl⟩) (by simp)
 ·refine key [aj] ?_ (by simpa using hn);rw[Tr];refine .inr ⟨aj,l.map J.cells,l.map J.cells,[],by simp,rfl,hY,aW.uQ (by simp[J.cells]) (by simp),by simp,rfl⟩
theorem j0 (s:aH) (hs:s.length<=4294967296):bE prog 19 [str s] (.t [.a [.s [.c,.c,.c]],.c]) (fun r=>r = .tup [bq true (parse s).1,bool (parse s).2]):=by
 refine bE.of func19 rfl ntmps19 (by simp) fun Q hQ=>?_
 refine zE fun k' V=>?_
 simp;apply V;refine zE fun k' V=>?_
 simp;apply V;refine zE fun k' V=>?_
 simp;refine bg.hZ aB (vu (X:=(1,7)) (m:=1) 40 _ 2 s [] (.v (.slice none 0 0)) (-1) hs (by simp) (by simp[scan]) (.inl ⟨rfl,rfl⟩) (by omega) (by simp) (by simp)) e36 (by decide) (by decide) rfl (by simp) ?_;rintro v H1 U ⟨rfl,hn1,hfr,s',l,nv,bad,hX,hNV,hs',hl,hres⟩;simp;apply V;have hm2:=hfr (0,2) (by simp) (by simp);simp at hm2;obtain⟨S,hO,hS⟩:=hNV.own;have hO2:dv H1 2 (.agg [nv]) (bq true l) S:=dv.agg1 hO;have hone:=hNV.aL;unfold scan at hX;refine I.cut (fun O H n=>O 0=str s/\O 2 = .ptr (0,2) 1 0 0/\O 4 = .ptr (1,7) 1 0 0/\H=H1/\U<=n) ⟨by simp,by simp,by simp,rfl,by omega⟩ ?_;clear V;rintro O H n ⟨h0,h2,h4,rfl,hnn⟩;refine zS fun k' V=>?_
 have fin:∀ (O:Env) (ok:Bool),O 2 = .ptr (0,2) 1 0 0->O 4 = .ptr (1,7) 1 0 0->O 37=bool (!ok)->parse s=(if ok then (l,true) else ([],false))->I prog 19 43 k' O H n Q:=by
  intro O ok h2 h4 h37 hp;apply V;refine I.ite h37 (fun hc1 => ?_) (fun hc1 => ?_)
  ·have hok:ok=false:=by simpa using hc1
   subst hok;refine zE fun k' V=>?_
   simp [h2, hm2];apply V;exact I.ret func19 (aG.rb (v1:=.agg [.v (.slice none 0 0)]) (v2:=bool false) aB results19 (by simp[du,h2,cR]) (by simp[du])) (hQ _ _ _ (.tup [bq true [],bool false]) (Sep.proc (.inl ⟨rfl,rfl⟩)) (by rw[hp];rfl))
  ·have hok:ok=true:=by simpa using hc1
   subst hok;apply I.skip;refine zE fun k' V=>?_
   simp [h2, h4, hm2, hX, hone, -Ab.aL];apply V;refine I.ret func19 (aG.rb (v1:=.agg [nv]) (v2:=bool true) aB results19 (by simp[du,h2,cR]) (by simp[du])) (hQ _ _ _ (.tup [bq true l,bool true]) (Sep.proc ?_) (by rw[hp];rfl));rcases hNV with h | ⟨aj,e1,e2,e3,e4,e5⟩
   ·exact .inl h
   ·refine .inr ⟨aj,e1,?_,Nat.lt_of_lt_of_le e5 hnn⟩;rw[au.ay _ _ (by rintro rfl;simp at e4)];exact e2
 have hpd:parse s=match ij false 40 (-1) s [] with | none=>([],false) | some (r,l)=>if r=[]/\dm l=true/\bb l (l.length+1) (-1)=s then (l,true) else ([],false):=rfl
 cases hpi:ij false 40 (-1) s [] with
 | none=>
  rw[hpi] at hres hpd;subst hres;simp[h4,hX,guardOf];exact fin _ false (by simp[h2]) (by simp[h4]) (by simp) hpd
 | some y=>
  obtain⟨r,l2⟩:=y;rw[hpi] at hres hpd;obtain⟨rfl,rfl,rfl⟩:=hres;simp only at hpd;have hnames:=(iK false 4294967296 40 (-1) s [] _ _ (by simp) hs (by simp)).2.1 hpi
  by_cases hs0:s'=[]
  ·subst hs0;simp [h0, h4, hX, guardOf];refine zA (jC l (by omega) (fun i hi=>?_)) e17 (.cons (az.own' hO2 (jE _ _)) .nil) (by simp) ?_
   ·have hg:l.getD i default=l[i]:=by simp[hi]
    rw[hg];exact hnames _ (List.getElem_mem hi)
   rintro _ rfl;cases hg:dm l
   ·simp[guardOf];exact fin _ false (by simp[h2]) (by simp[h4]) (by simp) (by rw[hpd,if_neg (by simp[hg])];rfl)
   ·have hv:=ca hg;simp[h0,h4,hX,guardOf];refine zA (j9 hv (l.length+1) (-1) (by omega) (by omega) (by omega) (by omega)) e34 (.cons (az.own' hO2 (jE _ _)) (.cons (.v _ _ _) .nil)) (by simp) ?_;rintro _ rfl;simp[h0,guardOf]
    by_cases ht:bb l (l.length+1) (-1)=s
    ·exact fin _ true (by simp[h2]) (by simp[h4]) (by simp[ht]) (by rw[hpd,if_pos ⟨rfl,hg,ht⟩];rfl)
    ·exact fin _ false (by simp[h2]) (by simp[h4]) (by simp[ht]) (by rw[hpd,if_neg (by simp[ht])];rfl)
  ·have hs0':(s' == [])=false:=by simpa using hs0
   simp [h4, hX, hs0', hs0, guardOf];exact fin _ false (by simp[h2]) (by simp[h4]) (by simp) (by rw[hpd,if_neg (by simp[hs0])];rfl)
end Go.Ab
namespace Go.Ab.Vg
open Go.Proofs
set_option maxRecDepth 100000
attribute [local simp] bW bO pA
theorem mJ (s:aH) (h:s.length<=4294967296):bE prog 19 [str s] (.t [.a [.s [.c,.c,.c]],.c]) (fun r=>r = .tup [.agg [.list true ((parse s).1.map J.cells)],bool (parse s).2]):=j0 s h
theorem jZ (s:aH) (h:s.length<=4294967296):aA prog 40 [str s] (fun r=>r = .tup [.agg [.list true ((parse s).1.map J.cells)],bool (parse s).2]):=iP s h
theorem e48:aV prog 48:=aV.of func48 (by kernel_rfl) rfl
end Go.Ab.Vg
namespace Go.Ab.Vg
open Go.Proofs
set_option maxRecDepth 100000
attribute [local simp] bW bO pA
theorem nO (p:aw) (parent:Int) (Z:aH->Prop) (ih:∀ pr parentr,dp pr parentr->eJ pr parentr<eJ p parent->aA prog 69 [.agg [.list false (pr.map J.cells)],int parentr] (fun r=>r=str (cW pr parentr))) (h:gk p parent Z):aA prog 69 [.agg [.list false (p.map J.cells)],int parent] (fun r=>∃ y:aH,Z y/\r=str y):=by
 unfold gk at h;have M:Sep bc 0 [] []:=Sep.nil (by simp);refine aA.of func69 rfl ntmps69 (by simp) fun Q hQ=>?_
 refine I.cut (fun O H n=>(O 0 = .agg [.list false (p.map J.cells)]/\O 1=int parent)/\Sep H n [] []) (by refine⟨by simp[J.cells],M⟩) ?_;rintro O H U ⟨E,M⟩;refine zE fun _ V=>?_
 simp[E,J.cells];apply V;refine I.cut (fun O H n=>((O 1=int parent/\O 2=pA U 2)/\H (U,2)=some ⟨1,[[.list false (p.map J.cells)]]⟩)/\Sep H n [] [(U,2)]) (by refine⟨by simp[E,J.cells],M.var⟩) ?_;clear E;rintro O H n3 ⟨⟨E,a⟩,M⟩;refine zE fun _ V=>?_
 simp[E,a,J.cells];apply V;refine I.cut (fun O H n=>∃ (v5:ao),((O 1=int parent/\O 2=pA U 2/\O 5=v5)/\H (U,2)=some ⟨1,[[.list false (p.map J.cells)]]⟩)/\Sep H n [oS v5 ([]:List aH)] [(U,2)]) (by refine⟨.arr (n3,8) 0 0 0,by simp[E,a,J.cells],(Sep.addEmpty (l:=[.c]) M)⟩) ?_;clear E a;rintro O H n6 ⟨v5,⟨E,a⟩,M⟩;refine zS fun _ V=>?_
 obtain⟨hb7,h⟩:=h;obtain⟨r8,er8,h⟩:=aF h;simp[E,a,J.cells];refine zW (jO p parent hb7) e47 (.cons (az.agg (.cons (az.bt (fr:=false) (els:=p.map J.cells) (by simp[J.cells])) .nil)) (.cons (.v _ _ _) .nil)) M (by simp[E,a,J.cells]) ?_;rintro v9 co cs _ M rfl c0 ad;rw[<- er8] at M;have a:=(ad _ (by simp)).trans a;obtain⟨o,af,h⟩:=aF h;have f17:=di (Sep.len (m:=o) M dG (by rw[af,List.length_map]));simp[E,a,f17,J.cells,-bL];apply V;refine I.cut (fun O H n=>∃ (t u:ao),((O 2=pA U 2/\O 5=u/\O 11=t/\O 12=int o/\O 13=int 0)/\H (U,2)=some ⟨1,[[.list false (p.map J.cells)]]⟩)/\Sep H n [oI t r8,oS u ([]:List aH)] [(U,2)]) (by refine⟨v9,v5,by simp[E,a,f17,J.cells,-bL],M⟩) ?_;clear E a;rintro O H n20 ⟨t,u,⟨E,a⟩,M⟩;apply I.block;refine I.aI h (fun (sJ:Int × (List aH)) O H n=>match sJ with | (v30,F)=>∃ (A i:ao),((O 2=pA U 2/\O 5=i/\O 11=A/\O 12=int o/\O 13=int v30)/\H (U,2)=some ⟨1,[[.list false (p.map J.cells)]]⟩)/\Sep H n [oI A r8,oS i F] [(U,2)]) (by refine⟨t,u,by simp[E,a,J.cells],M⟩) ?_;clear E a;rintro⟨v30,F⟩ O H n34 K h ⟨A,i,⟨E,a⟩,M⟩ am;refine zE fun _ V=>?_
 obtain⟨aP,a0,h⟩:=aF h;have f38:=bF (k:=.i64) a0;simp[E,a,f38,J.cells,-ax];apply V;apply I.seq;refine I.ite (b:=aP) (by simp[E,a,J.cells]) (fun d=>?_) (fun d=>?_)
 ·replace h:=h.1 d;apply zK;apply I.block;refine zE fun _ V=>?_
  obtain⟨G,h⟩:=h;obtain⟨B,hv,j,c1,e⟩:=Sep.cp M (by simp) G;subst hv;simp at e;obtain⟨a1,a2,h⟩:=aF h;have f45:=fun H (hm:H B=some ⟨1,r8.map bW⟩)=>bJ (H:=H) (k:=.i64) (off:=0) (len:=r8.length) (g:=r8.length) dG hm (by simp) rfl G
  have f46:=bm (q:=v30.toNat) G a2 rfl;simp[E,a,j,e,f45,f46,d,J.cells,-ar];apply V;refine I.lx aB aD cf (by decide) (by kernel_rfl) fun _ V=>?_
  obtain⟨a3,h⟩:=h;obtain⟨a4,a5,h⟩:=aF h;have f49:=fun H=>bl (H:=H) (fr:=false) (f:=J.cells) (k:=.i64) bx (fun _=>rfl) a3 a5
  obtain⟨T,h⟩:=h;obtain⟨a9,bd,h⟩:=aF h;simp[E,a,j,e,f49,d,J.cells,-ar];refine bw.c8 aB aD (ih p a1 T.1 T.2) e69 (.cons (az.agg (.cons (az.bt (fr:=false) (els:=p.map J.cells) (by simp[J.cells])) .nil)) (.cons (.v _ _ _) .nil)) (by decide) rfl (by simp[E,a,j,e,f49,d,J.cells,-ar]) ?_;rw[<- bd];obtain⟨L,h⟩:=h;obtain⟨W,be,h⟩:=aF h;simp[E,a,j,e,f49,d,J.cells,-ar];refine bw.c8 aB aD (kt a4 a9 L.1 L.2.1 L.2.2) e49 (.cons (az.agg (.cons (.v _ _ _) (.cons (.v _ _ _) (.cons (.v _ _ _) .nil)))) (.cons (.v _ _ _) .nil)) (by decide) rfl (by simp[E,a,j,e,f49,d,J.cells,-ar]) ?_;rw[<- be];obtain⟨bi,h⟩:=h;obtain⟨N,bk,h⟩:=aF h;simp[E,a,j,e,f49,d,J.cells,-ar,-aR];refine nL [] [oI (.arr B r8.length 0 r8.length) r8] [[str W]] [bO W] M.f1 ct (by simp) (by simp) (by simp[J.cells]) (by simp[-aL,cX]) (cB (aX.v _ aX.nil)) (by simp) (by simpa using bi) ?_;rintro X bs bv M b0 c2;replace M:Sep bs bv [oS X N,oI (.arr B r8.length 0 r8.length) r8] [(U,2)]:=Sep.ap bk M;have a:=(b0 _ (by simp)).trans a;simp[E,a,e,f49,d,J.cells,-ar];apply V;refine I.cut (fun O H n=>∃ (C D:ao),((O 2=pA U 2/\O 5=C/\O 11=D/\O 12=int o/\O 13=int v30)/\H (U,2)=some ⟨1,[[.list false (p.map J.cells)]]⟩)/\Sep H n [oS C N,oI D r8] [(U,2)]) (by refine⟨X,.arr B r8.length 0 r8.length,by simp[E,a,e,f49,d,J.cells,-ar],M⟩) ?_;clear E a e;rintro O H c3 ⟨C,D,⟨E,a⟩,M⟩;refine zI fun _ V=>?_
  obtain⟨b1,h⟩:=h;obtain⟨b2,b3,h⟩:=aF h;have f67:=a8 b1 b3;simp[E,a,f67,J.cells,-ax];apply V;refine am (b2,N) _ _ _ h (by refine⟨D,C,by simp[E,a,J.cells],M.f1⟩)
 replace h:=h.2 d;refine I.exit rfl ?_;refine zE fun _ V=>?_
 obtain⟨b8,h⟩:=h;obtain⟨R,cc,h⟩:=aF h;have f70:=Sep.oc M.f1;simp[E,a,f70,d,J.cells,-aJ,-aL,fx,cX];refine bg.mQ (v:=i) aB (lL F b8) e52 M.f1 (by decide) (by decide) rfl (by simp[E,a,f70,d,J.cells,-aJ,-aL,fx,cX]) ?_;rintro _ ce ci _ ⟨rfl,rfl⟩ M c6 cj;rw[<- cc] at M;replace M:Sep ce ci [oS i R.1,oI A r8] [(U,2)]:=M;have a:=(cj _ (by simp)).trans a;simp[E,a,f70,d,J.cells,-aJ,-aL,fx,cX];apply V;refine I.cut (fun O H n=>∃ (v76:ao),O 5=v76/\Sep H n [oS v76 R.1] []) (by refine⟨i,by simp[E,a,f70,d,J.cells,-aJ,-aL,fx,cX],(Sep.sub M.f1.dr (by simp +contextual))⟩) ?_;clear E a;rintro O H da ⟨v76,E,M⟩;refine zE fun _ V=>?_
 obtain⟨Y,h⟩:=h;obtain⟨ac,cl,h⟩:=aF h;simp[E,J.cells];refine zA (js R.1 Y.1 Y.2) e50 (.cons (Sep.cH M (bZ (by simp))) .nil) (by simp[E,J.cells]) ?_;rintro _ rfl;rw[<- cl];simp[E,J.cells];apply V;exact I.b9 (v:=str ac) func69 results69 (by simp[E,J.cells]) (hQ _ _ _ _ (.of (.v _)) ⟨ac,h,rfl⟩)
theorem oz (mq:Nat):∀ (p:aw) (parent:Int),eJ p parent=mq->dp p parent->aA prog 69 [.agg [.list false (p.map J.cells)],int parent] (fun r=>r=str (cW p parent)):=by
 induction mq using Nat.strongRecOn with
 | _ mq ih=>
  rintro p parent rfl hp;exact (nO p parent _ (fun pr parentr hp' hl=>ih _ hl pr parentr rfl hp') (qi p parent hp)).mono (by rintro _ ⟨_,rfl,rfl⟩;rfl)
theorem qz (p:aw) (parent:Int) (hp:dp p parent):aA prog 69 [.agg [.list false (p.map J.cells)],int parent] (fun r=>r=str (cW p parent)):=oz _ p parent rfl hp
end Go.Ab.Vg
