/- Merged texts (14 of 18) of the proof that ends in Mhy: Nmw Mdw Muw Cow Mpw Emw Naw Sh. -/
import Derived.Test.YtehcknfedbjaaaaGreatDoorAbQmh13
set_option linter.unusedSimpArgs false
set_option linter.unusedVariables false
open Go.Proofs.Tryz
namespace Go.Ab.Vg
open Go.Proofs
set_option maxRecDepth 100000
attribute [local simp] ay.cells aD.cells aA gL aT bC pA
theorem e54:a8 prog 54:=a8.of func54 (by kernel_rfl) rfl
theorem tI (a:List ay) (k_:Int) (Z:((List ay) × Int)->Prop) (h:iP a k_ Z):ep prog 54 (fun v=>[v,int k_]) (.s [.c,.c,.s [.c]]) (.list true (a.map (ay.cells true))) (fun e' r=>∃ y:(List ay) × Int,Z y/\e' = .list true (y.1.map (ay.cells true))/\r=int y.2):=by
 unfold iP at h;refine ep.of func54 rfl ntmps54 (fun _=>by simp) fun H0 n0 v0 K0 bA M Q hQ=>?_
 have h00:=M.1;have hid:∀ i ∈ bA,H0 i=H0 i:=fun _ _=>rfl
 have hnn:n0<=n0:=Nat.le_refl _;refine J.cut (fun O H n=>(O 0=v0/\O 1=int k_)/\n0<=n/\(∀ i ∈ bA,H i=H0 i)/\Sep H n (oN v0 a::K0) (bA)) (by refine⟨?_,(by omega),hid,M⟩<;>simp ) ?_;rintro O H n2 ⟨E,hnn,hid,M⟩;have hq_n2:=hnn;refine zE fun _ V=>?_
 simp[E];apply V;refine zS fun _ V=>?_
 simp[E];apply V;apply J.block;refine J.aI h (fun (sJ:Int × Int × (List ay)) O H n=>match sJ with | (k10,i11,d)=>(O 0=v0/\O 1=int k10/\O 5=int i11)/\n0<=n/\(∀ i ∈ bA,H i=H0 i)/\Sep H n (oN v0 d::K0) (bA)) (by refine⟨?_,(by omega),hid,M⟩<;>simp[E]) ?_;clear E;rintro⟨k10,i11,d⟩ O H n13 K h ⟨E,hnn,hid,M⟩ be;have hq_n13:=hnn;refine zS fun _ V=>?_
 obtain⟨bi,bk,h⟩:=aE h;have f17:=dY (Sep.len (m:=bi) M bH (by rw[bk,List.length_map]));obtain⟨bs,bv,h⟩:=aE h;have f19:=aX (k:=.i64) bv;simp[E,f17,f19,-aw,-aZ];apply V;refine J.ite (b:=bs) (by simp[E]) (fun o=>?_) (fun o=>?_)
 ·replace h:=h.1 o;apply zK;apply J.block;refine zE fun _ V=>?_
  obtain⟨G,h⟩:=h;obtain⟨g,ac,h⟩:=aE h;obtain⟨l,dr,ds,bC,L,ad,af,b0,b1,d0,d1,d2,B,d3⟩:=Sep.Is (q:=i11.toNat) (f:=(ay.cells true)) M G ac rfl;subst L;obtain⟨b2,am,N,L⟩:=BR (by simpa using b1);subst L;replace B:Sep _ _ [(.c,b2,int g.control),(.c,am,int g.parent),(.s [.c],N,.list true (g.links.map aA))] bC:=B;obtain rfl:=Sep.IG (K1:=[]) (K2:=[(.c,am,int g.parent),(.s [.c],N,.list true (g.links.map aA))]) B;obtain rfl:=Sep.IG (K1:=[(.c,int g.control,int g.control)]) (K2:=[(.s [.c],N,.list true (g.links.map aA))]) B;have f39:=ct (k:=.i64) (off:=0) (len:=d.length) bH ad af rfl G;obtain⟨ao,b3,h⟩:=aE h;simp[E,ad,af,b0,f39,o,-av,-ca];refine wa (i:=qT) (q:=i11.toNat) (off:=0) (ix:=i11) (x:=g) (y:=(ay.mk k10 g.parent g.links)) (f:=(ay.cells true)) [] [.c,.s [.c]] [] [int g.parent,.list true (g.links.map aA)] M rfl rfl G ac rfl rfl rfl rfl rfl rfl rfl ?_;rintro ap M b5;replace M:Sep ap n13 (oN (.arr l d.length 0 d.length) ao::K0) (bA):=by rw[b3];exact M
  have hid:∀ i ∈ bA,ap i=H0 i:=fun i hi=>(b5 i (by simp[hi])).trans (hid i hi)
  simp[E,f39,o,-av];apply V;refine J.cut (fun O H n=>(O 0 = .arr l d.length 0 d.length/\O 1=int k10/\O 5=int i11)/\n0<=n/\(∀ i ∈ bA,H i=H0 i)/\Sep H n (oN (.arr l d.length 0 d.length) ao::K0) (bA)) (by refine⟨?_,(by omega),hid,M⟩<;>simp[E,f39,o,-av]) ?_;clear E;rintro O H n44 ⟨E,hnn,hid,M⟩;have hq_n44:=hnn;refine zE fun _ V=>?_
  obtain⟨b7,h⟩:=h;obtain⟨v46,b8,h⟩:=aE h;have f47:=aR b7 b8;simp[E,f47,-aw];apply V;refine zE fun _ V=>?_
  obtain⟨R,h⟩:=h;obtain⟨j,aM,h⟩:=aE h;obtain⟨d4,d5,d6,b9,p,a0,C,cc,ce,d7,d8,d9,D,eg⟩:=Sep.Is (q:=i11.toNat) (f:=(ay.cells true)) M R aM rfl;simp only[au.arr.injEq] at p;obtain⟨p,hln64,-⟩:=p;subst p;replace C:=C.trans hln64.symm;obtain⟨ci,a1,T,p⟩:=BR (by simpa using ce);subst p;replace D:Sep _ _ [(.c,ci,int j.control),(.c,a1,int j.parent),(.s [.c],T,.list true (j.links.map aA))] b9:=D;obtain rfl:=Sep.IG (K1:=[]) (K2:=[(.c,a1,int j.parent),(.s [.c],T,.list true (j.links.map aA))]) D;obtain rfl:=Sep.IG (K1:=[(.c,int j.control,int j.control)]) (K2:=[(.s [.c],T,.list true (j.links.map aA))]) D;have f68:=ct (k:=.i64) (off:=0) (len:=d.length) bH a0 C rfl (by rw[hln64];exact R);obtain⟨a2,cj,h⟩:=aE h;simp[E,a0,C,cc,f68,-av,-ca];refine wa (i:=qT) (q:=i11.toNat) (off:=1) (ix:=i11) (x:=j) (y:=(ay.mk j.control v46 j.links)) (f:=(ay.cells true)) [.c] [.s [.c]] [int j.control] [.list true (j.links.map aA)] M rfl rfl R aM rfl hln64 rfl rfl rfl rfl rfl ?_;rintro a3 M ck;replace M:Sep a3 n44 (oN (.arr l d.length 0 d.length) a2::K0) (bA):=by rw[cj];exact M
  have hid:∀ i ∈ bA,a3 i=H0 i:=fun i hi=>(ck i (by simp[hi])).trans (hid i hi)
  simp[E,f68,-av];apply V;refine J.cut (fun O H n=>(O 0 = .arr l d.length 0 d.length/\O 1=int v46/\O 5=int i11)/\n0<=n/\(∀ i ∈ bA,H i=H0 i)/\Sep H n (oN (.arr l d.length 0 d.length) a2::K0) (bA)) (by refine⟨?_,(by omega),hid,M⟩<;>simp[E,f68,-av]) ?_;clear E;rintro O H el ⟨E,hnn,hid,M⟩;have hq_n73:=hnn;refine zE fun _ V=>?_
  obtain⟨cl,h⟩:=h;obtain⟨v75,co,h⟩:=aE h;have f76:=aR cl co;simp[E,f76,-aw];apply V;refine zF fun _ V=>?_
  obtain⟨a4,h⟩:=h;obtain⟨e,cs,h⟩:=aE h;obtain⟨em,es,ev,c0,t,W,u,a5,c1,ex,c2,ey,A,c3⟩:=Sep.Is (q:=i11.toNat) (f:=(ay.cells true)) M a4 cs rfl;simp only[au.arr.injEq] at t;obtain⟨t,hln93,-⟩:=t;subst t;replace u:=u.trans hln93.symm;obtain⟨c4,a9,F,t⟩:=BR (by simpa using c1);subst t;replace A:Sep _ _ [(.c,c4,int e.control),(.c,a9,int e.parent),(.s [.c],F,.list true (e.links.map aA))] c0:=A;obtain rfl:=Sep.IG (K1:=[]) (K2:=[(.c,a9,int e.parent),(.s [.c],F,.list true (e.links.map aA))]) A;obtain rfl:=Sep.IG (K1:=[(.c,int e.control,int e.control)]) (K2:=[(.s [.c],F,.list true (e.links.map aA))]) A;have f97:=ct (k:=.i64) (off:=0) (len:=d.length) bH W u rfl (by rw[hln93];exact a4);obtain⟨c6,h⟩:=h;obtain⟨X,bd,h⟩:=aE h;simp[E,W,u,a5,f97,-av];refine bX.jK (v:=F) aB (kz e.links v75 c6) e55 (Sep.front (K1:=[(.c,int e.control,int e.control),(.c,int e.parent,int e.parent)]) (K2:=[]) A) (by decide) (by decide) rfl (by simp[E,W,u,a5,f97,-av]) ?_;rintro _ Y n101 _ ⟨rfl,rfl⟩ spx c8 hfrW102;rw[<- bd] at spx;rw[<- bd];obtain⟨ab,c9,h⟩:=aE h;replace M:=c3 Y n101 (ay.mk e.control e.parent X.1) (Sep.DD (K1:=[(.c,int e.control,int e.control),(.c,int e.parent,int e.parent)]) (K2:=[]) spx) rfl hfrW102 c8;have da:=fun i hi=>hfrW102 i (c2 i hi)
  replace M:Sep Y n101 (oN (.arr l d.length 0 d.length) ab::K0) (bA):=by rw[c9];exact M
  have hid:∀ i ∈ bA,Y i=H0 i:=fun i hi=>(da i (by simp[hi])).trans (hid i hi)
  have hnn:n0<=n101:=by omega
  have hq_n101:=hnn;simp[E,f97,-av];apply V;refine J.cut (fun O H n=>(O 0 = .arr l d.length 0 d.length/\O 1=int X.2/\O 5=int i11)/\n0<=n/\(∀ i ∈ bA,H i=H0 i)/\Sep H n (oN (.arr l d.length 0 d.length) ab::K0) (bA)) (by refine⟨?_,(by omega),hid,M⟩<;>simp[E,f97,-av]) ?_;clear E;rintro O H n107 ⟨E,hnn,hid,M⟩;have hq_n107:=hnn;refine zI fun _ V=>?_
  obtain⟨dc,h⟩:=h;obtain⟨v109,dl,h⟩:=aE h;have f110:=aR dc dl;simp[E,f110,-aw];apply V;refine be (X.2,v109,ab) _ _ _ h (by refine⟨?_,(by omega),hid,M⟩<;>simp[E])
 replace h:=h.2 o;refine J.exit rfl ?_;refine zE fun _ V=>?_
 simp[E,o];apply V;exact J.bj (v:=int k10) func54 results54 (by simp[E,o]) (hQ _ _ _ _ (Sep.sub M (by simp +contextual)) hid (by omega) ⟨(d,k10),h,rfl,rfl⟩)
theorem yq (a:List ay) (k_:Int) (hp:hU a k_):ep prog 54 (fun v=>[v,int k_]) (.s [.c,.c,.s [.c]]) (.list true (a.map (ay.cells true))) (fun e' r=>e' = .list true (((bU a k_).1).map (ay.cells true))/\r=int ((bU a k_).2)):=(tI a k_ _ (xJ a k_ hp)).mono (by rintro _ _ ⟨_,rfl,rfl,rfl⟩;exact⟨rfl,rfl⟩)
theorem e65:a8 prog 65:=a8.of func65 (by kernel_rfl) rfl
theorem qW (a:List a6) (k_:Int) (Z:Int->Prop) (h:gr a k_ Z):aF prog 65 [.list false (a.map aT),int k_] (fun r=>∃ y:Int,Z y/\r=int y):=by
 unfold gr at h;refine aF.of func65 rfl ntmps65 (by simp) fun Q hQ=>?_
 refine J.cut (fun O H n=>(O 0 = .list false (a.map aT)/\O 1=int k_)) (by simp) ?_;rintro O H U E;refine zE fun _ V=>?_
 simp[E];apply V;refine zS fun _ V=>?_
 simp[E];apply V;apply J.block;refine J.aI h (fun (sJ:Int × Int) O H n=>match sJ with | (k5,i6)=>(O 0 = .list false (a.map aT)/\O 1=int k5/\O 5=int i6)) (by simp[E]) ?_;clear E;rintro⟨k5,i6⟩ O H n7 K h E IH8;refine zS fun _ V=>?_
 obtain⟨fX,e,h⟩:=aE h;have f11:=fun H=>aN (H:=H) (fr:=false) (f:=aT) bY e
 obtain⟨g,i,h⟩:=aE h;have f13:=aX (k:=.i64) i;simp[E,f11,f13,-aw,-aZ];apply V;refine J.ite (b:=g) (by simp[E]) (fun c=>?_) (fun c=>?_)
 ·replace h:=h.1 c;apply zK;apply J.block;apply J.seq;refine J.fC aB aP bZ (by decide) (by kernel_rfl) fun _ V=>?_
  obtain⟨j,h⟩:=h;obtain⟨D,l,h⟩:=aE h;have f16:=fun H=>aO (H:=H) (fr:=false) (f:=aT) (k:=.i64) bY (fun _=>rfl) j l
  obtain⟨o,h⟩:=h;obtain⟨F,p,h⟩:=aE h;simp[E,f16,c,-av];refine bN.dA aB aP (jv k5 o) e53 (.cons (.v _ _ _) .nil) (by decide) rfl (by simp[E,f16,c,-av]) ?_;rw[<- p];obtain⟨q,t,h⟩:=aE h;have f20:=HE t;simp[E,f16,f20,c,-av,-ei];apply V;refine J.ite (b:=q) (by simp[E,c]) (fun d=>?_) (fun d=>?_)
  ·replace h:=h.1 d;refine zE fun _ V=>?_
   simp[E,c,d];apply V;exact J.bj (v:=int (-1)) func65 results65 (by simp[E,c,d]) (hQ _ _ _ _ (.of (.v _)) ⟨(-1),h,rfl⟩)
  replace h:=h.2 d;apply J.skip;refine zF fun _ V=>?_
  obtain⟨u,h⟩:=h;obtain⟨v22,A,h⟩:=aE h;have f23:=aR u A;simp[E,f23,c,d,-aw];apply V;refine zI fun _ V=>?_
  obtain⟨B,h⟩:=h;obtain⟨v25,C,h⟩:=aE h;have f26:=aR B C;simp[E,f26,c,d,-aw];apply V;refine J.cut (fun O H n=>(O 0 = .list false (a.map aT)/\O 1=int v22/\O 5=int v25)) (by simp[E,f26,c,d,-aw]) ?_;clear E;rintro O H n27 E;refine IH8 (v22,v25) _ _ _ h (by simp[E])
 replace h:=h.2 c;refine J.exit rfl ?_;refine zE fun _ V=>?_
 simp[E,c];apply V;exact J.bj (v:=int k5) func65 results65 (by simp[E,c]) (hQ _ _ _ _ (.of (.v _)) ⟨k5,h,rfl⟩)
theorem u7 (a:List a6) (k_:Int) (hp:iz a k_):aF prog 65 [.list false (a.map aT),int k_] (fun r=>r=int (dp a k_)):=(qW a k_ _ (uV a k_ hp)).mono (by rintro _ ⟨_,rfl,rfl⟩;rfl)
theorem e66:a8 prog 66:=a8.of func66 (by kernel_rfl) rfl
theorem uF (a:List aD) (k_:Int) (Z:Int->Prop) (h:jb a k_ Z):aF prog 66 [.list false (a.map aD.cells),int k_] (fun r=>∃ y:Int,Z y/\r=int y):=by
 unfold jb at h;refine aF.of func66 rfl ntmps66 (by simp) fun Q hQ=>?_
 refine J.cut (fun O H n=>(O 0 = .list false (a.map aD.cells)/\O 1=int k_)) (by simp) ?_;rintro O H U E;refine zE fun _ V=>?_
 simp[E];apply V;refine zS fun _ V=>?_
 simp[E];apply V;apply J.block;refine J.aI h (fun (sJ:Int × Int) O H n=>match sJ with | (k5,i6)=>(O 0 = .list false (a.map aD.cells)/\O 1=int k5/\O 5=int i6)) (by simp[E]) ?_;clear E;rintro⟨k5,i6⟩ O H n7 K h E IH8;refine zS fun _ V=>?_
 obtain⟨fX,g,h⟩:=aE h;have f11:=fun H=>aN (H:=H) (fr:=false) (f:=aD.cells) dt g
 obtain⟨i,j,h⟩:=aE h;have f13:=aX (k:=.i64) j;simp[E,f11,f13,-aw,-aZ];apply V;refine J.ite (b:=i) (by simp[E]) (fun c=>?_) (fun c=>?_)
 ·replace h:=h.1 c;apply zK;apply J.block;apply J.seq;refine J.fC aB aP bZ (by decide) (by kernel_rfl) fun _ V=>?_
  obtain⟨l,h⟩:=h;obtain⟨X,o,h⟩:=aE h;have f16:=fun H=>aO (H:=H) (fr:=false) (f:=aD.cells) (k:=.i64) dt (fun _=>rfl) l o
  obtain⟨p,h⟩:=h;obtain⟨Y,q,h⟩:=aE h;simp[E,f16,c,-av];refine bN.dA aB aP (jv k5 p) e53 (.cons (.v _ _ _) .nil) (by decide) rfl (by simp[E,f16,c,-av]) ?_;rw[<- q];obtain⟨t,u,h⟩:=aE h;have f20:=HE u;simp[E,f16,f20,c,-av,-ei];apply V;refine J.ite (b:=t) (by simp[E,c]) (fun e=>?_) (fun e=>?_)
  ·replace h:=h.1 e;refine zE fun _ V=>?_
   simp[E,c,e];apply V;exact J.bj (v:=int (-1)) func66 results66 (by simp[E,c,e]) (hQ _ _ _ _ (.of (.v _)) ⟨(-1),h,rfl⟩)
  replace h:=h.2 e;apply J.skip;refine zE fun _ V=>?_
  obtain⟨A,h⟩:=h;obtain⟨v22,B,h⟩:=aE h;have f23:=aR A B;simp[E,f23,c,e,-aw];apply V;refine J.cut (fun O H n=>(O 0 = .list false (a.map aD.cells)/\O 1=int v22/\O 5=int i6)) (by simp[E,f23,c,e,-aw]) ?_;clear E;rintro O H n24 E;refine zS fun _ V=>?_
  obtain⟨C,h⟩:=h;obtain⟨ab,D,h⟩:=aE h;have f27:=fun H=>aO (H:=H) (fr:=false) (f:=aD.cells) (k:=.i64) dt (fun _=>rfl) C D
  obtain⟨F,G,h⟩:=aE h;have f29:=eo (k:=.i64) G;simp[E,f27,f29,-av,-aw];apply V;refine J.ite (b:=F) (by simp[E]) (fun d=>?_) (fun d=>?_)
  ·replace h:=h.1 d;refine zE fun _ V=>?_
   simp[E,d];apply V;exact J.bj (v:=int (-1)) func66 results66 (by simp[E,d]) (hQ _ _ _ _ (.of (.v _)) ⟨(-1),h,rfl⟩)
  replace h:=h.2 d;apply J.skip;refine zF fun _ V=>?_
  obtain⟨L,h⟩:=h;obtain⟨v31,N,h⟩:=aE h;have f32:=aR L N;simp[E,f32,d,-aw];apply V;refine zI fun _ V=>?_
  obtain⟨R,h⟩:=h;obtain⟨T,W,h⟩:=aE h;have f35:=aR R W;simp[E,f35,d,-aw];apply V;refine IH8 (v31,T) _ _ _ h (by simp[E,d])
 replace h:=h.2 c;refine J.exit rfl ?_;refine zE fun _ V=>?_
 simp[E,c];apply V;exact J.bj (v:=int k5) func66 results66 (by simp[E,c]) (hQ _ _ _ _ (.of (.v _)) ⟨k5,h,rfl⟩)
theorem xj (a:List aD) (k_:Int) (hp:kY a k_):aF prog 66 [.list false (a.map aD.cells),int k_] (fun r=>r=int (fg a k_)):=(uF a k_ _ (w0 a k_ hp)).mono (by rintro _ ⟨_,rfl,rfl⟩;rfl)
theorem e64:a8 prog 64:=a8.of func64 (by kernel_rfl) rfl
theorem tz (a:List ay) (k_:Int) (Z:Int->Prop) (h:iR a k_ Z):aF prog 64 [.list false (a.map (ay.cells false)),int k_] (fun r=>∃ y:Int,Z y/\r=int y):=by
 unfold iR at h;refine aF.of func64 rfl ntmps64 (by simp) fun Q hQ=>?_
 refine J.cut (fun O H n=>(O 0 = .list false (a.map (ay.cells false))/\O 1=int k_)) (by simp) ?_;rintro O H U E;refine zE fun _ V=>?_
 simp[E];apply V;refine zS fun _ V=>?_
 simp[E];apply V;apply J.block;refine J.aI h (fun (sJ:Int × Int) O H n=>match sJ with | (k5,i6)=>(O 0 = .list false (a.map (ay.cells false))/\O 1=int k5/\O 5=int i6)) (by simp[E]) ?_;clear E;rintro⟨k5,i6⟩ O H n7 K h E IH8;refine zS fun _ V=>?_
 obtain⟨fX,p,h⟩:=aE h;have f11:=fun H=>aN (H:=H) (fr:=false) (f:=(ay.cells false)) bH p
 obtain⟨q,t,h⟩:=aE h;have f13:=aX (k:=.i64) t;simp[E,f11,f13,-aw,-aZ];apply V;refine J.ite (b:=q) (by simp[E]) (fun d=>?_) (fun d=>?_)
 ·replace h:=h.1 d;apply zK;apply J.block;refine zS fun _ V=>?_
  obtain⟨u,h⟩:=h;obtain⟨ao,i,h⟩:=aE h;have f16:=fun H=>aO (H:=H) (fr:=false) (f:=(ay.cells false)) (k:=.i64) bH (fun _=>rfl) u i
  obtain⟨A,B,h⟩:=aE h;have f18:=eo (k:=.i64) B;simp[E,f16,f18,d,-av,-aw];apply V;refine J.ite (b:=A) (by simp[E,d]) (fun e=>?_) (fun e=>?_)
  ·replace h:=h.1 e;refine zE fun _ V=>?_
   simp[E,d,e];apply V;exact J.bj (v:=int (-1)) func64 results64 (by simp[E,d,e]) (hQ _ _ _ _ (.of (.v _)) ⟨(-1),h,rfl⟩)
  replace h:=h.2 e;apply J.skip;refine zE fun _ V=>?_
  obtain⟨C,h⟩:=h;obtain⟨v20,D,h⟩:=aE h;have f21:=aR C D;simp[E,f21,d,e,-aw];apply V;refine zS fun _ V=>?_
  obtain⟨F,h⟩:=h;obtain⟨ap,G,h⟩:=aE h;have L:=i.trans G.symm;subst L;have f25:=fun H=>aO (H:=H) (fr:=false) (f:=(ay.cells false)) (k:=.i64) bH (fun _=>rfl) F i
  obtain⟨j,N,h⟩:=aE h;have f27:=eo (k:=.i64) N;simp[E,f25,f27,d,e,-av,-aw];apply V;refine J.cut (fun O H n=>(O 0 = .list false (a.map (ay.cells false))/\O 1=int v20/\O 5=int i6/\O 27=bool j)) (by simp[E,f25,f27,d,e,-av,-aw]) ?_;clear E;rintro O H n28 E;refine J.ite (b:=j) (by simp[E]) (fun c=>?_) (fun c=>?_)
  ·replace h:=h.1 c;refine zE fun _ V=>?_
   simp[E,c];apply V;exact J.bj (v:=int (-1)) func64 results64 (by simp[E,c]) (hQ _ _ _ _ (.of (.v _)) ⟨(-1),h,rfl⟩)
  replace h:=h.2 c;apply J.skip;refine zE fun _ V=>?_
  obtain⟨R,h⟩:=h;obtain⟨v30,T,h⟩:=aE h;have f31:=aR R T;simp[E,f31,c,-aw];apply V;refine zE fun _ V=>?_
  obtain⟨W,h⟩:=h;obtain⟨l,X,h⟩:=aE h;have f34:=fun H=>aO (H:=H) (fr:=false) (f:=(ay.cells false)) (k:=.i64) bH (fun _=>rfl) W X
  obtain⟨Y,h⟩:=h;obtain⟨o,ab,h⟩:=aE h;simp[E,f34,c,-av];refine zA (sa l.links v30 Y) e58 (.cons (ef false l.links) (.cons (.v _ _ _) .nil)) (by simp[E,f34,c,-av]) ?_;rintro _ rfl;rw[<- ab];simp[E,f34,c,-av];apply V;refine zE fun _ V=>?_
  obtain⟨ac,ad,h⟩:=aE h;have f38:=aX (k:=.i64) ad;simp[E,f38,c,-aw];apply V;refine J.ite (b:=ac) (by simp[E,c]) (fun g=>?_) (fun g=>?_)
  ·replace h:=h.1 g;refine zE fun _ V=>?_
   simp[E,c,g];apply V;exact J.bj (v:=int (-1)) func64 results64 (by simp[E,c,g]) (hQ _ _ _ _ (.of (.v _)) ⟨(-1),h,rfl⟩)
  replace h:=h.2 g;apply J.skip;refine zI fun _ V=>?_
  obtain⟨af,h⟩:=h;obtain⟨v40,am,h⟩:=aE h;have f41:=aR af am;simp[E,f41,c,g,-aw];apply V;refine J.cut (fun O H n=>(O 0 = .list false (a.map (ay.cells false))/\O 1=int o/\O 5=int v40)) (by simp[E,f41,c,g,-aw]) ?_;clear E;rintro O H n42 E;refine IH8 (o,v40) _ _ _ h (by simp[E])
 replace h:=h.2 d;refine J.exit rfl ?_;refine zE fun _ V=>?_
 simp[E,d];apply V;exact J.bj (v:=int k5) func64 results64 (by simp[E,d]) (hQ _ _ _ _ (.of (.v _)) ⟨k5,h,rfl⟩)
theorem xB (a:List ay) (k_:Int) (hp:kJ a k_):aF prog 64 [.list false (a.map (ay.cells false)),int k_] (fun r=>r=int (cq a k_)):=(tz a k_ _ (yc a k_ hp)).mono (by rintro _ ⟨_,rfl,rfl⟩;rfl)
theorem e15:a8 prog 15:=a8.of func15 (by kernel_rfl) rfl
theorem yo (a:aG) (k_:Int) (Z:(aG × Int)->Prop) (h:mH a k_ Z):ep prog 15 (fun v=>[v,int k_]) (.a [.c,.s [.c,.c,.s [.c]],.s [.c],.c,.s [.c],.s [.c,.c]]) (.agg (bC true a)) (fun e' r=>∃ y:aG × Int,Z y/\e' = .agg (bC true y.1)/\r=int y.2):=by
 unfold mH at h;refine ep.of func15 rfl ntmps15 (fun _=>by simp) fun H0 n0 v0 K0 bA M Q hQ=>?_
 have h00:=M.1;have hid:∀ i ∈ bA,H0 i=H0 i:=fun _ _=>rfl
 have hnn:n0<=n0:=Nat.le_refl _;replace M:=Sep.unpack M;obtain⟨L0,hv,hl0,M⟩:=M;subst hv;obtain⟨a0_,a1_,a2_,a3_,a4_,a5_,hv⟩:=dd (by simpa using hl0);subst hv;simp only[dW,List.cons_append,List.nil_append] at M;replace M:=Sep.scalar M;obtain⟨hv,M⟩:=M;subst hv;replace M:=Sep.fJ M;replace M:=Sep.fJ M;replace M:=Sep.scalar M;obtain⟨hv,M⟩:=M;subst hv;replace M:=Sep.fJ M;replace M:=Sep.fJ M;try simp only[List.append_eq,List.cons_append,List.nil_append,List.append_assoc] at M;replace M:=Sep.swap (K1:=K0) M;simp only[List.cons_append,List.nil_append] at M;refine J.cut (fun O H n=>(O 0 = .agg [int a.roots,a1_,a2_,int a.edges,a4_,a5_]/\O 1=int k_)/\n0<=n/\(∀ i ∈ bA,H i=H0 i)/\Sep H n (oN a1_ a.nodes::oI a2_ a.sites::oS a4_ a.outer::oW a5_ a.inner::K0) (bA)) (by refine⟨?_,(by omega),hid,M⟩<;>simp ) ?_;rintro O H n5 ⟨E,hnn,hid,M⟩;have hq_n5:=hnn;refine zE fun _ V=>?_
 have f6:=Sep.oc M;have f7:=Sep.oc M.f1;have f8:=Sep.oc M.f2;have f9:=Sep.oc M.f3;simp[E,f6,f7,f8,f9,-az,-aH,bq,bc];apply V;refine J.cut (fun O H n=>(O 1=int k_/\O 2=pA n5 2)/\H (n5,2)=some ⟨6,[[int a.roots,a1_,a2_,int a.edges,a4_,a5_]]⟩/\n0<=n/\(∀ i ∈ bA,H i=H0 i)/\Sep H n (oN a1_ a.nodes::oI a2_ a.sites::oS a4_ a.outer::oW a5_ a.inner::K0) ((n5,2)::bA)) (by refine⟨?_,?_,(by omega),(by intro i hi;have hlt:=h00 i (by simp[hi]);repeat (first | exact hid i hi | rw[ax.aY _ _ (by rintro rfl;simp at hlt;omega)])),M.var⟩<;>simp[E,f6,f7,f8,f9,-az,-aH,bq,bc]) ?_;clear E;rintro O H n11 ⟨E,b,hnn,hid,M⟩;have hq_n11:=hnn;refine zE fun _ V=>?_
 obtain⟨K,h⟩:=h;obtain⟨d,l,h⟩:=aE h;have f14:=Sep.oc M;simp[E,b,f14,-az,-aH,bq,bc];refine bX.jK (v:=a1_) aB (yq a.nodes k_ K) e54 M (by decide) (by decide) rfl (by simp[E,b,f14,-az,-aH,bq,bc]) ?_;rintro _ o n16 _ ⟨rfl,rfl⟩ M T p;rw[<- l] at M;rw[<- l];replace M:Sep o n16 (oN a1_ d.1::oI a2_ a.sites::oS a4_ a.outer::oW a5_ a.inner::K0) ((n5,2)::bA):=M;have hid:∀ i ∈ bA,o i=H0 i:=fun i hi=>(p i (by simp[hi])).trans (hid i hi)
 have hnn:n0<=n16:=by omega
 have hq_n16:=hnn;have b:=(p _ (by simp)).trans b;simp[E,b,f14,-az,-aH,bq,bc];apply V;refine J.cut (fun O H n=>(O 1=int d.2/\O 2=pA n5 2)/\H (n5,2)=some ⟨6,[[int a.roots,a1_,a2_,int a.edges,a4_,a5_]]⟩/\n0<=n/\(∀ i ∈ bA,H i=H0 i)/\Sep H n (oN a1_ d.1::oI a2_ a.sites::oS a4_ a.outer::oW a5_ a.inner::K0) ((n5,2)::bA)) (by refine⟨?_,?_,(by omega),hid,M⟩<;>simp[E,b,f14,-az,-aH,bq,bc]) ?_;clear E b;rintro O H n20 ⟨E,b,hnn,hid,M⟩;have hq_n20:=hnn;refine zE fun _ V=>?_
 obtain⟨L,h⟩:=h;obtain⟨e,q,h⟩:=aE h;have f23:=Sep.oc M.f1;simp[E,b,f23,-az,-aH,bq,bc];refine bX.jK (v:=a2_) aB (kz a.sites d.2 L) e55 M.f1 (by decide) (by decide) rfl (by simp[E,b,f23,-az,-aH,bq,bc]) ?_;rintro _ t n25 _ ⟨rfl,rfl⟩ M W u;rw[<- q] at M;rw[<- q];replace M:Sep t n25 (oI a2_ e.1::oN a1_ d.1::oS a4_ a.outer::oW a5_ a.inner::K0) ((n5,2)::bA):=M;have hid:∀ i ∈ bA,t i=H0 i:=fun i hi=>(u i (by simp[hi])).trans (hid i hi)
 have hnn:n0<=n25:=by omega
 have hq_n25:=hnn;have b:=(u _ (by simp)).trans b;simp[E,b,f23,-az,-aH,bq,bc];apply V;refine J.cut (fun O H n=>(O 1=int e.2/\O 2=pA n5 2)/\H (n5,2)=some ⟨6,[[int a.roots,a1_,a2_,int a.edges,a4_,a5_]]⟩/\n0<=n/\(∀ i ∈ bA,H i=H0 i)/\Sep H n (oI a2_ e.1::oN a1_ d.1::oS a4_ a.outer::oW a5_ a.inner::K0) ((n5,2)::bA)) (by refine⟨?_,?_,(by omega),hid,M⟩<;>simp[E,b,f23,-az,-aH,bq,bc]) ?_;clear E b;rintro O H n29 ⟨E,b,hnn,hid,M⟩;have hq_n29:=hnn;refine zE fun _ V=>?_
 obtain⟨N,h⟩:=h;obtain⟨g,A,h⟩:=aE h;have f32:=Sep.oc M.f2;simp[E,b,f32,-az,-aH,bq,bc];refine bX.jK (v:=a4_) aB (uO a.outer e.2 N) e56 M.f2 (by decide) (by decide) rfl (by simp[E,b,f32,-az,-aH,bq,bc]) ?_;rintro _ B n34 _ ⟨rfl,rfl⟩ M X C;rw[<- A] at M;rw[<- A];replace M:Sep B n34 (oS a4_ g.1::oI a2_ e.1::oN a1_ d.1::oW a5_ a.inner::K0) ((n5,2)::bA):=M;have hid:∀ i ∈ bA,B i=H0 i:=fun i hi=>(C i (by simp[hi])).trans (hid i hi)
 have hnn:n0<=n34:=by omega
 have hq_n34:=hnn;have b:=(C _ (by simp)).trans b;simp[E,b,f32,-az,-aH,bq,bc];apply V;refine J.cut (fun O H n=>(O 1=int g.2/\O 2=pA n5 2)/\H (n5,2)=some ⟨6,[[int a.roots,a1_,a2_,int a.edges,a4_,a5_]]⟩/\n0<=n/\(∀ i ∈ bA,H i=H0 i)/\Sep H n (oS a4_ g.1::oI a2_ e.1::oN a1_ d.1::oW a5_ a.inner::K0) ((n5,2)::bA)) (by refine⟨?_,?_,(by omega),hid,M⟩<;>simp[E,b,f32,-az,-aH,bq,bc]) ?_;clear E b;rintro O H n38 ⟨E,b,hnn,hid,M⟩;have hq_n38:=hnn;refine zE fun _ V=>?_
 obtain⟨R,h⟩:=h;obtain⟨j,D,h⟩:=aE h;have f41:=Sep.oc M.f3;simp[E,b,f41,-az,-aH,bq,bc];refine bX.jK (v:=a5_) aB (xA a.inner g.2 R) e57 M.f3 (by decide) (by decide) rfl (by simp[E,b,f41,-az,-aH,bq,bc]) ?_;rintro _ F n43 _ ⟨rfl,rfl⟩ M Y G;rw[<- D] at M;rw[<- D];replace M:Sep F n43 (oW a5_ j.1::oS a4_ g.1::oI a2_ e.1::oN a1_ d.1::K0) ((n5,2)::bA):=M;have hid:∀ i ∈ bA,F i=H0 i:=fun i hi=>(G i (by simp[hi])).trans (hid i hi)
 have hnn:n0<=n43:=by omega
 have hq_n43:=hnn;have b:=(G _ (by simp)).trans b;simp[E,b,f41,-az,-aH,bq,bc];apply V;refine J.cut (fun O H n=>O 1=int j.2/\n0<=n/\(∀ i ∈ bA,H i=H0 i)/\Sep H n (oW a5_ j.1::oS a4_ g.1::oI a2_ e.1::oN a1_ d.1::K0) (bA)) (by refine⟨?_,(by omega),hid,(Sep.sub M (by simp +contextual))⟩<;>simp[E,b,f41,-az,-aH,bq,bc]) ?_;clear E b;rintro O H n47 ⟨E,hnn,hid,M⟩;have hq_n47:=hnn;refine zE fun _ V=>?_
 simp[E];apply V;exact J.bj (v:=int j.2) func15 results15 (by simp[E]) (hQ _ _ _ _ (Sep.sub (Sep.pack (aK.v _ (aK.own (aK.own (aK.v _ (aK.own (aK.own aK.nil)))))) M.f1.f2.f3) (by simp +contextual)) hid (by omega) ⟨((aG.mk a.roots d.1 e.1 a.edges g.1 j.1),j.2),h,rfl,rfl⟩)
theorem pX (a:aG) (k_:Int) (hp:eW a k_):ep prog 15 (fun v=>[v,int k_]) (.a [.c,.s [.c,.c,.s [.c]],.s [.c],.c,.s [.c],.s [.c,.c]]) (.agg (bC true a)) (fun e' r=>e' = .agg [int (((bR a k_).1).roots),.list true ((((bR a k_).1).nodes).map (ay.cells true)),.list true ((((bR a k_).1).sites).map aA),int (((bR a k_).1).edges),.list true ((((bR a k_).1).outer).map aT),.list true ((((bR a k_).1).inner).map aD.cells)]/\r=int ((bR a k_).2)):=(yo a k_ _ (Cn a k_ hp)).mono (by rintro _ _ ⟨_,rfl,rfl,rfl⟩;exact⟨rfl,rfl⟩)
theorem e24:a8 prog 24:=a8.of func24 (by kernel_rfl) rfl
theorem w6 (a:aG) (k_:Int) (Z:Int->Prop) (h:my a k_ Z):aF prog 24 [.agg (bC false a),int k_] (fun r=>∃ y:Int,Z y/\r=int y):=by
 unfold my at h;refine aF.of func24 rfl ntmps24 (by simp) fun Q hQ=>?_
 refine J.cut (fun O H n=>(O 0 = .agg (bC false a)/\O 1=int k_)) (by simp) ?_;rintro O H U E;refine zE fun _ V=>?_
 simp[E];apply V;refine J.cut (fun O H n=>(O 1=int k_/\O 2=pA U 2)/\H (U,2)=some ⟨6,[bC false a]⟩) (by refine⟨?_,?_⟩<;>simp[E]) ?_;clear E;rintro O H n3 ⟨E,c⟩;refine zE fun _ V=>?_
 obtain⟨hb4,h⟩:=h;obtain⟨r5,er5,h⟩:=aE h;simp[E,c];refine zA (xB a.nodes k_ hb4) e64 (.cons (aQ.gO false a.nodes) (.cons (.v _ _ _) .nil)) (by simp[E,c]) ?_;rintro _ rfl;rw[<- er5];simp[E,c];apply V;refine zS fun _ V=>?_
 obtain⟨c6,ec6,h⟩:=aE h;have f7:=aX (k:=.i64) ec6;simp[E,c,f7,-aw];apply V;refine J.ite (b:=c6) (by simp[E,c]) (fun dc6=>?_) (fun dc6=>?_)
 ·replace h:=h.1 dc6;refine zE fun _ V=>?_
  simp[E,c,dc6];apply V;exact J.bj (v:=int (-1)) func24 results24 (by simp[E,c,dc6]) (hQ _ _ _ _ (.of (.v _)) ⟨(-1),h,rfl⟩)
 replace h:=h.2 dc6;apply J.skip;refine zE fun _ V=>?_
 obtain⟨hb8,h⟩:=h;obtain⟨r9,er9,h⟩:=aE h;simp[E,c,dc6];refine zA (sa a.sites r5 hb8) e58 (.cons (ef false a.sites) (.cons (.v _ _ _) .nil)) (by simp[E,c,dc6]) ?_;rintro _ rfl;rw[<- er9];simp[E,c,dc6];apply V;refine zS fun _ V=>?_
 obtain⟨l,o,h⟩:=aE h;have f11:=aX (k:=.i64) o;simp[E,c,f11,dc6,-aw];apply V;refine J.ite (b:=l) (by simp[E,c,dc6]) (fun e=>?_) (fun e=>?_)
 ·replace h:=h.1 e;refine zE fun _ V=>?_
  simp[E,c,dc6,e];apply V;refine J.cut (fun O H n=>O 4=int (-1)) (by simp[E,c,dc6,e]) ?_;clear E c;rintro O H n12 E;exact J.bj (v:=int (-1)) func24 results24 (by simp[E]) (hQ _ _ _ _ (.of (.v _)) ⟨(-1),h,rfl⟩)
 replace h:=h.2 e;apply J.skip;refine zE fun _ V=>?_
 obtain⟨p,h⟩:=h;obtain⟨i,q,h⟩:=aE h;simp[E,c,dc6,e];refine zA (u7 a.outer r9 p) e65 (.cons (o5 false a.outer) (.cons (.v _ _ _) .nil)) (by simp[E,c,dc6,e]) ?_;rintro _ rfl;rw[<- q];simp[E,c,dc6,e];apply V;refine J.cut (fun O H n=>(O 1=int i/\O 2=pA U 2)/\H (U,2)=some ⟨6,[bC false a]⟩) (by refine⟨?_,?_⟩<;>simp[E,c,dc6,e]) ?_;clear E c;rintro O H n15 ⟨E,c⟩;refine zS fun _ V=>?_
 obtain⟨t,u,h⟩:=aE h;have f17:=aX (k:=.i64) u;simp[E,c,f17,-aw];apply V;refine J.ite (b:=t) (by simp[E,c]) (fun d=>?_) (fun d=>?_)
 ·replace h:=h.1 d;refine zE fun _ V=>?_
  simp[E,c,d];apply V;exact J.bj (v:=int (-1)) func24 results24 (by simp[E,c,d]) (hQ _ _ _ _ (.of (.v _)) ⟨(-1),h,rfl⟩)
 replace h:=h.2 d;apply J.skip;refine zE fun _ V=>?_
 obtain⟨A,h⟩:=h;obtain⟨j,B,h⟩:=aE h;simp[E,c,d];refine zA (xj a.inner i A) e66 (.cons (vA false a.inner) (.cons (.v _ _ _) .nil)) (by simp[E,c,d]) ?_;rintro _ rfl;rw[<- B];simp[E,c,d];apply V;refine zS fun _ V=>?_
 obtain⟨C,D,h⟩:=aE h;have f21:=aX (k:=.i64) D;simp[E,c,f21,d,-aw];apply V;refine J.ite (b:=C) (by simp[E,c,d]) (fun g=>?_) (fun g=>?_)
 ·replace h:=h.1 g;refine zE fun _ V=>?_
  simp[E,c,d,g];apply V;exact J.bj (v:=int (-1)) func24 results24 (by simp[E,c,d,g]) (hQ _ _ _ _ (.of (.v _)) ⟨(-1),h,rfl⟩)
 replace h:=h.2 g;apply J.skip;refine zE fun _ V=>?_
 simp[E,c,d,g];apply V;exact J.bj (v:=int j) func24 results24 (by simp[E,c,d,g]) (hQ _ _ _ _ (.of (.v _)) ⟨j,h,rfl⟩)
theorem uX (a:aG) (k_:Int) (hp:iq a k_):aF prog 24 [.agg (bC false a),int k_] (fun r=>r=int (ky a k_)):=(w6 a k_ _ (C8 a k_ hp)).mono (by rintro _ ⟨_,rfl,rfl⟩;rfl)
end Go.Ab.Vg
namespace Go.Ab.Vg
open Go.Proofs
set_option maxRecDepth 100000
attribute [local simp] aA mC pA
theorem e20:a8 prog 20:=a8.of func20 (by kernel_rfl) rfl
theorem yG (a:Match) (Z:Match->Prop) (h:l6 a Z):bn prog 20 [.agg (mC false a)] (.a [.s [.c],.s [.c]]) (fun r=>∃ y:Match,Z y/\r = .agg (mC true y)):=by
 unfold l6 at h;have M:Sep bx 0 [] []:=Sep.nil (by simp);refine bn.of func20 rfl ntmps20 (by simp) fun Q hQ=>?_
 refine J.cut (fun O H n=>O 0 = .agg (mC false a)/\Sep H n [] []) (by refine⟨by simp ,M⟩) ?_;rintro O H U ⟨E,M⟩;refine zE fun _ V=>?_
 simp[E];apply V;refine J.cut (fun O H n=>((O 1=pA U 1/\O 2=pA (U+1) 2)/\H (U,1)=some ⟨2,[mC false a]⟩/\H (U+1,2)=some ⟨2,[[.v (.slice none 0 0),.v (.slice none 0 0)]]⟩)/\Sep H n [] [(U+1,2),(U,1)]) (by refine⟨by simp[E],M.var.var⟩) ?_;clear E;rintro O H n4 ⟨⟨E,d,b⟩,M⟩;refine zE fun _ V=>?_
 simp[E,d,b];apply V;refine J.cut (fun O H n=>((O 1=pA U 1/\O 2=pA (U+1) 2/\O 3=pA n4 3)/\H (U,1)=some ⟨2,[mC false a]⟩/\H (U+1,2)=some ⟨2,[[.v (.slice none 0 0),.v (.slice none 0 0)]]⟩/\H (n4,3)=some ⟨2,[[.v (.slice none 0 0),.v (.slice none 0 0)]]⟩)/\Sep H n [] [(n4,3),(U+1,2),(U,1)]) (by refine⟨by simp[E,d,b],M.var⟩) ?_;clear E d b;rintro O H n6 ⟨⟨E,d,b,e⟩,M⟩;refine zE fun _ V=>?_
 obtain⟨hb7,h⟩:=h;obtain⟨r8,er8,h⟩:=aE h;simp[E,d,b,e];refine zW (gU a.nodes hb7) e36 (.cons (ef false a.nodes) .nil) M (by simp[E,d,b,e]) ?_;rintro v9 t n11 _ M rfl u j;rw[<- er8] at M;have d:=(j _ (by simp)).trans d;have b:=(j _ (by simp)).trans b;have e:=(j _ (by simp)).trans e;have f16:=Sep.oc M;simp[E,d,b,e,f16,-az,-aH,bq,bc];apply V;refine J.cut (fun O H n=>∃ (v17:au),((O 1=pA U 1/\O 2=pA (U+1) 2/\O 3=pA n4 3)/\H (U,1)=some ⟨2,[mC false a]⟩/\H (U+1,2)=some ⟨2,[[.v (.slice none 0 0),.v (.slice none 0 0)]]⟩/\H (n4,3)=some ⟨2,[[v17,.v (.slice none 0 0)]]⟩)/\Sep H n [oI v17 r8] [(n4,3),(U+1,2),(U,1)]) (by refine⟨v9,by simp[E,d,b,e,f16,-az,-aH,bq,bc],(Sep.bD (w:=(n4,3)) M (by simp))⟩) ?_;clear E d b e;rintro O H n18 ⟨v17,⟨E,d,b,e⟩,M⟩;refine zE fun _ V=>?_
 obtain⟨p,h⟩:=h;obtain⟨l,q,h⟩:=aE h;simp[E,d,b,e];refine zW (gU a.roots p) e36 (.cons (ef false a.roots) .nil) M (by simp[E,d,b,e]) ?_;rintro v21 A n23 _ M rfl B o;rw[<- q] at M;have d:=(o _ (by simp)).trans d;have b:=(o _ (by simp)).trans b;have e:=(o _ (by simp)).trans e;have f28:=Sep.oc M;simp[E,d,b,e,f28,-az,-aH,bq,bc];apply V;refine J.cut (fun O H n=>∃ (g v30:au),((O 2=pA (U+1) 2/\O 3=pA n4 3)/\H (U+1,2)=some ⟨2,[[.v (.slice none 0 0),.v (.slice none 0 0)]]⟩/\H (n4,3)=some ⟨2,[[v30,g]]⟩)/\Sep H n [oI g l,oI v30 r8] [(n4,3),(U+1,2)]) (by refine⟨v21,v17,by simp[E,d,b,e,f28,-az,-aH,bq,bc],(Sep.sub (Sep.bD (w:=(n4,3)) M (by simp)) (by simp +contextual))⟩) ?_;clear E d b e;rintro O H n31 ⟨g,v30,⟨E,b,e⟩,M⟩;refine zE fun _ V=>?_
 have f32:=Sep.oc M.f1;have f33:=Sep.oc M;simp[E,b,e,f32,f33,-az,-aH,bq,bc];apply V;refine J.cut (fun O H n=>∃ (i v35:au),(O 2=pA (U+1) 2/\H (U+1,2)=some ⟨2,[[v35,i]]⟩)/\Sep H n [oI i l,oI v35 r8] [(U+1,2)]) (by refine⟨g,v30,by simp[E,b,e,f32,f33,-az,-aH,bq,bc],(Sep.sub (Sep.bD (w:=(U+1,2)) M (by simp)) (by simp +contextual))⟩) ?_;clear E b e;rintro O H n36 ⟨i,v35,⟨E,b⟩,M⟩;exact J.An aB (v:=.agg [v35,i]) func20 results20 (by simp[E,b,eL]) (hQ _ _ _ _ (Sep.sub (dn:=[]) (Sep.pack (aK.own (aK.own aK.nil)) M.f1) (by simp)) ⟨(Match.mk r8 l),h,rfl⟩)
theorem lU (a:Match) (hp:fT a):bn prog 20 [.agg (mC false a)] (.a [.s [.c],.s [.c]]) (fun r=>r = .agg [.list true (((kx a).nodes).map aA),.list true (((kx a).roots).map aA)]):=(yG a _ (Df a hp)).mono (by rintro _ ⟨_,rfl,rfl⟩;rfl)
theorem e18:a8 prog 18:=a8.of func18 (by kernel_rfl) rfl
theorem GA (a:Match) (left:Int) (Z:Int->Prop) (h:yR a left Z):aF prog 18 [.agg (mC false a),int left] (fun r=>∃ y:Int,Z y/\r=int y):=by
 unfold yR at h;refine aF.of func18 rfl ntmps18 (by simp) fun Q hQ=>?_
 refine J.cut (fun O H n=>(O 0 = .agg (mC false a)/\O 1=int left)) (by simp) ?_;rintro O H U E;refine zE fun _ V=>?_
 simp[E];apply V;refine J.cut (fun O H n=>(O 1=int left/\O 2=pA U 2)/\H (U,2)=some ⟨2,[mC false a]⟩) (by refine⟨?_,?_⟩<;>simp[E]) ?_;clear E;rintro O H n3 ⟨E,c⟩;refine zE fun _ V=>?_
 obtain⟨hb4,h⟩:=h;obtain⟨r5,er5,h⟩:=aE h;simp[E,c];refine zA (oF a.nodes left hb4.1.1 hb4.1.2 hb4.2) e27 (.cons (ef false a.nodes) (.cons (.v _ _ _) .nil)) (by simp[E,c]) ?_;rintro _ rfl;rw[<- er5];simp[E,c];apply V;refine zS fun _ V=>?_
 obtain⟨c6,ec6,h⟩:=aE h;have f7:=aX (k:=.i64) ec6;simp[E,c,f7,-aw];apply V;refine J.ite (b:=c6) (by simp[E,c]) (fun dc6=>?_) (fun dc6=>?_)
 ·replace h:=h.1 dc6;refine zE fun _ V=>?_
  simp[E,c,dc6];apply V;exact J.bj (v:=int (-1)) func18 results18 (by simp[E,c,dc6]) (hQ _ _ _ _ (.of (.v _)) ⟨(-1),h,rfl⟩)
 replace h:=h.2 dc6;apply J.skip;refine zE fun _ V=>?_
 obtain⟨hb8,h⟩:=h;obtain⟨r9,er9,h⟩:=aE h;simp[E,c,dc6];refine zA (oF a.roots r5 hb8.1.1 hb8.1.2 hb8.2) e27 (.cons (ef false a.roots) (.cons (.v _ _ _) .nil)) (by simp[E,c,dc6]) ?_;rintro _ rfl;rw[<- er9];simp[E,c,dc6];apply V;refine zS fun _ V=>?_
 obtain⟨e,g,h⟩:=aE h;have f11:=aX (k:=.i64) g;simp[E,c,f11,dc6,-aw];apply V;refine J.ite (b:=e) (by simp[E,c,dc6]) (fun d=>?_) (fun d=>?_)
 ·replace h:=h.1 d;refine zE fun _ V=>?_
  simp[E,c,dc6,d];apply V;refine J.cut (fun O H n=>O 4=int (-1)) (by simp[E,c,dc6,d]) ?_;clear E c;rintro O H n12 E;exact J.bj (v:=int (-1)) func18 results18 (by simp[E]) (hQ _ _ _ _ (.of (.v _)) ⟨(-1),h,rfl⟩)
 replace h:=h.2 d;apply J.skip;refine zE fun _ V=>?_
 simp[E,c,dc6,d];apply V;refine J.cut (fun O H n=>O 4=int r9) (by simp[E,c,dc6,d]) ?_;clear E c;rintro O H n13 E;exact J.bj (v:=int r9) func18 results18 (by simp[E]) (hQ _ _ _ _ (.of (.v _)) ⟨r9,h,rfl⟩)
theorem szM_ok (a:Match) (left:Int) (hp:w3 a left):aF prog 18 [.agg (mC false a),int left] (fun r=>r=int (IK a left)):=(GA a left _ (szM_vc a left hp)).mono (by rintro _ ⟨_,rfl,rfl⟩;rfl)
theorem e22:a8 prog 22:=a8.of func22 (by kernel_rfl) rfl
theorem Gg (a:Match) (b:Match) (Z:Bool->Prop) (h:yx a b Z):aF prog 22 [.agg (mC false a),.agg (mC false b)] (fun r=>∃ y:Bool,Z y/\r=bool y):=by
 unfold yx at h;refine aF.of func22 rfl ntmps22 (by simp) fun Q hQ=>?_
 refine J.cut (fun O H n=>(O 0 = .agg (mC false a)/\O 1 = .agg (mC false b))) (by simp) ?_;rintro O H U E;refine zE fun _ V=>?_
 simp[E];apply V;refine J.cut (fun O H n=>(O 2=pA U 2/\O 3=pA (U+1) 3)/\H (U,2)=some ⟨2,[mC false a]⟩/\H (U+1,3)=some ⟨2,[mC false b]⟩) (by refine⟨?_,?_,?_⟩<;>simp[E]) ?_;clear E;rintro O H n4 ⟨E,c,d⟩;refine zS fun _ V=>?_
 obtain⟨hb5,h⟩:=h;obtain⟨r6,er6,h⟩:=aE h;simp[E,c,d];refine zA (oh a.nodes b.nodes hb5) e48 (.cons (ef false a.nodes) (.cons (ef false b.nodes) .nil)) (by simp[E,c,d]) ?_;rintro _ rfl;rw[<- er6];simp[E,c,d];apply V;refine J.ite (b:=(!r6)) (by simp[E,c,d]) (fun dr6=>?_) (fun dr6=>?_)
 ·have dr6:r6=false:=by simpa using dr6
  replace h:=h.2 dr6;refine zE fun _ V=>?_
  simp[E,c,d,dr6];apply V;exact J.bj (v:=bool false) func22 results22 (by simp[E,c,d,dr6]) (hQ _ _ _ _ (.of (.v _)) ⟨false,h,rfl⟩)
 have dr6:r6=true:=by simpa using dr6
 replace h:=h.1 dr6;apply J.skip;refine zS fun _ V=>?_
 obtain⟨hb7,h⟩:=h;obtain⟨r8,er8,h⟩:=aE h;simp[E,c,d,dr6];refine zA (oh a.roots b.roots hb7) e48 (.cons (ef false a.roots) (.cons (ef false b.roots) .nil)) (by simp[E,c,d,dr6]) ?_;rintro _ rfl;rw[<- er8];simp[E,c,d,dr6];apply V;refine J.ite (b:=(!r8)) (by simp[E,c,d,dr6]) (fun dr8=>?_) (fun dr8=>?_)
 ·have dr8:r8=false:=by simpa using dr8
  replace h:=h.2 dr8;refine zE fun _ V=>?_
  simp[E,c,d,dr6,dr8];apply V;exact J.bj (v:=bool false) func22 results22 (by simp[E,c,d,dr6,dr8]) (hQ _ _ _ _ (.of (.v _)) ⟨false,h,rfl⟩)
 have dr8:r8=true:=by simpa using dr8
 replace h:=h.1 dr8;apply J.skip;refine zE fun _ V=>?_
 simp[E,c,d,dr6,dr8];apply V;exact J.bj (v:=bool true) func22 results22 (by simp[E,c,d,dr6,dr8]) (hQ _ _ _ _ (.of (.v _)) ⟨true,h,rfl⟩)
theorem eqM_ok (a:Match) (b:Match) (hp:xk a b):aF prog 22 [.agg (mC false a),.agg (mC false b)] (fun r=>r=bool (eqM a b)):=(Gg a b _ (eqM_vc a b hp)).mono (by rintro _ ⟨_,rfl,rfl⟩;rfl)
theorem e23:a8 prog 23:=a8.of func23 (by kernel_rfl) rfl
theorem uh (a:Match) (k_:Int) (Z:(Match × Int)->Prop) (h:jh a k_ Z):ep prog 23 (fun v=>[v,int k_]) (.a [.s [.c],.s [.c]]) (.agg (mC true a)) (fun e' r=>∃ y:Match × Int,Z y/\e' = .agg (mC true y.1)/\r=int y.2):=by
 unfold jh at h;refine ep.of func23 rfl ntmps23 (fun _=>by simp) fun H0 n0 v0 K0 bA M Q hQ=>?_
 have h00:=M.1;have hid:∀ i ∈ bA,H0 i=H0 i:=fun _ _=>rfl
 have hnn:n0<=n0:=Nat.le_refl _;replace M:=Sep.unpack M;obtain⟨L0,hv,hl0,M⟩:=M;subst hv;obtain⟨a0_,a1_,hv⟩:=cJ (by simpa using hl0);subst hv;simp only[dW,List.cons_append,List.nil_append] at M;replace M:=Sep.fJ M;replace M:=Sep.fJ M;try simp only[List.append_eq,List.cons_append,List.nil_append,List.append_assoc] at M;replace M:=Sep.swap (K1:=K0) M;simp only[List.cons_append,List.nil_append] at M;refine J.cut (fun O H n=>(O 0 = .agg [a0_,a1_]/\O 1=int k_)/\n0<=n/\(∀ i ∈ bA,H i=H0 i)/\Sep H n (oI a0_ a.nodes::oI a1_ a.roots::K0) (bA)) (by refine⟨?_,(by omega),hid,M⟩<;>simp ) ?_;rintro O H n3 ⟨E,hnn,hid,M⟩;have hq_n3:=hnn;refine zE fun _ V=>?_
 have f4:=Sep.oc M;have f5:=Sep.oc M.f1;simp[E,f4,f5,-az,-aH,bq,bc];apply V;refine J.cut (fun O H n=>(O 1=int k_/\O 2=pA n3 2)/\H (n3,2)=some ⟨2,[[a0_,a1_]]⟩/\n0<=n/\(∀ i ∈ bA,H i=H0 i)/\Sep H n (oI a0_ a.nodes::oI a1_ a.roots::K0) ((n3,2)::bA)) (by refine⟨?_,?_,(by omega),(by intro i hi;have hlt:=h00 i (by simp[hi]);repeat (first | exact hid i hi | rw[ax.aY _ _ (by rintro rfl;simp at hlt;omega)])),M.var⟩<;>simp[E,f4,f5,-az,-aH,bq,bc]) ?_;clear E;rintro O H n7 ⟨E,b,hnn,hid,M⟩;have hq_n7:=hnn;refine zE fun _ V=>?_
 obtain⟨hb8,h⟩:=h;obtain⟨r9,er9,h⟩:=aE h;have f10:=Sep.oc M;simp[E,b,f10,-az,-aH,bq,bc];refine bX.jK (v:=a0_) aB (kz a.nodes k_ hb8) e55 M (by decide) (by decide) rfl (by simp[E,b,f10,-az,-aH,bq,bc]) ?_;rintro _ e n12 _ ⟨rfl,rfl⟩ M q g;rw[<- er9] at M;rw[<- er9];replace M:Sep e n12 (oI a0_ r9.1::oI a1_ a.roots::K0) ((n3,2)::bA):=M;have hid:∀ i ∈ bA,e i=H0 i:=fun i hi=>(g i (by simp[hi])).trans (hid i hi)
 have hnn:n0<=n12:=by omega
 have hq_n12:=hnn;have b:=(g _ (by simp)).trans b;simp[E,b,f10,-az,-aH,bq,bc];apply V;refine J.cut (fun O H n=>(O 1=int r9.2/\O 2=pA n3 2)/\H (n3,2)=some ⟨2,[[a0_,a1_]]⟩/\n0<=n/\(∀ i ∈ bA,H i=H0 i)/\Sep H n (oI a0_ r9.1::oI a1_ a.roots::K0) ((n3,2)::bA)) (by refine⟨?_,?_,(by omega),hid,M⟩<;>simp[E,b,f10,-az,-aH,bq,bc]) ?_;clear E b;rintro O H n16 ⟨E,b,hnn,hid,M⟩;have hq_n16:=hnn;refine zE fun _ V=>?_
 obtain⟨p,h⟩:=h;obtain⟨d,j,h⟩:=aE h;have f19:=Sep.oc M.f1;simp[E,b,f19,-az,-aH,bq,bc];refine bX.jK (v:=a1_) aB (kz a.roots r9.2 p) e55 M.f1 (by decide) (by decide) rfl (by simp[E,b,f19,-az,-aH,bq,bc]) ?_;rintro _ l n21 _ ⟨rfl,rfl⟩ M t o;rw[<- j] at M;rw[<- j];replace M:Sep l n21 (oI a1_ d.1::oI a0_ r9.1::K0) ((n3,2)::bA):=M;have hid:∀ i ∈ bA,l i=H0 i:=fun i hi=>(o i (by simp[hi])).trans (hid i hi)
 have hnn:n0<=n21:=by omega
 have hq_n21:=hnn;have b:=(o _ (by simp)).trans b;simp[E,b,f19,-az,-aH,bq,bc];apply V;refine J.cut (fun O H n=>O 1=int d.2/\n0<=n/\(∀ i ∈ bA,H i=H0 i)/\Sep H n (oI a1_ d.1::oI a0_ r9.1::K0) (bA)) (by refine⟨?_,(by omega),hid,(Sep.sub M (by simp +contextual))⟩<;>simp[E,b,f19,-az,-aH,bq,bc]) ?_;clear E b;rintro O H n25 ⟨E,hnn,hid,M⟩;have hq_n25:=hnn;refine zE fun _ V=>?_
 simp[E];apply V;exact J.bj (v:=int d.2) func23 results23 (by simp[E]) (hQ _ _ _ _ (Sep.sub (Sep.pack (aK.own (aK.own aK.nil)) M.f1) (by simp +contextual)) hid (by omega) ⟨((Match.mk r9.1 d.1),d.2),h,rfl,rfl⟩)
theorem yQ (a:Match) (k_:Int) (hp:kX a k_):ep prog 23 (fun v=>[v,int k_]) (.a [.s [.c],.s [.c]]) (.agg (mC true a)) (fun e' r=>e' = .agg [.list true ((((js a k_).1).nodes).map aA),.list true ((((js a k_).1).roots).map aA)]/\r=int ((js a k_).2)):=(uh a k_ _ (yg a k_ hp)).mono (by rintro _ _ ⟨_,rfl,rfl,rfl⟩;exact⟨rfl,rfl⟩)
end Go.Ab.Vg
namespace Go.Ab.Vg
open Go.Proofs
set_option maxRecDepth 100000
attribute [local simp] ay.cells aD.cells aA gL aT bC mC pA
theorem e95:a8 prog 95:=a8.of func95 (by kernel_rfl) rfl
theorem Az (I:aG) (m:Match) (Z:(List Int)->Prop) (h:ot I m Z):bn prog 95 [.agg (bC false I),.agg (mC false m)] (.s [.c]) (fun r=>∃ y:List Int,Z y/\r = .list true (y.map aA)):=by
 unfold ot at h;have M:Sep bx 0 [] []:=Sep.nil (by simp);refine bn.of func95 rfl ntmps95 (by simp) fun Q hQ=>?_
 refine J.cut (fun O H n=>(O 0 = .agg (bC false I)/\O 1 = .agg (mC false m))/\Sep H n [] []) (by refine⟨by simp ,M⟩) ?_;rintro O H U ⟨E,M⟩;refine zE fun _ V=>?_
 simp[E];apply V;refine J.cut (fun O H n=>((O 2=pA U 2/\O 3=pA (U+1) 3)/\H (U,2)=some ⟨6,[bC false I]⟩/\H (U+1,3)=some ⟨2,[mC false m]⟩)/\Sep H n [] [(U+1,3),(U,2)]) (by refine⟨by simp[E],M.var.var⟩) ?_;clear E;rintro O H n4 ⟨⟨E,a,d⟩,M⟩;refine zE fun _ V=>?_
 simp[E,a,d];apply V;refine J.cut (fun O H n=>∃ (v6:au),((O 2=pA U 2/\O 3=pA (U+1) 3/\O 5=v6)/\H (U,2)=some ⟨6,[bC false I]⟩/\H (U+1,3)=some ⟨2,[mC false m]⟩)/\Sep H n [oI v6 ([]:List Int)] [(U+1,3),(U,2)]) (by refine⟨.arr (n4,7) 0 0 0,by simp[E,a,d],(Sep.addEmpty (l:=[.c]) M)⟩) ?_;clear E a d;rintro O H n7 ⟨v6,⟨E,a,d⟩,M⟩;refine zS fun _ V=>?_
 obtain⟨len8,elen8,h⟩:=aE h;have f9:=fun H=>aN (H:=H) (fr:=false) (f:=(ay.cells false)) bH elen8
 simp[E,a,d,f9,-aZ];apply V;apply J.block;refine J.aI h (fun (sJ:Int × (List Int)) O H n=>match sJ with | (v17,j)=>∃ (i:au),((O 2=pA U 2/\O 3=pA (U+1) 3/\O 5=i/\O 10=int len8/\O 11=int v17)/\H (U,2)=some ⟨6,[bC false I]⟩/\H (U+1,3)=some ⟨2,[mC false m]⟩)/\Sep H n [oI i j] [(U+1,3),(U,2)]) (by refine⟨v6,by simp[E,a,d],M⟩) ?_;clear E a d;rintro⟨v17,j⟩ O H n20 K h ⟨i,⟨E,a,d⟩,M⟩ q;refine zE fun _ V=>?_
 obtain⟨A,B,h⟩:=aE h;have f24:=aX (k:=.i64) B;simp[E,a,d,f24,-aw];apply V;apply J.seq;refine J.ite (b:=A) (by simp[E,a,d]) (fun e=>?_) (fun e=>?_)
 ·replace h:=h.1 e;apply zK;apply J.block;refine zE fun _ V=>?_
  simp[E,a,d,e];apply V;refine zE fun _ V=>?_
  obtain⟨C,h⟩:=h;obtain⟨o,D,h⟩:=aE h;simp[E,a,d,e];refine zA (qb I v17 m.nodes C) e149 (.cons (bB false I) (.cons (.v _ _ _) (.cons (ef false m.nodes) .nil))) (by simp[E,a,d,e]) ?_;rintro _ rfl;rw[<- D];simp[E,a,d,e];apply V;refine J.ite (b:=(!o)) (by simp[E,a,d,e]) (fun g=>?_) (fun g=>?_)
  ·have g:o=false:=by simpa using g
   replace h:=h.2 g;refine zF fun _ V=>?_
   obtain⟨F,h⟩:=h;obtain⟨p,G,h⟩:=aE h;simp[E,a,d,e,g,-bb];refine bf [] [] [[int v17]] [aA v17] M aV (by simp) (by simp) (by simp) (by simp[-aH,bc]) (bo (aK.v _ aK.nil)) (by simp) (by simpa using F) ?_;rintro t L n31 M u Y;replace M:Sep L n31 [oI t p] [(U+1,3),(U,2)]:=Sep.ap G M;have a:=(u _ (by simp)).trans a;have d:=(u _ (by simp)).trans d;simp[E,a,d,e,g];apply V;refine J.cut (fun O H n=>∃ (v35:au),((O 2=pA U 2/\O 3=pA (U+1) 3/\O 5=v35/\O 10=int len8/\O 11=int v17)/\H (U,2)=some ⟨6,[bC false I]⟩/\H (U+1,3)=some ⟨2,[mC false m]⟩)/\Sep H n [oI v35 p] [(U+1,3),(U,2)]) (by refine⟨t,by simp[E,a,d,e,g],M⟩) ?_;clear E a d;rintro O H n36 ⟨v35,⟨E,a,d⟩,M⟩;refine zI fun _ V=>?_
   obtain⟨N,h⟩:=h;obtain⟨R,T,h⟩:=aE h;have f39:=aR N T;simp[E,a,d,f39,-aw];apply V;refine q (R,p) _ _ _ h (by refine⟨v35,by simp[E,a,d],M⟩)
  have g:o=true:=by simpa using g
  replace h:=h.1 g;apply J.skip;refine zI fun _ V=>?_
  obtain⟨W,h⟩:=h;obtain⟨v41,X,h⟩:=aE h;have f42:=aR W X;simp[E,a,d,f42,e,g,-aw];apply V;refine q (v41,j) _ _ _ h (by refine⟨i,by simp[E,a,d,e,g],M⟩)
 replace h:=h.2 e;refine J.exit rfl ?_;refine zE fun _ V=>?_
 simp[E,a,d,e];apply V;exact J.bj (v:=i) func95 results95 (by simp[E,a,d,e]) (hQ _ _ _ _ (Sep.sub (dn:=[]) M (by simp)) ⟨j,h,rfl⟩)
theorem EI (I:aG) (m:Match) (hp:pw I m):bn prog 95 [.agg (bC false I),.agg (mC false m)] (.s [.c]) (fun r=>r = .list true ((vk I m).map aA)):=(Az I m _ (Ex I m hp)).mono (by rintro _ ⟨_,rfl,rfl⟩;rfl)
theorem e151:a8 prog 151:=a8.of func151 (by kernel_rfl) rfl
theorem q9 (I:aG) (m:Match) (Z:(List Int)->Prop) (h:gy I m Z):bn prog 151 [.agg (bC false I),.agg (mC false m)] (.s [.c]) (fun r=>∃ y:List Int,Z y/\r = .list true (y.map aA)):=by
 unfold gy at h;have M:Sep bx 0 [] []:=Sep.nil (by simp);refine bn.of func151 rfl ntmps151 (by simp) fun Q hQ=>?_
 refine J.cut (fun O H n=>(O 0 = .agg (bC false I)/\O 1 = .agg (mC false m))/\Sep H n [] []) (by refine⟨by simp ,M⟩) ?_;rintro O H U ⟨E,M⟩;refine zE fun k' V=>?_
 simp[E];apply V;refine J.cut (fun O H n=>((O 2=pA U 2/\O 3=pA (U+1) 3)/\H (U,2)=some ⟨6,[bC false I]⟩/\H (U+1,3)=some ⟨2,[mC false m]⟩)/\Sep H n [] [(U+1,3),(U,2)]) (by refine⟨by simp[E],M.var.var⟩) ?_;clear E;rintro O H n4 ⟨⟨E,a,d⟩,M⟩;refine zE fun k' V=>?_
 simp[E,a,d];apply V;refine J.cut (fun O H n=>∃ (v6:au),((O 2=pA U 2/\O 3=pA (U+1) 3/\O 5=v6)/\H (U,2)=some ⟨6,[bC false I]⟩/\H (U+1,3)=some ⟨2,[mC false m]⟩)/\Sep H n [oI v6 ([]:List Int)] [(U+1,3),(U,2)]) (by refine⟨.arr (n4,7) 0 0 0,by simp[E,a,d],(Sep.addEmpty (l:=[.c]) M)⟩) ?_;clear E a d;rintro O H n7 ⟨v6,⟨E,a,d⟩,M⟩;refine zS fun k' V=>?_
 obtain⟨len8,elen8,h⟩:=aE h;have f9:=fun H=>aN (H:=H) (fr:=false) (f:=(ay.cells false)) bH elen8
 simp[E,a,d,f9,-aZ];apply V;apply J.block;refine J.aI h (fun (sJ:Int × (List Int)) O H n=>match sJ with | (v17,o)=>∃ (j:au),((O 2=pA U 2/\O 3=pA (U+1) 3/\O 5=j/\O 10=int len8/\O 11=int v17)/\H (U,2)=some ⟨6,[bC false I]⟩/\H (U+1,3)=some ⟨2,[mC false m]⟩)/\Sep H n [oI j o] [(U+1,3),(U,2)]) (by refine⟨v6,by simp[E,a,d],M⟩) ?_;clear E a d;rintro⟨v17,o⟩ O H n20 K h ⟨j,⟨E,a,d⟩,M⟩ u;refine zE fun k' V=>?_
 obtain⟨D,F,h⟩:=aE h;have f24:=aX (k:=.i64) F;simp[E,a,d,f24,-aw];apply V;apply J.seq;refine J.ite (b:=D) (by simp[E,a,d]) (fun e=>?_) (fun e=>?_)
 ·replace h:=h.1 e;apply zK;apply J.block;refine zE fun k' V=>?_
  simp[E,a,d,e];apply V;refine zE fun k' V=>?_
  obtain⟨G,L,N⟩:=h;have A:∀ (sJ:Bool) (O:Env) (H:ax) (n:Nat),G sJ->(match sJ with | q=>∃ (p:au),((O 2=pA U 2/\O 3=pA (U+1) 3/\O 5=p/\O 6=int v17/\O 10=int len8/\O 11=int v17/\O 25=bool q)/\H (U,2)=some ⟨6,[bC false I]⟩/\H (U+1,3)=some ⟨2,[mC false m]⟩)/\Sep H n [oI p o] [(U+1,3),(U,2)])->J prog 151 32 k' O H n Q:=by
   rintro q O H n31 h ⟨p,⟨E,a,d⟩,M⟩;replace h:=N _ h;apply V;refine J.ite (b:=q) (by simp[E,a,d]) (fun i=>?_) (fun i=>?_)
   ·replace h:=h.1 i;refine zF fun k' V=>?_
    obtain⟨R,h⟩:=h;obtain⟨t,T,h⟩:=aE h;simp[E,a,d,i,-bb];refine bf [] [] [[int v17]] [aA v17] M aV (by simp) (by simp) (by simp) (by simp[-aH,bc]) (bo (aK.v _ aK.nil)) (by simp) (by simpa using R) ?_;rintro B W n36 M C a2;replace M:Sep W n36 [oI B t] [(U+1,3),(U,2)]:=Sep.ap T M;have a:=(C _ (by simp)).trans a;have d:=(C _ (by simp)).trans d;simp[E,a,d,i];apply V;refine J.cut (fun O H n=>∃ (v40:au),((O 2=pA U 2/\O 3=pA (U+1) 3/\O 5=v40/\O 10=int len8/\O 11=int v17)/\H (U,2)=some ⟨6,[bC false I]⟩/\H (U+1,3)=some ⟨2,[mC false m]⟩)/\Sep H n [oI v40 t] [(U+1,3),(U,2)]) (by refine⟨B,by simp[E,a,d,i],M⟩) ?_;clear E a d;rintro O H n41 ⟨v40,⟨E,a,d⟩,M⟩;refine zI fun k' V=>?_
    obtain⟨X,h⟩:=h;obtain⟨Y,ab,h⟩:=aE h;have f44:=aR X ab;simp[E,a,d,f44,-aw];apply V;refine u (Y,t) _ _ _ h (by refine⟨v40,by simp[E,a,d],M⟩)
   replace h:=h.2 i;apply J.skip;refine zI fun k' V=>?_
   obtain⟨ac,h⟩:=h;obtain⟨v46,ad,h⟩:=aE h;have f47:=aR ac ad;simp[E,a,d,f47,i,-aw];apply V;refine u (v46,o) _ _ _ h (by refine⟨p,by simp[E,a,d,i],M⟩)
  replace h:=L;obtain⟨af,h⟩:=h;obtain⟨am,ao,h⟩:=aE h;simp[E,a,d,e];refine zA (qb I v17 m.nodes af) e149 (.cons (bB false I) (.cons (.v _ _ _) (.cons (ef false m.nodes) .nil))) (by simp[E,a,d,e]) ?_;rintro _ rfl;rw[<- ao];rcases Bool.eq_false_or_eq_true am with g | g
  ·replace h:=h.1 g;obtain⟨aM,h⟩:=h;obtain⟨a0,a1,h⟩:=aE h;simp[E,a,d,e,g];refine zA (qt m.nodes v17 aM) e94 (.cons (ef false m.nodes) (.cons (.v _ _ _) .nil)) (by simp[E,a,d,e,g]) ?_;rintro _ rfl;rw[<- a1];simp[E,a,d,e,g];exact A ((!a0)) _ _ _ h (by refine⟨j,by simp[E,a,d,e,g],M⟩)
  replace h:=h.2 g;simp[E,a,d,e,g];exact A (false) _ _ _ h (by refine⟨j,by simp[E,a,d,e,g],M⟩)
 replace h:=h.2 e;refine J.exit rfl ?_;refine zE fun k' V=>?_
 simp[E,a,d,e];apply V;exact J.bj (v:=j) func151 results151 (by simp[E,a,d,e]) (hQ _ _ _ _ (Sep.sub (dn:=[]) M (by simp)) ⟨o,h,rfl⟩)
theorem tT (I:aG) (m:Match) (hp:iG I m):bn prog 151 [.agg (bC false I),.agg (mC false m)] (.s [.c]) (fun r=>r = .list true ((cy I m).map aA)):=(q9 I m _ (tR I m hp)).mono (by rintro _ ⟨_,rfl,rfl⟩;rfl)
end Go.Ab.Vg
namespace Go.Ab.Vg
open Go.Proofs
set_option maxRecDepth 100000
theorem e196:a8 prog 196:=a8.of func196 (by kernel_rfl) rfl
theorem BM (l:List a6) (h:l.length<=1073741824):ep prog 196 (fun v=>[v]) (.s [.c]) (.list true (l.map aT)) (fun e r=>e = .list true ((qC l).1.map aT)/\r = .tup []):=ep.sort (by omega) (fun blk off cap w hH hb=>Tryz.slices_Sort_string blk off cap l w hH hb (by omega)) (fun w=>(Tryz.slices_Sort_string_none none 0 w).mono (by rintro e w' ⟨h1,h2⟩;exact⟨h1,h2 ▸ Go.RowKit.Below.refl _ _⟩))
end Go.Ab.Vg
namespace Go.Ab.Vg
open Go.Proofs
set_option maxRecDepth 100000
end Go.Ab.Vg
namespace Go.Ab.Vg
open Go.Proofs
set_option maxRecDepth 100000
attribute [local simp] aT
theorem IA:a8 prog 195:=a8.of func195 (by kernel_rfl) rfl
theorem Be (s:List a6) (Z:(List a6)->Prop) (h:ov s Z):bn prog 195 [.list false (s.map aT)] (.s [.c]) (fun r=>∃ y:List a6,Z y/\r = .list true (y.map aT)):=by
 unfold ov at h;have M:Sep bx 0 [] []:=Sep.nil (by simp);refine bn.of func195 rfl ntmps195 (by simp) fun Q hQ=>?_
 refine J.cut (fun O H n=>O 0 = .list false (s.map aT)/\Sep H n [] []) (by refine⟨by simp ,M⟩) ?_;rintro O H U ⟨E,M⟩;refine zE fun _ V=>?_
 simp[E];apply V;refine zS fun _ V=>?_
 simp[E];refine bX.isNil (fr:=false) (els:=s.map aT) aB (by decide) (by decide) bY (by simp[E]) (by simp[E]) ?_;rintro c2 hc3;replace h:=h c2 (fun hq=>by simpa using hc3 hq);simp[E];apply V;refine J.ite (b:=c2) (by simp[E]) (fun dc2=>?_) (fun dc2=>?_)
 ·replace h:=h.1 dc2;refine zE fun _ V=>?_
  simp[E,dc2];apply V;exact J.bj (v:=.v (.slice none 0 0)) func195 results195 (by simp[E,dc2]) (hQ _ _ _ _ (Sep.sub (dn:=[]) (Sep.cY M) (by simp)) ⟨[],h,rfl⟩)
 replace h:=h.2 dc2;apply J.skip;refine zE fun _ V=>?_
 obtain⟨hb6,h⟩:=h;obtain⟨l7,el7,h⟩:=aE h;simp[E,dc2,-bb];refine ff (s.map aT) (Sep.addEmpty (l:=[.c]) M) (by simp) bY (by simp) (by simp) (by simp[cb]) (by simp[-aH,bc]) (by simpa using hb6) ?_;rintro v8 H9 n10 M d e;replace M:Sep H9 n10 [oS v8 l7] []:=by refine Sep.ap el7 ?_;exact M
 simp[E,dc2];apply V;refine J.cut (fun O H n=>∃ (a:au),O 2=a/\Sep H n [oS a l7] []) (by refine⟨v8,by simp[E,dc2],M⟩) ?_;clear E;rintro O H n15 ⟨a,E,M⟩;exact J.bj (v:=a) func195 results195 (by simp[E]) (hQ _ _ _ _ (Sep.sub (dn:=[]) M (by simp)) ⟨l7,h,rfl⟩)
theorem oA (s:List a6) (hp:mJ s):bn prog 195 [.list false (s.map aT)] (.s [.c]) (fun r=>r = .list true ((rE s).map aT)):=(Be s _ (Fa s hp)).mono (by rintro _ ⟨_,rfl,rfl⟩;rfl)
theorem e197:a8 prog 197:=a8.of func197 (by kernel_rfl) rfl
theorem vw (l:List a6) (h:l.length<=1073741824):qe prog 197 (fun v=>[v]) (.s [.c]) (.list true (l.map aT)) (.s [.c]) (fun e=>e = .list true ((kZ l).map aT)):=qe.compact (tD l) (fun blk off cap w hH hc=>Tryz.slices_Compact_string blk off cap l w hH (by omega) hc) (fun _ w=>Tryz.slices_Compact_string_empty none 0 w)
theorem e156:a8 prog 156:=a8.of func156 (by kernel_rfl) rfl
theorem q6 (l:List a6) (Z:(List a6)->Prop) (h:gp l Z):bn prog 156 [.list false (l.map aT)] (.s [.c]) (fun r=>∃ y:List a6,Z y/\r = .list true (y.map aT)):=by
 unfold gp at h;have M:Sep bx 0 [] []:=Sep.nil (by simp);refine bn.of func156 rfl ntmps156 (by simp) fun Q hQ=>?_
 refine J.cut (fun O H n=>O 0 = .list false (l.map aT)/\Sep H n [] []) (by refine⟨by simp ,M⟩) ?_;rintro O H U ⟨E,M⟩;refine zE fun _ V=>?_
 simp[E];apply V;refine zE fun _ V=>?_
 obtain⟨hb2,h⟩:=h;obtain⟨r3,er3,h⟩:=aE h;simp[E];refine zW (oA l hb2) IA (.cons (o5 false l) .nil) M (by simp[E]) ?_;rintro v4 H5 n6 _ M rfl hle8 hfr7;rw[<- er3] at M;simp[E];apply V;refine J.cut (fun O H n=>∃ (v11:au),O 3=v11/\Sep H n [oS v11 r3] []) (by refine⟨v4,by simp[E],M⟩) ?_;clear E;rintro O H n12 ⟨v11,E,M⟩;refine zE fun _ V=>?_
 obtain⟨d,h⟩:=h;obtain⟨a,e,h⟩:=aE h;have f15:=Sep.oc M;simp[E,f15,-az,-aH,bq,bc];refine bX.jK (v:=v11) aB (BM r3 d) e196 M (by decide) (by decide) rfl (by simp[E,f15,-az,-aH,bq,bc]) ?_;rintro _ g n17 _ ⟨rfl,rfl⟩ M p q;rw[<- e] at M;replace M:Sep g n17 [oS v11 a.1] []:=M;simp[E,f15,-az,-aH,bq,bc];apply V;refine J.cut (fun O H n=>∃ (v21:au),O 3=v21/\Sep H n [oS v21 a.1] []) (by refine⟨v11,by simp[E,f15,-az,-aH,bq,bc],M⟩) ?_;clear E;rintro O H n22 ⟨v21,E,M⟩;refine zE fun _ V=>?_
 obtain⟨i,h⟩:=h;obtain⟨b,j,h⟩:=aE h;simp[E];refine bX.HK (v:=v21) aB (vw a.1 i) e197 M (by decide) (by decide) rfl (by simp[E]) ?_;rintro v25 o n27 _ rfl M t u;rw[<- j] at M;replace M:Sep o n27 [oS v25 b] []:=M;simp[E];apply V;refine J.cut (fun O H n=>∃ (v32:au),O 2=v32/\Sep H n [oS v32 b] []) (by refine⟨v25,by simp[E],M⟩) ?_;clear E;rintro O H n33 ⟨v32,E,M⟩;exact J.bj (v:=v32) func156 results156 (by simp[E]) (hQ _ _ _ _ (Sep.sub (dn:=[]) M (by simp)) ⟨b,h,rfl⟩)
theorem uA (l:List a6) (hp:iE l):bn prog 156 [.list false (l.map aT)] (.s [.c]) (fun r=>r = .list true ((bQ l).map aT)):=(q6 l _ (tA l hp)).mono (by rintro _ ⟨_,rfl,rfl⟩;rfl)
theorem e157:a8 prog 157:=a8.of func157 (by kernel_rfl) rfl
theorem Ae (s:List a6) (v_:a6) (Z:Int->Prop) (h:od s v_ Z):aF prog 157 [.list false (s.map aT),str v_] (fun r=>∃ y:Int,Z y/\r=int y):=by
 unfold od at h;refine aF.of func157 rfl ntmps157 (by simp) fun Q hQ=>?_
 refine J.cut (fun O H n=>(O 0 = .list false (s.map aT)/\O 1=str v_)) (by simp) ?_;rintro O H U E;refine zE fun _ V=>?_
 simp[E];apply V;refine zS fun _ V=>?_
 obtain⟨cJ,elen2,h⟩:=aE h;have f3:=fun H=>aN (H:=H) (fr:=false) (f:=aT) bY elen2
 simp[E,f3,-aZ];apply V;apply J.block;refine J.aI h (fun (sJ:Int) O H n=>match sJ with | v6=>(O 0 = .list false (s.map aT)/\O 1=str v_/\O 7=int cJ/\O 8=int v6)) (by simp[E]) ?_;clear E;rintro v6 O H n7 K h E IH8;refine zE fun _ V=>?_
 obtain⟨d,e,h⟩:=aE h;have f11:=aX (k:=.i64) e;simp[E,f11,-aw];apply V;apply J.seq;refine J.ite (b:=d) (by simp[E]) (fun a=>?_) (fun a=>?_)
 ·replace h:=h.1 a;apply zK;apply J.block;refine zE fun _ V=>?_
  simp[E,a];apply V;refine zE fun _ V=>?_
  obtain⟨g,h⟩:=h;obtain⟨t,i,h⟩:=aE h;have f14:=fun H=>aO (H:=H) (fr:=false) (f:=aT) (k:=.i64) bY (fun _=>rfl) g i
  obtain⟨j,l,h⟩:=aE h;have f16:=Hp l;simp[E,f14,f16,a,-av,-ei];apply V;refine J.ite (b:=j) (by simp[E,a]) (fun c=>?_) (fun c=>?_)
  ·replace h:=h.1 c;refine zE fun _ V=>?_
   simp[E,a,c];apply V;exact J.bj (v:=int v6) func157 results157 (by simp[E,a,c]) (hQ _ _ _ _ (.of (.v _)) ⟨v6,h,rfl⟩)
  replace h:=h.2 c;apply J.skip;refine zI fun _ V=>?_
  obtain⟨o,h⟩:=h;obtain⟨p,q,h⟩:=aE h;have f19:=aR o q;simp[E,f19,a,c,-aw];apply V;refine IH8 (p) _ _ _ h (by simp[E,a,c])
 replace h:=h.2 a;refine J.exit rfl ?_;refine zE fun _ V=>?_
 simp[E,a];apply V;exact J.bj (v:=int (-1)) func157 results157 (by simp[E,a]) (hQ _ _ _ _ (.of (.v _)) ⟨(-1),h,rfl⟩)
theorem wv (s:List a6) (v_:a6) (hp:jH s v_):aF prog 157 [.list false (s.map aT),str v_] (fun r=>r=int (eJ s v_)):=(Ae s v_ _ (Ei s v_ hp)).mono (by rintro _ ⟨_,rfl,rfl⟩;rfl)
theorem e136:a8 prog 136:=a8.of func136 (by kernel_rfl) rfl
theorem El (list:List a6) (name:a6) (Z:Int->Prop) (h:tc list name Z):aF prog 136 [.list false (list.map aT),str name] (fun r=>∃ y:Int,Z y/\r=int y):=by
 unfold tc at h;refine aF.of func136 rfl ntmps136 (by simp) fun Q hQ=>?_
 refine J.cut (fun O H n=>(O 0 = .list false (list.map aT)/\O 1=str name)) (by simp) ?_;rintro O H U E;refine zE fun _ V=>?_
 simp[E];apply V;refine zS fun _ V=>?_
 simp[E];apply V;apply J.block;refine J.aI h (fun (sJ:Int) O H n=>match sJ with | i4=>(O 0 = .list false (list.map aT)/\O 1=str name/\O 5=int i4)) (by simp[E]) ?_;clear E;rintro i4 O H n5 K h E IH6;refine zS fun _ V=>?_
 obtain⟨len8,elen8,h⟩:=aE h;have f9:=fun H=>aN (H:=H) (fr:=false) (f:=aT) bY elen8
 obtain⟨d,e,h⟩:=aE h;have f11:=aX (k:=.i64) e;simp[E,f9,f11,-aw,-aZ];apply V;refine J.ite (b:=d) (by simp[E]) (fun a=>?_) (fun a=>?_)
 ·replace h:=h.1 a;apply zK;apply J.block;refine zE fun _ V=>?_
  obtain⟨g,h⟩:=h;obtain⟨t,i,h⟩:=aE h;have f14:=fun H=>aO (H:=H) (fr:=false) (f:=aT) (k:=.i64) bY (fun _=>rfl) g i
  obtain⟨j,l,h⟩:=aE h;have f16:=Hp l;simp[E,f14,f16,a,-av,-ei];apply V;refine J.ite (b:=j) (by simp[E,a]) (fun c=>?_) (fun c=>?_)
  ·replace h:=h.1 c;refine zE fun _ V=>?_
   simp[E,a,c];apply V;exact J.bj (v:=int i4) func136 results136 (by simp[E,a,c]) (hQ _ _ _ _ (.of (.v _)) ⟨i4,h,rfl⟩)
  replace h:=h.2 c;apply J.skip;refine zI fun _ V=>?_
  obtain⟨o,h⟩:=h;obtain⟨p,q,h⟩:=aE h;have f19:=aR o q;simp[E,f19,a,c,-aw];apply V;refine IH6 (p) _ _ _ h (by simp[E,a,c])
 replace h:=h.2 a;refine J.exit rfl ?_;refine zE fun _ V=>?_
 simp[E,a];apply V;exact J.bj (v:=int (-1)) func136 results136 (by simp[E,a]) (hQ _ _ _ _ (.of (.v _)) ⟨(-1),h,rfl⟩)
theorem IE (list:List a6) (name:a6) (hp:qP list name):aF prog 136 [.list false (list.map aT),str name] (fun r=>r=int (Ip list name)):=(El list name _ (Iy list name hp)).mono (by rintro _ ⟨_,rfl,rfl⟩;rfl)
end Go.Ab.Vg
namespace Go.Ab.Vg
open Go.Proofs
set_option maxRecDepth 100000
attribute [local simp] Control.cells ay.cells aD.cells aA cp gL aT bC mC pA
theorem e41:a8 prog 41:=a8.of func41 (by kernel_rfl) rfl
theorem C0 (l:List Int) (h:l.length<=1073741824):ep prog 41 (fun v=>[v]) (.s [.c]) (.list true (l.map aA)) (fun e r=>e = .list true ((lE l).1.map aA)/\r = .tup []):=ep.sortI (by omega) (fun blk off cap w hH hb=>Tryz.slices_Sort_int blk off cap l w hH hb (by omega)) (fun w=>(Tryz.slices_Sort_int_none none 0 w).mono (by rintro e w' ⟨h1,h2⟩;exact⟨h1,h2 ▸ Go.RowKit.Below.refl _ _⟩))
theorem e152:a8 prog 152:=a8.of func152 (by kernel_rfl) rfl
theorem vt (l:List Int) (h:l.length<=1073741824):qe prog 152 (fun v=>[v]) (.s [.c]) (.list true (l.map aA)) (.s [.c]) (fun e=>e = .list true ((gm l).map aA)):=qe.He (sn l) (fun blk off cap w hH hc=>Tryz.slices_Compact_int blk off cap l w hH (by omega) hc) (fun _ w=>Tryz.slices_Compact_int_empty none 0 w)
theorem e153:a8 prog 153:=a8.of func153 (by kernel_rfl) rfl
theorem AF (s:List a6) (v_:a6) (Z:Bool->Prop) (h:oe s v_ Z):aF prog 153 [.list false (s.map aT),str v_] (fun r=>∃ y:Bool,Z y/\r=bool y):=by
 unfold oe at h;refine aF.of func153 rfl ntmps153 (by simp) fun Q hQ=>?_
 refine J.cut (fun O H n=>(O 0 = .list false (s.map aT)/\O 1=str v_)) (by simp) ?_;rintro O H U E;refine zE fun _ V=>?_
 simp[E];apply V;refine zE fun _ V=>?_
 obtain⟨hb2,h⟩:=h;obtain⟨r3,er3,h⟩:=aE h;simp[E];refine zA (wv s v_ hb2) e157 (.cons (o5 false s) (.cons (.v _ _ _) .nil)) (by simp[E]) ?_;rintro _ rfl;rw[<- er3];obtain⟨c4,ec4,h⟩:=aE h;have f5:=kK (k:=.i64) ec4;simp[E,f5,-aw];apply V;exact J.bj (v:=bool c4) func153 results153 (by simp[E]) (hQ _ _ _ _ (.of (.v _)) ⟨c4,h,rfl⟩)
theorem E4 (s:List a6) (v_:a6) (hp:mf s v_):aF prog 153 [.list false (s.map aT),str v_] (fun r=>r=bool (wZ s v_)):=(AF s v_ _ (FW s v_ hp)).mono (by rintro _ ⟨_,rfl,rfl⟩;rfl)
theorem e92:a8 prog 92:=a8.of func92 (by kernel_rfl) rfl
theorem re (ar:aG) (I:aG) (m:Match) (Z:((List Int) × (List a6) × Bool)->Prop) (h:gl ar I m Z):bn prog 92 [.agg (bC false ar),.agg (bC false I),.agg (mC false m)] (.t [.s [.c],.s [.c],.c]) (fun r=>∃ y:(List Int) × (List a6) × Bool,Z y/\r = .tup [.list true (y.1.map aA),.list true (y.2.1.map aT),bool y.2.2]):=by
 unfold gl at h;have M:Sep bx 0 [] []:=Sep.nil (by simp);refine bn.of func92 rfl ntmps92 (by simp) fun Q hQ=>?_
 refine J.cut (fun O H n=>(O 0 = .agg (bC false ar)/\O 1 = .agg (bC false I)/\O 2 = .agg (mC false m))/\Sep H n [] []) (by refine⟨by simp ,M⟩) ?_;rintro O H U ⟨E,M⟩;refine zE fun _ V=>?_
 simp[E];apply V;refine J.cut (fun O H n=>((O 3=pA U 3/\O 4=pA (U+1) 4/\O 5=pA (U+2) 5)/\H (U,3)=some ⟨6,[bC false ar]⟩/\H (U+1,4)=some ⟨6,[bC false I]⟩/\H (U+2,5)=some ⟨2,[mC false m]⟩)/\Sep H n [] [(U+2,5),(U+1,4),(U,3)]) (by refine⟨by simp[E],M.var.var.var⟩) ?_;clear E;rintro O H n5 ⟨⟨E,d,e,p⟩,M⟩;refine zE fun _ V=>?_
 simp[E,d,e,p];apply V;refine J.cut (fun O H n=>∃ (v8 v9:au),((O 3=pA U 3/\O 4=pA (U+1) 4/\O 5=pA (U+2) 5/\O 9=v9/\O 10=v8)/\H (U,3)=some ⟨6,[bC false ar]⟩/\H (U+1,4)=some ⟨6,[bC false I]⟩/\H (U+2,5)=some ⟨2,[mC false m]⟩)/\Sep H n [oS v8 ([]:List a6),oI v9 ([]:List Int)] [(U+2,5),(U+1,4),(U,3)]) (by refine⟨.arr (n5+1,16) 0 0 0,.arr (n5,15) 0 0 0,by simp[E,d,e,p],(Sep.addEmpty (l:=[.c]) (Sep.addEmpty (l:=[.c]) M))⟩) ?_;clear E d e p;rintro O H n10 ⟨v8,v9,⟨E,d,e,p⟩,M⟩;refine zS fun _ V=>?_
 obtain⟨bi,h⟩:=h;obtain⟨j,bk,h⟩:=aE h;simp[E,d,e,p];refine zW (tT I m bi) e151 (.cons (bB false I) (.cons (fY false m) .nil)) M (by simp[E,d,e,p]) ?_;rintro bs e3 n15 _ M rfl e4 ab;rw[<- bk] at M;have d:=(ab _ (by simp)).trans d;have e:=(ab _ (by simp)).trans e;have p:=(ab _ (by simp)).trans p;obtain⟨F,bv,h⟩:=aE h;have f21:=dY (Sep.len (m:=F) M aV (by rw[bv,List.length_map]));simp[E,d,e,p,f21,-aZ];apply V;refine J.cut (fun O H n=>∃ (v22 v23 v24:au),((O 3=pA U 3/\O 4=pA (U+1) 4/\O 9=v24/\O 10=v23/\O 19=v22/\O 20=int F/\O 21=int 0)/\H (U,3)=some ⟨6,[bC false ar]⟩/\H (U+1,4)=some ⟨6,[bC false I]⟩)/\Sep H n [oI v22 j,oS v23 ([]:List a6),oI v24 ([]:List Int)] [(U+1,4),(U,3)]) (by refine⟨bs,v8,v9,by simp[E,d,e,p,f21,-aZ],(Sep.sub M (by simp +contextual))⟩) ?_;clear E d e p;rintro O H n25 ⟨v22,v23,v24,⟨E,d,e⟩,M⟩;apply J.block;refine J.aI h (fun (sJ:Int × (List Int)) O H n=>match sJ with | (v37,ac)=>∃ (v39 v40 v41:au),((O 3=pA U 3/\O 4=pA (U+1) 4/\O 9=v41/\O 10=v40/\O 19=v39/\O 20=int F/\O 21=int v37)/\H (U,3)=some ⟨6,[bC false ar]⟩/\H (U+1,4)=some ⟨6,[bC false I]⟩)/\Sep H n [oI v39 j,oS v40 ([]:List a6),oI v41 ac] [(U+1,4),(U,3)]) (by refine⟨v22,v23,v24,by simp[E,d,e],M⟩) ?_;clear E d e;rintro⟨v37,ac⟩ O H n42 K h ⟨v39,v40,v41,⟨E,d,e⟩,M⟩ b0;refine zE fun _ V=>?_
 obtain⟨b1,b2,h⟩:=aE h;have f46:=aX (k:=.i64) b2;simp[E,d,e,f46,-aw];apply V;apply J.seq;refine J.ite (b:=b1) (by simp[E,d,e]) (fun u=>?_) (fun u=>?_)
 ·replace h:=h.1 u;apply zK;apply J.block;refine zE fun _ V=>?_
  obtain⟨ad,h⟩:=h;obtain⟨af,hv,a3,e5,B⟩:=Sep.eh M (by simp) ad;subst hv;simp at B;obtain⟨e6,b3,h⟩:=aE h;have f53:=fun H (hm:H af=some ⟨1,j.map aA⟩)=>ct (H:=H) (k:=.i64) (off:=0) (len:=j.length) (g:=j.length) aV hm (by simp) rfl ad
  have f54:=b6 (q:=v37.toNat) ad b3 rfl;simp[E,d,e,a3,B,f53,f54,u,-av];apply V;refine zF fun _ V=>?_
  obtain⟨b5,h⟩:=h;obtain⟨b7,b8,h⟩:=aE h;have f57:=fun H=>aO (H:=H) (fr:=false) (f:=(ay.cells false)) (k:=.i64) bH (fun _=>rfl) b5 b8
  obtain⟨b9,h⟩:=h;obtain⟨am,cc,h⟩:=aE h;simp[E,d,e,a3,B,f57,u,-av,-bb];refine ff (b7.links.map aA) M.f2 (by simp) aV (by simp) (by simp) (by simp[cb]) (by simp[-aH,bc]) (by simpa using b9) ?_;rintro v60 ce n62 M a4 e8;replace M:Sep ce n62 [oI v60 am,oI (.arr af j.length 0 j.length) j,oS v40 ([]:List a6)] [(U+1,4),(U,3)]:=by refine Sep.ap cc ?_;exact M
  have d:=(a4 _ (by simp)).trans d;have e:=(a4 _ (by simp)).trans e;simp[E,d,e,B,f57,u,-av];apply V;refine J.cut (fun O H n=>∃ (v66 v67 G:au),((O 3=pA U 3/\O 4=pA (U+1) 4/\O 9=v66/\O 10=G/\O 19=v67/\O 20=int F/\O 21=int v37)/\H (U,3)=some ⟨6,[bC false ar]⟩/\H (U+1,4)=some ⟨6,[bC false I]⟩)/\Sep H n [oI v66 am,oI v67 j,oS G ([]:List a6)] [(U+1,4),(U,3)]) (by refine⟨v60,.arr af j.length 0 j.length,v40,by simp[E,d,e,B,f57,u,-av],M⟩) ?_;clear E d e B;rintro O H n69 ⟨v66,v67,G,⟨E,d,e⟩,M⟩;refine zI fun _ V=>?_
  obtain⟨ci,h⟩:=h;obtain⟨cj,ck,h⟩:=aE h;have f72:=aR ci ck;simp[E,d,e,f72,-aw];apply V;refine b0 (cj,am) _ _ _ h (by refine⟨v67,G,v66,by simp[E,d,e],M.f2.f2⟩)
 replace h:=h.2 u;refine J.exit rfl ?_;refine zE fun _ V=>?_
 obtain⟨cl,h⟩:=h;obtain⟨ao,co,h⟩:=aE h;have f75:=Sep.oc M.f2;simp[E,d,e,f75,u,-az,-aH,bq,bc];refine bX.jK (v:=v41) aB (C0 ac cl) e41 M.f2 (by decide) (by decide) rfl (by simp[E,d,e,f75,u,-az,-aH,bq,bc]) ?_;rintro _ cs c0 _ ⟨rfl,rfl⟩ M e9 a5;rw[<- co] at M;replace M:Sep cs c0 [oI v41 ao.1,oI v39 j,oS v40 ([]:List a6)] [(U+1,4),(U,3)]:=M;have d:=(a5 _ (by simp)).trans d;have e:=(a5 _ (by simp)).trans e;simp[E,d,e,f75,u,-az,-aH,bq,bc];apply V;refine J.cut (fun O H n=>∃ (L v82:au),((O 3=pA U 3/\O 9=L/\O 10=v82)/\H (U,3)=some ⟨6,[bC false ar]⟩)/\Sep H n [oI L ao.1,oS v82 ([]:List a6)] [(U,3)]) (by refine⟨v41,v40,by simp[E,d,e,f75,u,-az,-aH,bq,bc],(Sep.sub M.f1.dr (by simp +contextual))⟩) ?_;clear E d e;rintro O H fd ⟨L,v82,⟨E,d⟩,M⟩;refine zE fun _ V=>?_
 obtain⟨c1,h⟩:=h;obtain⟨A,c2,h⟩:=aE h;simp[E,d];refine bX.HK (v:=L) aB (vt ao.1 c1) e152 M (by decide) (by decide) rfl (by simp[E,d]) ?_;rintro a9 c3 c4 _ rfl M fl c6;rw[<- c2] at M;replace M:Sep c3 c4 [oI a9 A,oS v82 ([]:List a6)] [(U,3)]:=M;have d:=(c6 _ (by simp)).trans d;simp[E,d];apply V;refine J.cut (fun O H n=>∃ (v93 N:au),((O 3=pA U 3/\O 9=v93/\O 10=N)/\H (U,3)=some ⟨6,[bC false ar]⟩)/\Sep H n [oI v93 A,oS N ([]:List a6)] [(U,3)]) (by refine⟨a9,v82,by simp[E,d],M⟩) ?_;clear E d;rintro O H fn ⟨v93,N,⟨E,d⟩,M⟩;refine zS fun _ V=>?_
 simp[E,d];apply V;apply J.block;refine J.aI h (fun (sJ:Int × (List a6)) O H n=>match sJ with | (R,C)=>∃ (v107 D:au),((O 3=pA U 3/\O 9=v107/\O 10=D/\O 13 = .v (.int .i32 R))/\H (U,3)=some ⟨6,[bC false ar]⟩)/\Sep H n [oI v107 A,oS D C] [(U,3)]) (by refine⟨v93,N,by simp[E,d],M⟩) ?_;clear E d;rintro⟨R,C⟩ O H n109 K h ⟨v107,D,⟨E,d⟩,M⟩ bd;refine zS fun _ V=>?_
 obtain⟨c8,c9,h⟩:=aE h;have f113:=dY (Sep.len (m:=c8) M.f1 bY (by rw[c9,List.length_map]));obtain⟨da,dc,h⟩:=aE h;have f115:=dY (Sep.len (m:=da) M aV (by rw[dc,List.length_map]));obtain⟨dl,ds,h⟩:=aE h;have f117:=aX (k:=.i64) ds;simp[E,d,f113,f115,f117,-aw,-aZ];apply V;refine J.ite (b:=dl) (by simp[E,d]) (fun i=>?_) (fun i=>?_)
 ·replace h:=h.1 i;apply zK;apply J.block;refine zE fun _ V=>?_
  simp[E,d,i];refine bX.gJ (k1:=.i32) (a:=R) aB (by decide) (by decide) IS HX (by simp[E,d,i]) ?_;obtain⟨fo,d0,h⟩:=aE h;rw[<- d0];obtain⟨d1,h⟩:=h;obtain⟨aM,d2,h⟩:=aE h;have f121:=Gs d1 d2;simp[E,d,f121,i,-ei];apply V;refine zE fun _ V=>?_
  obtain⟨d3,h⟩:=h;obtain⟨a0,d4,h⟩:=aE h;simp[E,d,i];refine zA (E4 ar.outer aM d3) e153 (.cons (o5 false ar.outer) (.cons (.v _ _ _) .nil)) (by simp[E,d,i]) ?_;rintro _ rfl;rw[<- d4];simp[E,d,i];apply V;refine J.ite (b:=(!a0)) (by simp[E,d,i]) (fun o=>?_) (fun o=>?_)
  ·have o:a0=false:=by simpa using o
   replace h:=h.2 o;refine zF fun _ V=>?_
   obtain⟨d5,h⟩:=h;obtain⟨a1,d6,h⟩:=aE h;simp[E,d,i,o,-bb];refine bf [] [oI v107 A] [[str aM]] [aT aM] M.f1 bY (by simp) (by simp) (by simp) (by simp[-aH,bc]) (bo (aK.v _ aK.nil)) (by simp) (by simpa using d5) ?_;rintro be d7 n128 M d8 fs;replace M:Sep d7 n128 [oS be a1,oI v107 A] [(U,3)]:=Sep.ap d6 M;have d:=(d8 _ (by simp)).trans d;simp[E,d,i,o];apply V;refine J.cut (fun O H n=>∃ (T W:au),((O 3=pA U 3/\O 9=W/\O 10=T/\O 13 = .v (.int .i32 R))/\H (U,3)=some ⟨6,[bC false ar]⟩)/\Sep H n [oS T a1,oI W A] [(U,3)]) (by refine⟨be,v107,by simp[E,d,i,o],M⟩) ?_;clear E d;rintro O H n134 ⟨T,W,⟨E,d⟩,M⟩;refine zI fun _ V=>?_
   obtain⟨d9,h⟩:=h;obtain⟨eg,el,h⟩:=aE h;have f137:=zc d9 el;simp[E,d,f137,-aw];apply V;refine bd (eg,a1) _ _ _ h (by refine⟨W,T,by simp[E,d],M.f1⟩)
  have o:a0=true:=by simpa using o
  replace h:=h.1 o;apply J.skip;refine zI fun _ V=>?_
  obtain⟨em,h⟩:=h;obtain⟨v139,es,h⟩:=aE h;have f140:=zc em es;simp[E,d,f140,i,o,-aw];apply V;refine J.cut (fun O H n=>∃ (v141 X:au),((O 3=pA U 3/\O 9=v141/\O 10=X/\O 13 = .v (.int .i32 v139))/\H (U,3)=some ⟨6,[bC false ar]⟩)/\Sep H n [oI v141 A,oS X C] [(U,3)]) (by refine⟨v107,D,by simp[E,d,f140,i,o,-aw],M⟩) ?_;clear E d;rintro O H n143 ⟨v141,X,⟨E,d⟩,M⟩;refine bd (v139,C) _ _ _ h (by refine⟨v141,X,by simp[E,d],M⟩)
 replace h:=h.2 i;refine J.exit rfl ?_;refine J.fC aB aP bZ (by decide) (by kernel_rfl) fun _ V=>?_
 obtain⟨ev,ex,h⟩:=aE h;have f145:=dY (Sep.len (m:=ev) M aV (by rw[ex,List.length_map]));obtain⟨fv,ey,h⟩:=aE h;have f147:=fun H=>aN (H:=H) (fr:=false) (f:=aT) bY ey
 obtain⟨e0,h⟩:=h;obtain⟨fx,e1,h⟩:=aE h;have f150:=aR e0 e1;obtain⟨a2,e2,h⟩:=aE h;have f152:=ib_leq (k:=.i64) e2;simp[E,d,f145,f147,f150,f152,i,-aw,-aZ];apply V;refine J.cut (fun O H n=>∃ (Y v154:au),(O 6=Y/\O 7=v154/\O 8=bool a2)/\Sep H n [oI Y A,oS v154 C] []) (by refine⟨v107,D,by simp[E,d,f145,f147,f150,f152,i,-aw,-aZ],(Sep.sub M (by simp +contextual))⟩) ?_;clear E d;rintro O H n155 ⟨Y,v154,E,M⟩;exact J.Hm (v:=Y) (w:=v154) (z:=bool a2) func92 results92 (by simp[E]) (by simp[E]) (by simp[E]) (hQ _ _ _ _ (Sep.sub (dn:=[]) (Sep.gH (aK.own (aK.own (aK.v _ aK.nil))) M) (by simp)) ⟨(A,C,a2),h,rfl⟩)
theorem uo (ar:aG) (I:aG) (m:Match) (hp:eD ar I m):bn prog 92 [.agg (bC false ar),.agg (bC false I),.agg (mC false m)] (.t [.s [.c],.s [.c],.c]) (fun r=>r = .tup [.list true (((eU ar I m).1).map aA),.list true (((eU ar I m).2.1).map aT),bool ((eU ar I m).2.2)]):=(re ar I m _ (ur ar I m hp)).mono (by rintro _ ⟨_,rfl,rfl⟩;rfl)
theorem e133:a8 prog 133:=a8.of func133 (by kernel_rfl) rfl
theorem rb (I:aG) (m:Match) (Z:(List Bool)->Prop) (h:fZ I m Z):bn prog 133 [.agg (bC false I),.agg (mC false m)] (.s [.c]) (fun r=>∃ y:List Bool,Z y/\r = .list true (y.map aC)):=by
 unfold fZ at h;have M:Sep bx 0 [] []:=Sep.nil (by simp);refine bn.of func133 rfl ntmps133 (by simp) fun Q hQ=>?_
 refine J.cut (fun O H n=>(O 0 = .agg (bC false I)/\O 1 = .agg (mC false m))/\Sep H n [] []) (by refine⟨by simp ,M⟩) ?_;rintro O H U ⟨E,M⟩;refine zE fun _ V=>?_
 simp[E];apply V;refine J.cut (fun O H n=>((O 2=pA U 2/\O 3=pA (U+1) 3)/\H (U,2)=some ⟨6,[bC false I]⟩/\H (U+1,3)=some ⟨2,[mC false m]⟩)/\Sep H n [] [(U+1,3),(U,2)]) (by refine⟨by simp[E],M.var.var⟩) ?_;clear E;rintro O H n4 ⟨⟨E,a,d⟩,M⟩;refine zE fun _ V=>?_
 simp[E,a,d,aC];apply V;refine J.cut (fun O H n=>∃ (v6:au),((O 2=pA U 2/\O 3=pA (U+1) 3/\O 5=v6)/\H (U,2)=some ⟨6,[bC false I]⟩/\H (U+1,3)=some ⟨2,[mC false m]⟩)/\Sep H n [oE [.c] aC v6 ([]:List Bool)] [(U+1,3),(U,2)]) (by refine⟨.arr (n4,7) 0 0 0,by simp[E,a,d,aC],(Sep.addEmpty (l:=[.c]) M)⟩) ?_;clear E a d;rintro O H n7 ⟨v6,⟨E,a,d⟩,M⟩;refine zS fun _ V=>?_
 simp[E,a,d,aC];apply V;apply J.block;refine J.aI h (fun (sJ:Int × (List Bool)) O H n=>match sJ with | (i15,i)=>∃ (v17:au),((O 2=pA U 2/\O 3=pA (U+1) 3/\O 5=v17/\O 6=int i15)/\H (U,2)=some ⟨6,[bC false I]⟩/\H (U+1,3)=some ⟨2,[mC false m]⟩)/\Sep H n [oE [.c] aC v17 i] [(U+1,3),(U,2)]) (by refine⟨v6,by simp[E,a,d,aC],M⟩) ?_;clear E a d;rintro⟨i15,i⟩ O H n18 K h ⟨v17,⟨E,a,d⟩,M⟩ p;refine zS fun _ V=>?_
 obtain⟨a0,B,h⟩:=aE h;have f22:=fun H=>aN (H:=H) (fr:=false) (f:=(ay.cells false)) bH B
 obtain⟨C,D,h⟩:=aE h;have f24:=aX (k:=.i64) D;simp[E,a,d,f22,f24,aC,-aw,-aZ];apply V;refine J.ite (b:=C) (by simp[E,a,d,aC]) (fun e=>?_) (fun e=>?_)
 ·replace h:=h.1 e;apply zK;apply J.block;refine zF fun _ V=>?_
  obtain⟨F,h⟩:=h;obtain⟨G,L,h⟩:=aE h;simp[E,a,d,e,aC];refine zA (lB m.nodes i15 F) e85 (.cons (ef false m.nodes) (.cons (.v _ _ _) .nil)) (by simp[E,a,d,e,aC]) ?_;rintro _ rfl;rw[<- L];rcases Bool.eq_false_or_eq_true G with g | g
  ·replace h:=h.1 g;obtain⟨N,h⟩:=h;obtain⟨j,R,h⟩:=aE h;simp[E,a,d,e,g,aC,-bb];refine bf [] [] [[bool false]] [aC false] M nC (by simp) (by simp) (by simp[aC]) (by simp[-aH,bc]) (bo (aK.v _ aK.nil)) (by simp) (by simpa using N) ?_;rintro q T n31 M t a1;replace M:Sep T n31 [oE [.c] aC q j] [(U+1,3),(U,2)]:=Sep.ap R M;have a:=(t _ (by simp)).trans a;have d:=(t _ (by simp)).trans d;simp[E,a,d,e,g,aC];apply V;refine J.cut (fun O H n=>∃ (v35:au),((O 2=pA U 2/\O 3=pA (U+1) 3/\O 5=v35/\O 6=int i15)/\H (U,2)=some ⟨6,[bC false I]⟩/\H (U+1,3)=some ⟨2,[mC false m]⟩)/\Sep H n [oE [.c] aC v35 j] [(U+1,3),(U,2)]) (by refine⟨q,by simp[E,a,d,e,g,aC],M⟩) ?_;clear E a d;rintro O H n36 ⟨v35,⟨E,a,d⟩,M⟩;refine zI fun _ V=>?_
   obtain⟨W,h⟩:=h;obtain⟨X,Y,h⟩:=aE h;have f39:=aR W Y;simp[E,a,d,f39,aC,-aw];apply V;refine p (X,j) _ _ _ h (by refine⟨v35,by simp[E,a,d,aC],M⟩)
  replace h:=h.2 g;obtain⟨ab,h⟩:=h;obtain⟨u,ac,h⟩:=aE h;simp[E,a,d,e,g,aC];refine zA (nE I m i15 ab) e87 (.cons (bB false I) (.cons (fY false m) (.cons (.v _ _ _) .nil))) (by simp[E,a,d,e,g,aC]) ?_;rintro _ rfl;rw[<- ac];obtain⟨ad,h⟩:=h;obtain⟨o,af,h⟩:=aE h;simp[E,a,d,e,g,aC,-bb];refine bf [] [] [[bool u]] [aC u] M nC (by simp) (by simp) (by simp[aC]) (by simp[-aH,bc]) (bo (aK.v _ aK.nil)) (by simp) (by simpa using ad) ?_;rintro v44 am n46 M A a2;replace M:Sep am n46 [oE [.c] aC v44 o] [(U+1,3),(U,2)]:=Sep.ap af M;have a:=(A _ (by simp)).trans a;have d:=(A _ (by simp)).trans d;simp[E,a,d,e,g,aC];apply V;refine J.cut (fun O H n=>∃ (v50:au),((O 2=pA U 2/\O 3=pA (U+1) 3/\O 5=v50/\O 6=int i15)/\H (U,2)=some ⟨6,[bC false I]⟩/\H (U+1,3)=some ⟨2,[mC false m]⟩)/\Sep H n [oE [.c] aC v50 o] [(U+1,3),(U,2)]) (by refine⟨v44,by simp[E,a,d,e,g,aC],M⟩) ?_;clear E a d;rintro O H n51 ⟨v50,⟨E,a,d⟩,M⟩;refine zI fun _ V=>?_
  obtain⟨ao,h⟩:=h;obtain⟨v53,aM,h⟩:=aE h;have f54:=aR ao aM;simp[E,a,d,f54,aC,-aw];apply V;refine p (v53,o) _ _ _ h (by refine⟨v50,by simp[E,a,d,aC],M⟩)
 replace h:=h.2 e;refine J.exit rfl ?_;refine zE fun _ V=>?_
 simp[E,a,d,e,aC];apply V;exact J.bj (v:=v17) func133 results133 (by simp[E,a,d,e,aC]) (hQ _ _ _ _ (Sep.sub (dn:=[]) M (by simp)) ⟨i,h,rfl⟩)
theorem uc (I:aG) (m:Match) (hp:iC I m):bn prog 133 [.agg (bC false I),.agg (mC false m)] (.s [.c]) (fun r=>r = .list true ((cV I m).map aC)):=(rb I m _ (uB I m hp)).mono (by rintro _ ⟨_,rfl,rfl⟩;rfl)
theorem e134:a8 prog 134:=a8.of func134 (by kernel_rfl) rfl
theorem Aw (b:aG) (link:Int) (kind:List Bool) (is:Bool) (Z:Int->Prop) (h:oG b link kind is Z):aF prog 134 [.agg (bC false b),int link,.list false (kind.map aC),bool is] (fun r=>∃ y:Int,Z y/\r=int y):=by
 unfold oG at h;refine aF.of func134 rfl ntmps134 (by simp) fun Q hQ=>?_
 refine J.cut (fun O H n=>(O 0 = .agg (bC false b)/\O 1=int link/\O 2 = .list false (kind.map aC)/\O 3=bool is)) (by simp[aC]) ?_;rintro O H U E;refine zE fun _ V=>?_
 simp[E,aC];apply V;refine J.cut (fun O H n=>(O 1=int link/\O 2 = .list false (kind.map aC)/\O 3=bool is/\O 4=pA U 4)/\H (U,4)=some ⟨6,[bC false b]⟩) (by refine⟨?_,?_⟩<;>simp[E,aC]) ?_;clear E;rintro O H n3 ⟨E,d⟩;refine zE fun _ V=>?_
 obtain⟨hb4,h⟩:=h;obtain⟨r5,er5,h⟩:=aE h;simp[E,d,aC];refine zA ((mK b link hb4).pure) Ic (.cons (bB false b) (.cons (.v _ _ _) .nil)) (by simp[E,d,aC]) ?_;rintro _ rfl;rw[<- er5];simp[E,d,aC];apply V;refine zS fun _ V=>?_
 simp[E,d,aC];apply V;apply J.block;refine J.aI h (fun (sJ:Int × Int) O H n=>match sJ with | (count9,i10)=>(O 2 = .list false (kind.map aC)/\O 3=bool is/\O 9 = .list true (r5.map cp)/\O 10=int count9/\O 11=int i10)) (by simp[E,d,aC]) ?_;clear E d;rintro⟨count9,i10⟩ O H n11 K h E e;refine zS fun _ V=>?_
 obtain⟨R,j,h⟩:=aE h;have f15:=fun H=>aN (H:=H) (fr:=true) (f:=cp) fp j
 obtain⟨l,o,h⟩:=aE h;have f17:=aX (k:=.i64) o;simp[E,f15,f17,aC,-aw,-aZ];apply V;refine J.ite (b:=l) (by simp[E,aC]) (fun a=>?_) (fun a=>?_)
 ·replace h:=h.1 a;apply zK;apply J.block;refine zE fun _ V=>?_
  obtain⟨p,h⟩:=h;obtain⟨g,q,h⟩:=aE h;have f20:=fun H=>aO (H:=H) (fr:=true) (f:=cp) (k:=.i64) fp (fun _=>rfl) p q
  have f21:=fun H=>zw (H:=H) (k:=.i64) (i:=0) (fr:=true) (cs:=[int g.1,int g.2]) rM (by decide)
  obtain⟨t,h⟩:=h;obtain⟨T,u,h⟩:=aE h;have f24:=fun H=>aO (H:=H) (fr:=false) (f:=aC) (k:=.i64) nC (fun _=>rfl) t u
  obtain⟨A,B,h⟩:=aE h;have f26:=Hh B;simp[E,f20,f21,f24,f26,a,aC,-er,-av];apply V;refine J.ite (b:=A) (by simp[E,a,aC]) (fun c=>?_) (fun c=>?_)
  ·replace h:=h.1 c;refine zF fun _ V=>?_
   obtain⟨C,h⟩:=h;obtain⟨v28,D,h⟩:=aE h;have f29:=aR C D;simp[E,f29,a,c,aC,-aw];apply V;refine J.cut (fun O H n=>(O 2 = .list false (kind.map aC)/\O 3=bool is/\O 9 = .list true (r5.map cp)/\O 10=int v28/\O 11=int i10)) (by simp[E,f29,a,c,aC,-aw]) ?_;clear E;rintro O H n30 E;refine zI fun _ V=>?_
   obtain⟨F,h⟩:=h;obtain⟨v32,G,h⟩:=aE h;have f33:=aR F G;simp[E,f33,aC,-aw];apply V;refine e (v28,v32) _ _ _ h (by simp[E,aC])
  replace h:=h.2 c;apply J.skip;refine zI fun _ V=>?_
  obtain⟨L,h⟩:=h;obtain⟨v35,N,h⟩:=aE h;have f36:=aR L N;simp[E,f36,a,c,aC,-aw];apply V;refine J.cut (fun O H n=>(O 2 = .list false (kind.map aC)/\O 3=bool is/\O 9 = .list true (r5.map cp)/\O 10=int count9/\O 11=int v35)) (by simp[E,f36,a,c,aC,-aw]) ?_;clear E;rintro O H n37 E;refine e (count9,v35) _ _ _ h (by simp[E,aC])
 replace h:=h.2 a;refine J.exit rfl ?_;refine zE fun _ V=>?_
 simp[E,a,aC];apply V;exact J.bj (v:=int count9) func134 results134 (by simp[E,a,aC]) (hQ _ _ _ _ (.of (.v _)) ⟨count9,h,rfl⟩)
theorem F2 (b:aG) (link:Int) (kind:List Bool) (is:Bool) (hp:pW b link kind is):aF prog 134 [.agg (bC false b),int link,.list false (kind.map aC),bool is] (fun r=>r=int (kI b link kind is)):=(Aw b link kind is _ (FC b link kind is hp)).mono (by rintro _ ⟨_,rfl,rfl⟩;rfl)
theorem e135:a8 prog 135:=a8.of func135 (by kernel_rfl) rfl
theorem vK (link:Int) (Z:a6->Prop) (h:kh link Z):aF prog 135 [int link] (fun r=>∃ y:a6,Z y/\r=str y):=by
 unfold kh at h;refine aF.of func135 rfl ntmps135 (by simp) fun Q hQ=>?_
 refine J.cut (fun O H n=>O 0=int link) (by simp[]) ?_;rintro O H U E;refine zE fun _ V=>?_
 simp[E];apply V;refine zE fun _ V=>?_
 obtain⟨hb2,h⟩:=h;obtain⟨v3,ev3,h⟩:=aE h;have f4:=aR hb2 ev3;obtain⟨hb5,h⟩:=h;obtain⟨s6,es6,h⟩:=aE h;have f7:=fun H=>sl_str (H:=H) (lo:=some (int link)) (hi:=some (int v3)) (a:=link) (b:=v3) (by simp[bJ]) (by simp[bJ]) HX hb5 es6
 simp[E,f4,f7,-aw,-cH];apply V;exact J.bj (v:=str s6) func135 results135 (by simp[E]) (hQ _ _ _ _ (.of (.v _)) ⟨s6,h,rfl⟩)
theorem AG (link:Int) (hp:mw link):aF prog 135 [int link] (fun r=>r=str (nn link)):=(vK link _ (zD link hp)).mono (by rintro _ ⟨_,rfl,rfl⟩;rfl)
theorem e82:a8 prog 82:=a8.of func82 (by kernel_rfl) rfl
theorem vy (ar:aG) (I:aG) (m:Match) (Z:((List Int) × (List a6) × Bool)->Prop) (h:ke ar I m Z):bn prog 82 [.agg (bC false ar),.agg (bC false I),.agg (mC false m)] (.t [.s [.c],.s [.c],.c]) (fun r=>∃ y:(List Int) × (List a6) × Bool,Z y/\r = .tup [.list true (y.1.map aA),.list true (y.2.1.map aT),bool y.2.2]):=by
 unfold ke at h;have M:Sep bx 0 [] []:=Sep.nil (by simp);refine bn.of func82 rfl ntmps82 (by simp) fun Q hQ=>?_
 refine J.cut (fun O H n=>(O 0 = .agg (bC false ar)/\O 1 = .agg (bC false I)/\O 2 = .agg (mC false m))/\Sep H n [] []) (by refine⟨by simp ,M⟩) ?_;rintro O H U ⟨E,M⟩;refine zE fun _ V=>?_
 simp[E];apply V;refine J.cut (fun O H n=>((O 3=pA U 3/\O 4=pA (U+1) 4/\O 5=pA (U+2) 5)/\H (U,3)=some ⟨6,[bC false ar]⟩/\H (U+1,4)=some ⟨6,[bC false I]⟩/\H (U+2,5)=some ⟨2,[mC false m]⟩)/\Sep H n [] [(U+2,5),(U+1,4),(U,3)]) (by refine⟨by simp[E],M.var.var.var⟩) ?_;clear E;rintro O H n5 ⟨⟨E,a,d,j⟩,M⟩;refine zE fun _ V=>?_
 obtain⟨hb8,h⟩:=h;obtain⟨r9,er9,h⟩:=aE h;simp[E,a,d,j];refine zW (uc I m hb8) e133 (.cons (bB false I) (.cons (fY false m) .nil)) (Sep.addEmpty (l:=[.c]) (Sep.addEmpty (l:=[.c]) M)) (by simp[E,a,d,j]) ?_;rintro v10 Y n12 _ M rfl d8 ab;rw[<- er9] at M;have a:Y (U,3)=some ⟨6,[bC false ar]⟩:=(ab _ (by simp)).trans (by simp[E,a,d,j,ax.aS]);have d:Y (U+1,4)=some ⟨6,[bC false I]⟩:=(ab _ (by simp)).trans (by simp[E,a,d,j,ax.aS]);have j:Y (U+2,5)=some ⟨2,[mC false m]⟩:=(ab _ (by simp)).trans (by simp[E,a,d,j,ax.aS]);simp[E,a,d,j];apply V;refine J.cut (fun O H n=>∃ (v17 F G:au),((O 3=pA U 3/\O 4=pA (U+1) 4/\O 9=G/\O 10=F/\O 11=v17)/\H (U,3)=some ⟨6,[bC false ar]⟩/\H (U+1,4)=some ⟨6,[bC false I]⟩)/\Sep H n [oE [.c] aC v17 r9,oS F ([]:List a6),oI G ([]:List Int)] [(U+1,4),(U,3)]) (by refine⟨v10,.arr (n5+1,16) 0 0 0,.arr (n5,15) 0 0 0,by simp[E,a,d,j],(Sep.sub M (by simp +contextual))⟩) ?_;clear E a d j;rintro O H n20 ⟨v17,F,G,⟨E,a,d⟩,M⟩;refine zS fun _ V=>?_
 simp[E,a,d];apply V;apply J.block;refine J.aI h (fun (sJ:Int × (List Int)) O H n=>match sJ with | (link32,i)=>∃ (u v35 B:au),((O 3=pA U 3/\O 4=pA (U+1) 4/\O 9=B/\O 10=v35/\O 11=u/\O 12=int link32)/\H (U,3)=some ⟨6,[bC false ar]⟩/\H (U+1,4)=some ⟨6,[bC false I]⟩)/\Sep H n [oE [.c] aC u r9,oS v35 ([]:List a6),oI B i] [(U+1,4),(U,3)]) (by refine⟨v17,F,G,by simp[E,a,d],M⟩) ?_;clear E a d;rintro⟨link32,i⟩ O H n37 K h ⟨u,v35,B,⟨E,a,d⟩,M⟩ am;refine zS fun _ V=>?_
 obtain⟨d9,a3,h⟩:=aE h;have f41:=fun H=>aN (H:=H) (fr:=false) (f:=aT) bY a3
 obtain⟨a4,h⟩:=h;obtain⟨eg,a5,h⟩:=aE h;have f44:=aR a4 a5;obtain⟨a9,bd,h⟩:=aE h;have f46:=aX (k:=.i64) bd;simp[E,a,d,f41,f44,f46,-aw,-aZ];apply V;refine J.ite (b:=a9) (by simp[E,a,d]) (fun g=>?_) (fun g=>?_)
 ·replace h:=h.1 g;apply zK;apply J.block;refine zE fun _ V=>?_
  obtain⟨be,h⟩:=h;obtain⟨el,bi,h⟩:=aE h;simp[E,a,d,g];refine zA (F2 I link32 r9 true be) e134 (.cons (bB false I) (.cons (.v _ _ _) (.cons (Sep.bp M (a7 (IY _))) (.cons (.v _ _ _) .nil)))) (by simp[E,a,d,g]) ?_;rintro _ rfl;rw[<- bi];obtain⟨bk,bs,h⟩:=aE h;have f50:=jN (k:=.i64) bs;simp[E,a,d,f50,g,-aw];apply V;refine J.ite (b:=bk) (by simp[E,a,d,g]) (fun o=>?_) (fun o=>?_)
  ·replace h:=h.1 o;refine zF fun _ V=>?_
   obtain⟨bv,h⟩:=h;obtain⟨ac,b0,h⟩:=aE h;simp[E,a,d,g,o,-bb];refine bf [] [oE [.c] aC u r9,oS v35 ([]:List a6)] [[int link32]] [aA link32] M.f2 aV (by simp) (by simp) (by simp) (by simp[-aH,bc]) (bo (aK.v _ aK.nil)) (by simp) (by simpa using bv) ?_;rintro v53 b1 b2 M ao em;replace M:Sep b1 b2 [oI v53 ac,oE [.c] aC u r9,oS v35 ([]:List a6)] [(U+1,4),(U,3)]:=Sep.ap b0 M;have a:=(ao _ (by simp)).trans a;have d:=(ao _ (by simp)).trans d;simp[E,a,d,g,o];apply V;refine J.cut (fun O H n=>∃ (v59 v60 L:au),((O 3=pA U 3/\O 4=pA (U+1) 4/\O 9=v59/\O 10=L/\O 11=v60/\O 12=int link32)/\H (U,3)=some ⟨6,[bC false ar]⟩/\H (U+1,4)=some ⟨6,[bC false I]⟩)/\Sep H n [oI v59 ac,oE [.c] aC v60 r9,oS L ([]:List a6)] [(U+1,4),(U,3)]) (by refine⟨v53,u,v35,by simp[E,a,d,g,o],M⟩) ?_;clear E a d;rintro O H n62 ⟨v59,v60,L,⟨E,a,d⟩,M⟩;refine zI fun _ V=>?_
   obtain⟨b3,h⟩:=h;obtain⟨v64,b5,h⟩:=aE h;have f65:=aR b3 b5;simp[E,a,d,f65,-aw];apply V;refine am (v64,ac) _ _ _ h (by refine⟨v60,L,v59,by simp[E,a,d],M.f2.f2⟩)
  replace h:=h.2 o;apply J.skip;refine zI fun _ V=>?_
  obtain⟨b7,h⟩:=h;obtain⟨v67,b8,h⟩:=aE h;have f68:=aR b7 b8;simp[E,a,d,f68,g,o,-aw];apply V;refine J.cut (fun O H n=>∃ (N v70 R:au),((O 3=pA U 3/\O 4=pA (U+1) 4/\O 9=R/\O 10=v70/\O 11=N/\O 12=int v67)/\H (U,3)=some ⟨6,[bC false ar]⟩/\H (U+1,4)=some ⟨6,[bC false I]⟩)/\Sep H n [oE [.c] aC N r9,oS v70 ([]:List a6),oI R i] [(U+1,4),(U,3)]) (by refine⟨u,v35,B,by simp[E,a,d,f68,g,o,-aw],M⟩) ?_;clear E a d;rintro O H es ⟨N,v70,R,⟨E,a,d⟩,M⟩;refine am (v67,i) _ _ _ h (by refine⟨N,v70,R,by simp[E,a,d],M⟩)
 replace h:=h.2 g;refine J.exit rfl ?_;refine zS fun _ V=>?_
 obtain⟨b9,cc,h⟩:=aE h;have f74:=dY (Sep.len (m:=b9) M.f2 aV (by rw[cc,List.length_map]));obtain⟨ev,ce,h⟩:=aE h;have f76:=fun H=>aN (H:=H) (fr:=false) (f:=aT) bY ce
 obtain⟨ci,h⟩:=h;obtain⟨v78,cj,h⟩:=aE h;have f79:=aR ci cj;obtain⟨aM,ck,h⟩:=aE h;have f81:=jN (k:=.i64) ck;simp[E,a,d,f74,f76,f79,f81,g,-aw,-aZ];apply V;refine J.cut (fun O H n=>∃ (v82 T:au),((O 3=pA U 3/\O 9=T/\O 10=v82/\O 45=bool aM)/\H (U,3)=some ⟨6,[bC false ar]⟩)/\Sep H n [oS v82 ([]:List a6),oI T i] [(U,3)]) (by refine⟨v35,B,by simp[E,a,d,f74,f76,f79,f81,g,-aw,-aZ],(Sep.sub M.dr (by simp +contextual))⟩) ?_;clear E a d;rintro O H a0 ⟨v82,T,⟨E,a⟩,M⟩;refine J.ite (b:=aM) (by simp[E,a]) (fun A=>?_) (fun A=>?_)
 ·replace h:=h.1 A;refine zE fun _ V=>?_
  simp[E,a,A];apply V;refine J.cut (fun O H n=>∃ (v87 W:au),(O 6=W/\O 7=v87/\O 8=bool false)/\Sep H n [oS v87 ([]:List a6),oI W ([]:List Int)] []) (by refine⟨.arr (a0+1,47) 0 0 0,.arr (a0,46) 0 0 0,by simp[E,a,A],(Sep.sub (Sep.dr (Sep.f2 (Sep.dr (Sep.f2 (Sep.addEmpty (l:=[.c]) (Sep.addEmpty (l:=[.c]) M)))))) (by simp +contextual))⟩) ?_;clear E a;rintro O H ex ⟨v87,W,E,M⟩;exact J.Hm (v:=W) (w:=v87) (z:=bool false) func82 results82 (by simp[E]) (by simp[E]) (by simp[E]) (hQ _ _ _ _ (Sep.sub (dn:=[]) (Sep.gH (aK.own (aK.own (aK.v _ aK.nil))) M.f1) (by simp)) ⟨(([]:List Int),([]:List a6),false),h,rfl⟩)
 replace h:=h.2 A;apply J.skip;refine zS fun _ V=>?_
 simp[E,a,A];apply V;apply J.block;refine J.aI h (fun (sJ:Int × (List a6)) O H n=>match sJ with | (i100,C)=>∃ (D p:au),((O 3=pA U 3/\O 9=p/\O 10=D/\O 13=int i100)/\H (U,3)=some ⟨6,[bC false ar]⟩)/\Sep H n [oS D C,oI p i] [(U,3)]) (by refine⟨v82,T,by simp[E,a,A],M⟩) ?_;clear E a;rintro⟨i100,C⟩ O H n104 K h ⟨D,p,⟨E,a⟩,M⟩ a1;refine zS fun _ V=>?_
 obtain⟨cl,co,h⟩:=aE h;have f108:=dY (Sep.len (m:=cl) M bY (by rw[co,List.length_map]));obtain⟨cs,c0,h⟩:=aE h;have f110:=dY (Sep.len (m:=cs) M.f1 aV (by rw[c0,List.length_map]));obtain⟨c1,c2,h⟩:=aE h;have f112:=aX (k:=.i64) c2;simp[E,a,f108,f110,f112,-aw,-aZ];apply V;refine J.ite (b:=c1) (by simp[E,a]) (fun e=>?_) (fun e=>?_)
 ·replace h:=h.1 e;apply zK;apply J.block;refine zE fun _ V=>?_
  obtain⟨c3,h⟩:=h;obtain⟨ey,c4,h⟩:=aE h;simp[E,a,e];refine zA (AG i100 c3) e135 (.cons (.v _ _ _) .nil) (by simp[E,a,e]) ?_;rintro _ rfl;rw[<- c4];obtain⟨c6,h⟩:=h;obtain⟨ad,c8,h⟩:=aE h;have f117:=Gs c6 c8;simp[E,a,f117,e,-ei];apply V;refine zE fun _ V=>?_
  obtain⟨c9,h⟩:=h;obtain⟨e0,da,h⟩:=aE h;simp[E,a,e];refine zA (IE ar.outer ad c9) e136 (.cons (o5 false ar.outer) (.cons (.v _ _ _) .nil)) (by simp[E,a,e]) ?_;rintro _ rfl;rw[<- da];obtain⟨dc,dl,h⟩:=aE h;have f121:=aX (k:=.i64) dl;simp[E,a,f121,e,-aw];apply V;refine J.ite (b:=dc) (by simp[E,a,e]) (fun q=>?_) (fun q=>?_)
  ·replace h:=h.1 q;refine zF fun _ V=>?_
   obtain⟨ds,h⟩:=h;obtain⟨af,d0,h⟩:=aE h;simp[E,a,e,q,-bb];refine bf [] [oI p i] [[str ad]] [aT ad] M bY (by simp) (by simp) (by simp) (by simp[-aH,bc]) (bo (aK.v _ aK.nil)) (by simp) (by simpa using ds) ?_;rintro v124 d1 n126 M d2 e1;replace M:Sep d1 n126 [oS v124 af,oI p i] [(U,3)]:=Sep.ap d0 M;have a:=(d2 _ (by simp)).trans a;simp[E,a,e,q];apply V;refine J.cut (fun O H n=>∃ (v130 v131:au),((O 3=pA U 3/\O 9=v131/\O 10=v130/\O 13=int i100)/\H (U,3)=some ⟨6,[bC false ar]⟩)/\Sep H n [oS v130 af,oI v131 i] [(U,3)]) (by refine⟨v124,p,by simp[E,a,e,q],M⟩) ?_;clear E a;rintro O H n132 ⟨v130,v131,⟨E,a⟩,M⟩;refine zI fun _ V=>?_
   obtain⟨d3,h⟩:=h;obtain⟨d4,d5,h⟩:=aE h;have f135:=aR d3 d5;simp[E,a,f135,-aw];apply V;refine a1 (d4,af) _ _ _ h (by refine⟨v130,v131,by simp[E,a],M⟩)
  replace h:=h.2 q;apply J.skip;refine zI fun _ V=>?_
  obtain⟨d6,h⟩:=h;obtain⟨a2,d7,h⟩:=aE h;have f138:=aR d6 d7;simp[E,a,f138,e,q,-aw];apply V;refine J.cut (fun O H n=>∃ (v139 X:au),((O 3=pA U 3/\O 9=X/\O 10=v139/\O 13=int a2)/\H (U,3)=some ⟨6,[bC false ar]⟩)/\Sep H n [oS v139 C,oI X i] [(U,3)]) (by refine⟨D,p,by simp[E,a,f138,e,q,-aw],M⟩) ?_;clear E a;rintro O H n141 ⟨v139,X,⟨E,a⟩,M⟩;refine a1 (a2,C) _ _ _ h (by refine⟨v139,X,by simp[E,a],M⟩)
 replace h:=h.2 e;refine J.exit rfl ?_;refine zE fun _ V=>?_
 simp[E,a,e];apply V;exact J.Hm (v:=p) (w:=D) (z:=bool true) func82 results82 (by simp[E,a,e]) (by simp[E,a,e]) (by simp[E,a,e]) (hQ _ _ _ _ (Sep.sub (dn:=[]) (Sep.gH (aK.own (aK.own (aK.v _ aK.nil))) M.f1) (by simp)) ⟨(i,C,true),h,rfl⟩)
theorem yV (ar:aG) (I:aG) (m:Match) (hp:lL ar I m):bn prog 82 [.agg (bC false ar),.agg (bC false I),.agg (mC false m)] (.t [.s [.c],.s [.c],.c]) (fun r=>r = .tup [.list true (((j6 ar I m).1).map aA),.list true (((j6 ar I m).2.1).map aT),bool ((j6 ar I m).2.2)]):=(vy ar I m _ (y6 ar I m hp)).mono (by rintro _ ⟨_,rfl,rfl⟩;rfl)
theorem e59:a8 prog 59:=a8.of func59 (by kernel_rfl) rfl
theorem qB (sig:List Control) (ar:aG) (I:aG) (m:Match) (Z:((List Int) × (List a6) × Bool)->Prop) (h:fH sig ar I m Z):bn prog 59 [.list false (sig.map Control.cells),.agg (bC false ar),.agg (bC false I),.agg (mC false m)] (.t [.s [.c],.s [.c],.c]) (fun r=>∃ y:(List Int) × (List a6) × Bool,Z y/\r = .tup [.list true (y.1.map aA),.list true (y.2.1.map aT),bool y.2.2]):=by
 unfold fH at h;have M:Sep bx 0 [] []:=Sep.nil (by simp);refine bn.of func59 rfl ntmps59 (by simp) fun Q hQ=>?_
 refine J.cut (fun O H n=>(O 0 = .list false (sig.map Control.cells)/\O 1 = .agg (bC false ar)/\O 2 = .agg (bC false I)/\O 3 = .agg (mC false m))/\Sep H n [] []) (by refine⟨by simp ,M⟩) ?_;rintro O H U ⟨E,M⟩;refine zE fun _ V=>?_
 simp[E];apply V;refine J.cut (fun O H n=>((O 0 = .list false (sig.map Control.cells)/\O 5=pA U 5/\O 6=pA (U+1) 6/\O 7=pA (U+2) 7)/\H (U,5)=some ⟨6,[bC false ar]⟩/\H (U+1,6)=some ⟨6,[bC false I]⟩/\H (U+2,7)=some ⟨2,[mC false m]⟩)/\Sep H n [] [(U+2,7),(U+1,6),(U,5)]) (by refine⟨by simp[E],M.var.var.var⟩) ?_;clear E;rintro O H n5 ⟨⟨E,a,d,e⟩,M⟩;refine zS fun _ V=>?_
 obtain⟨hb6,h⟩:=h;obtain⟨r7,er7,h⟩:=aE h;simp[E,a,d,e];refine zA (CB sig ar I m hb6) e81 (.cons (j9 false sig) (.cons (bB false ar) (.cons (bB false I) (.cons (fY false m) .nil)))) (by simp[E,a,d,e]) ?_;rintro _ rfl;rw[<- er7];simp[E,a,d,e];apply V;refine J.ite (b:=(!r7)) (by simp[E,a,d,e]) (fun dr7=>?_) (fun dr7=>?_)
 ·have dr7:r7=false:=by simpa using dr7
  replace h:=h.2 dr7;refine zE fun _ V=>?_
  simp[E,a,d,e,dr7];apply V;refine J.cut (fun O H n=>∃ (v10 v11:au),(O 8=v11/\O 9=v10/\O 10=bool false)/\Sep H n [oS v10 ([]:List a6),oI v11 ([]:List Int)] []) (by refine⟨.arr (n5+1,18) 0 0 0,.arr (n5,17) 0 0 0,by simp[E,a,d,e,dr7],(Sep.sub (Sep.addEmpty (l:=[.c]) (Sep.addEmpty (l:=[.c]) M)) (by simp +contextual))⟩) ?_;clear E a d e;rintro O H n12 ⟨v10,v11,E,M⟩;exact J.Hm (v:=v11) (w:=v10) (z:=bool false) func59 results59 (by simp[E]) (by simp[E]) (by simp[E]) (hQ _ _ _ _ (Sep.sub (dn:=[]) (Sep.gH (aK.own (aK.own (aK.v _ aK.nil))) M.f1) (by simp)) ⟨(([]:List Int),([]:List a6),false),h,rfl⟩)
 have dr7:r7=true:=by simpa using dr7
 replace h:=h.1 dr7;apply J.skip;refine zE fun _ V=>?_
 obtain⟨o,h⟩:=h;obtain⟨g,p,h⟩:=aE h;simp[E,a,d,e,dr7];refine zW (yV ar I m o) e82 (.cons (bB false ar) (.cons (bB false I) (.cons (fY false m) .nil))) M (by simp[E,a,d,e,dr7]) ?_;rintro u A n18 _ M rfl B j;rw[<- p] at M;have a:=(j _ (by simp)).trans a;have d:=(j _ (by simp)).trans d;have e:=(j _ (by simp)).trans e;replace M:=Sep.ji M;obtain⟨L25,hv,q,M⟩:=M;subst hv;obtain⟨v22,v23,v24,hv⟩:=BR (by simpa using q);subst hv;simp only[dW,List.cons_append,List.nil_append] at M;replace M:=Sep.fJ M;replace M:=Sep.fJ M;replace M:=Sep.scalar M;obtain⟨hv,M⟩:=M;subst hv;simp[E,a,d,e,dr7];apply V;refine J.cut (fun O H n=>∃ (i v30:au),(O 8=i/\O 9=v30/\O 10=bool g.2.2)/\Sep H n [oI i g.1,oS v30 g.2.1] []) (by refine⟨v22,v23,by simp[E,a,d,e,dr7],(Sep.sub M (by simp +contextual))⟩) ?_;clear E a d e;rintro O H n31 ⟨i,v30,E,M⟩;exact J.Hm (v:=i) (w:=v30) (z:=bool g.2.2) func59 results59 (by simp[E]) (by simp[E]) (by simp[E]) (hQ _ _ _ _ (Sep.sub (dn:=[]) (Sep.gH (aK.own (aK.own (aK.v _ aK.nil))) M) (by simp)) ⟨(g.1,g.2.1,g.2.2),h,rfl⟩)
theorem sG (sig:List Control) (ar:aG) (I:aG) (m:Match) (hp:gQ sig ar I m):bn prog 59 [.list false (sig.map Control.cells),.agg (bC false ar),.agg (bC false I),.agg (mC false m)] (.t [.s [.c],.s [.c],.c]) (fun r=>r = .tup [.list true (((dP sig ar I m).1).map aA),.list true (((dP sig ar I m).2.1).map aT),bool ((dP sig ar I m).2.2)]):=(qB sig ar I m _ (sF sig ar I m hp)).mono (by rintro _ ⟨_,rfl,rfl⟩;rfl)
end Go.Ab.Vg
namespace Go.Ab
theorem CZ {v:au} (h:Ab.aH v=true):az v=some [v]:=by
 cases v with
 | v x=>cases x<;>first | rfl | (simp[Ab.aH,one] at h)
 | undef=>simp[Ab.aH] at h
 | agg=>simp[Ab.aH] at h
 | tup=>simp[Ab.aH] at h
 | _=>rfl
inductive tm (H:ax) (n:Nat):List au->List au->Prop
 | nil:tm H n [] []
 | cons {a b:au} {as1 bs:List au} (h:mW H n a b) (t:tm H n as1 bs):tm H n (a::as1) (b::bs)
theorem tm.get {H:ax} {n:Nat} {as1 bs:List au} (h:tm H n as1 bs):as1.length=bs.length/\∀ (i:Nat) (a b:au),as1[i]?=some a->bs[i]?=some b->mW H n a b:=by
 induction h with
 | nil=>exact⟨rfl,by simp⟩
 | cons h _ ih=>
  refine⟨by simp[ih.1],fun i a b ha hb=>?_⟩;cases i with
  | zero=>simp at ha hb;rw[<- ha,<- hb];exact h
  | succ i=>exact ih.2 i a b (by simpa using ha) (by simpa using hb)
theorem mW.Dh {H:ax} {n:Nat} {as1 bs:List au} (h:tm H n as1 bs):mW H n (.agg as1) (.agg bs):=.agg h.get.1 h.get.2
theorem mW.zr {H:ax} {n:Nat} {as1 bs:List au} (h:tm H n as1 bs):mW H n (.tup as1) (.tup bs):=.tup h.get.1 h.get.2
theorem j7.mY {n:Nat} {a:au} (h:j7 a):uw n a:=by
 induction h with
 | v x=>exact .v x
 | agg cs _ ih=>exact .agg cs ih
 | tup cs _ ih=>exact .tup cs ih
 | list fr els _ ih=>exact .list fr els ih
 | iface t a _ ih=>exact .iface t a ih
section
variable {H:ax} {n:Nat}
theorem aQ.pr {X:Id} {sz:Nat} {cs ds:List au} (hX:H X=some ⟨sz,[cs]⟩) (h:bV H n cs ds):aQ H n (.ptr X 1 0 0) (.iptr false ds):=by
 intro c x hH hn g r c' hw hc;obtain⟨hl,hi⟩:=h.get;rw[<- hH] at hX;cases r with
 | ptr _ _ _ _ x h1 hlt hg E=>
  obtain⟨_,rfl⟩:=E _ hX rfl;have hcell:∀ (j:Nat) (a:au),cs[j]?=some a->∃ y,c.w.cell? ⟨c.β X,0 * sz+j,none⟩=some y/\cn c a y:=fun j a ha=>g.cell hX (i:=0) rfl ha
  have hget:∀ (j:Nat) (b:au),ds[j]?=some b->∃ a,cs[j]?=some a:=fun j b hb=>⟨_,List.getElem?_eq_getElem (show j<cs.length by rw[hl];exact (List.getElem?_eq_some_iff.1 hb).1)⟩
  refine .iptr false ds _ (fun j=>(c.w.cell? ⟨c.β X,0 * sz+j,none⟩).getD Go.undef) rfl (Bh hc _) (by rw[hw];exact g.lt hX) (fun h=>by cases h) (fun j b hb=>?_) (fun j b hb=>?_)
  ·obtain⟨a,ha⟩:=hget j b hb;obtain⟨y,hy,_⟩:=hcell j a ha;rw[hw];show c.w.cell? ⟨c.β X,0 * sz+j,none⟩=_;rw[hy];rfl
  ·obtain⟨a,ha⟩:=hget j b hb;obtain⟨y,hy,hr⟩:=hcell j a ha;simp only[hy,Option.getD_some];exact hi j a b ha hb c y hH hn g hr c' hw hc
theorem aQ.IL {fr:Bool} {cs ds:List au} (h:bV H n cs ds):aQ H n (.iptr fr cs) (.iptr false ds):=by
 intro c x hH hn g r c' hw hc;obtain⟨hl,hi⟩:=h.get;cases r with
 | iptr _ _ a cell hs hm hb hf hcl hr=>
  have hget:∀ (j:Nat) (b:au),ds[j]?=some b->∃ a,cs[j]?=some a:=fun j b hb=>⟨_,List.getElem?_eq_getElem (show j<cs.length by rw[hl];exact (List.getElem?_eq_some_iff.1 hb).1)⟩
  refine .iptr false ds a cell hs (Bh hc _) (by rw[hw];exact hb) (fun h=>by cases h) (fun j b hb=>?_) (fun j b hb=>?_)
  ·obtain⟨x,hx⟩:=hget j b hb;rw[hw];exact hcl j x hx
  ·obtain⟨x,hx⟩:=hget j b hb;exact hi j x b hx hb c _ hH hn g (hr j x hx) c' hw hc
theorem aQ.fnF {f:Fn} {as1 as' bs bs':List au} (h1:bV H n as1 as') (h2:bV H n bs bs'):aQ H n (.fn f as1 bs) (.fn f as' bs'):=by
 intro c x hH hn g r c' hw hc;obtain⟨l1,i1⟩:=h1.get;obtain⟨l2,i2⟩:=h2.get;cases r with
 | fn _ _ _ vs us hl hl' ha hb=>
  refine .fn f as' bs' vs us (by omega) (by omega) (fun i a x hx hv=>?_) (fun i a x hx hv=>?_)
  ·have hi:=(List.getElem?_eq_some_iff.1 hx).1;have e:as1[i]?=some (as1[i]'(by omega)):=List.getElem?_eq_getElem (by omega);exact i1 i _ a e hx c x hH hn g (ha i _ x e hv) c' hw hc
  ·have hi:=(List.getElem?_eq_some_iff.1 hx).1;have e:bs[i]?=some (bs[i]'(by omega)):=List.getElem?_eq_getElem (by omega);exact i2 i _ a e hx c x hH hn g (hb i _ x e hv) c' hw hc
theorem bV.app {as1 as' bs bs':List au} (h:bV H n as1 as') (h':bV H n bs bs'):bV H n (as1++bs) (as'++bs'):=by
 induction h with
 | nil=>exact h'
 | cons h _ ih=>exact .cons h ih
theorem aF.args {P:Program} {f:FuncId} {as1 as':List au} {R:au->Prop} (h:aF P f as' R) (ha:bV H n as1 as'):dw P f as1 H n R:=by
 intro c xs hH hn gd hl;have hb:Good ⟨c.w.heap.size,fun _=>0,bx,0,c.w⟩:=oo c.w;obtain⟨hlen,hget⟩:=ha.get;have hrep:eB ⟨c.w.heap.size,fun _=>0,bx,0,c.w⟩ as' xs:=by
  refine⟨by rw[<- hlen];exact hl.1,fun i b x hb' hx=>?_⟩;have hi:=(List.getElem?_eq_some_iff.1 hb').1;have ha':as1[i]?=some (as1[i]'(by omega)):=List.getElem?_eq_getElem (by omega);exact hget i _ b ha' hb' c x hH hn gd (hl.2 i _ x ha' hx) _ rfl (fun _=>rfl)
 refine (h _ xs rfl rfl hb hrep).mono ?_;rintro e w' ⟨x,v,c1,he,hw,⟨r,hres,hR⟩,hrv,hg1,hk⟩;subst hw;have hnomu:∀ k,¬ Ctx.mu ⟨c.w.heap.size,fun _=>0,bx,0,c.w⟩ k:=by
  rintro k ⟨id,o,ho,_⟩;cases ho
 obtain⟨hkc,hgc⟩:=dg gd c1.w ⟨hk.os,hk.tape,hk.output⟩ hk.size (fun k V=>(hk.imm k V (hnomu k)).1);refine⟨x,r,{ c with w:=c1.w },he,rfl,⟨hR,hH,hn⟩,?_,hgc,hkc⟩;refine hres c1 x rfl rfl hg1 hrv { c with w:=c1.w } rfl ?_ ?_
 ·rintro k ⟨id,o,ho,hb'⟩;have hlt:c.β id<c.w.heap.size:=gd.lt ho;rw[hk.B];show k<c.w.heap.size;simp only at hb';omega
 ·rw[hk.B];exact gd.Bsize
end
section
variable {P:Program} {f:FuncId} {N:Nat} {k:List Item} {Q:au->ax->Nat->Prop} {Ty:Types} {l:List Oper} {O:Env} {H:ax} {n:Nat}
theorem aW.vj {d:Option Tmp} {g:Operand} {args:Array Operand} {ats:Array TypeId} {ty:TypeId} {pos:String} {af:Array Edge} {gu:Option (Nat × Bool)} {v:au} {f':FuncId} {xs xs2 ys1 ys2:List au}
  (h:aF P f' (xs2++ys2) (fun r=>r=v)) (dK:a8 P f') (ha:bV H n xs xs2) (hb:bV H n ys1 ys2) (hg:O.ev g = .fn (.func f') [] ys1) (has:args.toList.map O.ev=xs) :
  aW P N ⟨d,.call ⟨.value g,args,ats⟩,ty,pos,af,gu⟩ (loc (.call ⟨.value g,args,ats⟩) O) H n (xm v H n):=by
 have h1:(loc (.call ⟨.value g,args,ats⟩) O).ev g=O.ev g:=fL (by simp[Op.operands,Call.operands]);have h2:args.toList.map (loc (.call ⟨.value g,args,ats⟩) O).ev=args.toList.map O.ev:=List.map_congr_left fun x hx=>fL (by simp[Op.operands,Call.operands];exact .inr (by simpa using hx))
 exact aW.call (by rw[h1];exact hg) dK (by rw[h2,has,List.nil_append];exact aF.args h (ha.app hb))
theorem bN.vj (hT:bg P Ty) {κ:Op->Nat} (hκ:HS κ) {d:Option Tmp} {g:Operand} {args:Array Operand} {ats:Array TypeId} {ty:TypeId} {pos:String} {af:Array Edge} {v:au} {f':FuncId} {xs1 xs2 ys1 ys2:List au} {ops:Array Oper}
  (h:aF P f' (xs2++ys2) (fun r=>r=v)) (dK:a8 P f') (ha:bV H n xs1 xs2) (hb:bV H n ys1 ys2) (h0:κ (.call ⟨.value g,args,ats⟩) ≠ 0) (hg:O.ev g = .fn (.func f') [] ys1) (has:args.toList.map O.ev=xs1)
  (hk:eN P f N k Q Ty κ ops l (O.put d v) H n):bN P f N k Q κ ops (⟨d,.call ⟨.value g,args,ats⟩,ty,pos,af,none⟩::l) O H n:=
 bN.op hT hκ rfl h0 (fun _=>⟨rfl,rfl⟩) (aW.vj h dK ha hb hg has) hk
theorem bX.callQ (hT:bg P Ty) {d:Option Tmp} {g:Operand} {args:Array Operand} {ats:Array TypeId} {ty:TypeId} {pos:String} {af:Array Edge} {R:au->Prop} {f':FuncId} {as1 bs:List au} {ops:List Oper}
  (h:kR P f' bs R) (dK:a8 P f') (hs:zT as1 bs)
  (hN:ops.all (fun o=>eF N o.dst)=true) (hl:(⟨d,.call ⟨.value g,args,ats⟩,ty,pos,af,none⟩::l:List Oper).all (fun o=>eF N o.dst)=true) (hg:O.ev g = .fn (.func f') [] []) (has:args.toList.map O.ev=as1)
  (hk:∀ v,R v->cB P f N k Q Ty ops.toArray l (O.put d v) H n) :
  bX P f N k Q ops.toArray (⟨d,.call ⟨.value g,args,ats⟩,ty,pos,af,none⟩::l) O H n:=bX.callH hT h dK hs hN hl hg has hk
end
end Go.Ab
