/- Merged texts (14 of 17) of the proof that ends in Coy: Nmw Mdw Krw Cow Mpw Emw. -/
import Derived.Test.YtkocdlgoncmdbaaGreatDoorAbQco13
open Go.Proofs.Tryz
set_option linter.unusedSimpArgs false
set_option linter.unusedVariables false
namespace Go.Ab.Vg
open Go.Proofs
set_option maxRecDepth 100000
attribute [local simp] ay.cells aI.cells au iX a7 bC pA
theorem e49:a8 prog 49:=a8.of func49 (by kernel_rfl) rfl
theorem qY (a:List ay) (k_:Int) (Z:((List ay) × Int)->Prop) (h:gE a k_ Z):gQ prog 49 (fun v=>[v,int k_]) (.s [.c,.c,.s [.c]]) (.list true (a.map (ay.cells true))) (fun e' r=>∃ y:(List ay) × Int,Z y/\e' = .list true (y.1.map (ay.cells true))/\r=int y.2):=by
 unfold gE at h;refine gQ.of func49 rfl ntmps49 (fun _=>by simp) fun H0 n0 v0 K0 bx M Q hQ=>?_
 have h00:=M.1;have hid:∀ i ∈ bx,H0 i=H0 i:=fun _ _=>rfl
 have hnn:n0<=n0:=Nat.le_refl _;refine J.cut (fun O H n=>(O 0=v0/\O 1=int k_)/\n0<=n/\(∀ i ∈ bx,H i=H0 i)/\Sep H n (oN v0 a::K0) (bx)) (by refine⟨?_,(by omega),hid,M⟩<;>simp ) ?_;rintro O H n2 ⟨E,hnn,hid,M⟩;have hq_n2:=hnn;refine zE fun _ V=>?_
 simp[E];apply V;refine zS fun _ V=>?_
 simp[E];apply V;apply J.block;refine J.aO h (fun (sJ:Int × Int × (List ay)) O H n=>match sJ with | (k10,i11,d)=>(O 0=v0/\O 1=int k10/\O 5=int i11)/\n0<=n/\(∀ i ∈ bx,H i=H0 i)/\Sep H n (oN v0 d::K0) (bx)) (by refine⟨?_,(by omega),hid,M⟩<;>simp[E]) ?_;clear E;rintro⟨k10,i11,d⟩ O H be K h ⟨E,hnn,hid,M⟩ bi;have hq_n13:=hnn;refine zS fun _ V=>?_
 obtain⟨br,bs,h⟩:=aJ h;have f17:=gT (Sep.len (m:=br) M cG (by rw[bs,List.length_map]));obtain⟨bv,bC,h⟩:=aJ h;have f19:=bc (k:=.i64) bC;simp[E,f17,f19,-ax,-aL];apply V;refine J.ite (b:=bv) (by simp[E]) (fun o=>?_) (fun o=>?_)
 ·replace h:=h.1 o;apply zK;apply J.block;refine zE fun _ V=>?_
  obtain⟨G,h⟩:=h;obtain⟨g,ac,h⟩:=aJ h;obtain⟨l,d5,d6,b0,L,ad,af,b1,b2,d7,d8,d9,B,eb⟩:=Sep.Ct (q:=i11.toNat) (f:=(ay.cells true)) M G ac rfl;subst L;obtain⟨cc,am,N,L⟩:=A9 (by simpa using b2);subst L;replace B:Sep _ _ [(.c,cc,int g.control),(.c,am,int g.parent),(.s [.c],N,.list true (g.links.map au))] b0:=B;obtain rfl:=Sep.DO (K1:=[]) (K2:=[(.c,am,int g.parent),(.s [.c],N,.list true (g.links.map au))]) B;obtain rfl:=Sep.DO (K1:=[(.c,int g.control,int g.control)]) (K2:=[(.s [.c],N,.list true (g.links.map au))]) B;have f39:=b7 (k:=.i64) (off:=0) (len:=d.length) cG ad af rfl G;obtain⟨ao,ce,h⟩:=aJ h;simp[E,ad,af,b1,f39,o,-ar,-bM];refine sU (i:=nN) (q:=i11.toNat) (off:=0) (ix:=i11) (x:=g) (y:=(ay.mk k10 g.parent g.links)) (f:=(ay.cells true)) [] [.c,.s [.c]] [] [int g.parent,.list true (g.links.map au)] M rfl rfl G ac rfl rfl rfl rfl rfl rfl rfl ?_;rintro ap M ch;replace M:Sep ap be (oN (.arr l d.length 0 d.length) ao::K0) (bx):=by rw[ce];exact M
  have hid:∀ i ∈ bx,ap i=H0 i:=fun i hi=>(ch i (by simp[hi])).trans (hid i hi)
  simp[E,f39,o,-ar];apply V;refine J.cut (fun O H n=>(O 0 = .arr l d.length 0 d.length/\O 1=int k10/\O 5=int i11)/\n0<=n/\(∀ i ∈ bx,H i=H0 i)/\Sep H n (oN (.arr l d.length 0 d.length) ao::K0) (bx)) (by refine⟨?_,(by omega),hid,M⟩<;>simp[E,f39,o,-ar]) ?_;clear E;rintro O H ci ⟨E,hnn,hid,M⟩;have hq_n44:=hnn;refine zE fun _ V=>?_
  obtain⟨cj,h⟩:=h;obtain⟨v46,cl,h⟩:=aJ h;have f47:=aR cj cl;simp[E,f47,-ax];apply V;refine zE fun _ V=>?_
  obtain⟨R,h⟩:=h;obtain⟨j,aB,h⟩:=aJ h;obtain⟨ed,el,em,co,p,a0,C,cs,cv,es,ev,ex,D,ey⟩:=Sep.Ct (q:=i11.toNat) (f:=(ay.cells true)) M R aB rfl;simp only[I.arr.injEq] at p;obtain⟨p,hln64,-⟩:=p;subst p;replace C:=C.trans hln64.symm;obtain⟨c0,a1,T,p⟩:=A9 (by simpa using cv);subst p;replace D:Sep _ _ [(.c,c0,int j.control),(.c,a1,int j.parent),(.s [.c],T,.list true (j.links.map au))] co:=D;obtain rfl:=Sep.DO (K1:=[]) (K2:=[(.c,a1,int j.parent),(.s [.c],T,.list true (j.links.map au))]) D;obtain rfl:=Sep.DO (K1:=[(.c,int j.control,int j.control)]) (K2:=[(.s [.c],T,.list true (j.links.map au))]) D;have f68:=b7 (k:=.i64) (off:=0) (len:=d.length) cG a0 C rfl (by rw[hln64];exact R);obtain⟨a2,c1,h⟩:=aJ h;simp[E,a0,C,cs,f68,-ar,-bM];refine sU (i:=nN) (q:=i11.toNat) (off:=1) (ix:=i11) (x:=j) (y:=(ay.mk j.control v46 j.links)) (f:=(ay.cells true)) [.c] [.s [.c]] [int j.control] [.list true (j.links.map au)] M rfl rfl R aB rfl hln64 rfl rfl rfl rfl rfl ?_;rintro a3 M c2;replace M:Sep a3 ci (oN (.arr l d.length 0 d.length) a2::K0) (bx):=by rw[c1];exact M
  have hid:∀ i ∈ bx,a3 i=H0 i:=fun i hi=>(c2 i (by simp[hi])).trans (hid i hi)
  simp[E,f68,-ar];apply V;refine J.cut (fun O H n=>(O 0 = .arr l d.length 0 d.length/\O 1=int v46/\O 5=int i11)/\n0<=n/\(∀ i ∈ bx,H i=H0 i)/\Sep H n (oN (.arr l d.length 0 d.length) a2::K0) (bx)) (by refine⟨?_,(by omega),hid,M⟩<;>simp[E,f68,-ar]) ?_;clear E;rintro O H e0 ⟨E,hnn,hid,M⟩;have hq_n73:=hnn;refine zE fun _ V=>?_
  obtain⟨c3,h⟩:=h;obtain⟨v75,c4,h⟩:=aJ h;have f76:=aR c3 c4;simp[E,f76,-ax];apply V;refine zF fun _ V=>?_
  obtain⟨a4,h⟩:=h;obtain⟨e,c6,h⟩:=aJ h;obtain⟨e1,e2,e3,da,t,W,u,a5,dc,e4,dd,e5,A,dl⟩:=Sep.Ct (q:=i11.toNat) (f:=(ay.cells true)) M a4 c6 rfl;simp only[I.arr.injEq] at t;obtain⟨t,hln93,-⟩:=t;subst t;replace u:=u.trans hln93.symm;obtain⟨dr,a9,F,t⟩:=A9 (by simpa using dc);subst t;replace A:Sep _ _ [(.c,dr,int e.control),(.c,a9,int e.parent),(.s [.c],F,.list true (e.links.map au))] da:=A;obtain rfl:=Sep.DO (K1:=[]) (K2:=[(.c,a9,int e.parent),(.s [.c],F,.list true (e.links.map au))]) A;obtain rfl:=Sep.DO (K1:=[(.c,int e.control,int e.control)]) (K2:=[(.s [.c],F,.list true (e.links.map au))]) A;have f97:=b7 (k:=.i64) (off:=0) (len:=d.length) cG W u rfl (by rw[hln93];exact a4);obtain⟨ds,h⟩:=h;obtain⟨X,bd,h⟩:=aJ h;simp[E,W,u,a5,f97,-ar];refine bq.oT (v:=F) aw (o9 e.links v75 ds) e50 (Sep.front (K1:=[(.c,int e.control,int e.control),(.c,int e.parent,int e.parent)]) (K2:=[]) A) (by decide) (by decide) rfl (by simp[E,W,u,a5,f97,-ar]) ?_;rintro _ Y n101 _ ⟨rfl,rfl⟩ spx d0 hfrW102;rw[<- bd] at spx;rw[<- bd];obtain⟨ab,d1,h⟩:=aJ h;replace M:=dl Y n101 (ay.mk e.control e.parent X.1) (Sep.tL (K1:=[(.c,int e.control,int e.control),(.c,int e.parent,int e.parent)]) (K2:=[]) spx) rfl hfrW102 d0;have d2:=fun i hi=>hfrW102 i (dd i hi)
  replace M:Sep Y n101 (oN (.arr l d.length 0 d.length) ab::K0) (bx):=by rw[d1];exact M
  have hid:∀ i ∈ bx,Y i=H0 i:=fun i hi=>(d2 i (by simp[hi])).trans (hid i hi)
  have hnn:n0<=n101:=by omega
  have hq_n101:=hnn;simp[E,f97,-ar];apply V;refine J.cut (fun O H n=>(O 0 = .arr l d.length 0 d.length/\O 1=int X.2/\O 5=int i11)/\n0<=n/\(∀ i ∈ bx,H i=H0 i)/\Sep H n (oN (.arr l d.length 0 d.length) ab::K0) (bx)) (by refine⟨?_,(by omega),hid,M⟩<;>simp[E,f97,-ar]) ?_;clear E;rintro O H n107 ⟨E,hnn,hid,M⟩;have hq_n107:=hnn;refine zI fun _ V=>?_
  obtain⟨d3,h⟩:=h;obtain⟨v109,d4,h⟩:=aJ h;have f110:=aR d3 d4;simp[E,f110,-ax];apply V;refine bi (X.2,v109,ab) _ _ _ h (by refine⟨?_,(by omega),hid,M⟩<;>simp[E])
 replace h:=h.2 o;refine J.exit rfl ?_;refine zE fun _ V=>?_
 simp[E,o];apply V;exact J.bG (v:=int k10) func49 results49 (by simp[E,o]) (hQ _ _ _ _ (Sep.sub M (by simp +contextual)) hid (by omega) ⟨(d,k10),h,rfl,rfl⟩)
theorem uo (a:List ay) (k_:Int) (hp:fM a k_):gQ prog 49 (fun v=>[v,int k_]) (.s [.c,.c,.s [.c]]) (.list true (a.map (ay.cells true))) (fun e' r=>e' = .list true (((bR a k_).1).map (ay.cells true))/\r=int ((bR a k_).2)):=(qY a k_ _ (ue a k_ hp)).mono (by rintro _ _ ⟨_,rfl,rfl,rfl⟩;exact⟨rfl,rfl⟩)
theorem e55:a8 prog 55:=a8.of func55 (by kernel_rfl) rfl
theorem oe (a:List cH) (k_:Int) (Z:Int->Prop) (h:fi a k_ Z):aF prog 55 [.list false (a.map a7),int k_] (fun r=>∃ y:Int,Z y/\r=int y):=by
 unfold fi at h;refine aF.of func55 rfl ntmps55 (by simp) fun Q hQ=>?_
 refine J.cut (fun O H n=>(O 0 = .list false (a.map a7)/\O 1=int k_)) (by simp) ?_;rintro O H U E;refine zE fun _ V=>?_
 simp[E];apply V;refine zS fun _ V=>?_
 simp[E];apply V;apply J.block;refine J.aO h (fun (sJ:Int × Int) O H n=>match sJ with | (k5,i6)=>(O 0 = .list false (a.map a7)/\O 1=int k5/\O 5=int i6)) (by simp[E]) ?_;clear E;rintro⟨k5,i6⟩ O H n7 K h E IH8;refine zS fun _ V=>?_
 obtain⟨fe,g,h⟩:=aJ h;have f11:=fun H=>aQ (H:=H) (fr:=false) (f:=a7) ez g
 obtain⟨i,j,h⟩:=aJ h;have f13:=bc (k:=.i64) j;simp[E,f11,f13,-ax,-aL];apply V;refine J.ite (b:=i) (by simp[E]) (fun c=>?_) (fun c=>?_)
 ·replace h:=h.1 c;apply zK;apply J.block;apply J.seq;refine J.gr aw aH bY (by decide) (by kernel_rfl) fun _ V=>?_
  obtain⟨l,h⟩:=h;obtain⟨F,o,h⟩:=aJ h;have f16:=fun H=>aU (H:=H) (fr:=false) (f:=a7) (k:=.i64) ez (fun _=>rfl) l o
  obtain⟨p,h⟩:=h;obtain⟨G,q,h⟩:=aJ h;simp[E,f16,c,-ar];refine bA.cY aw aH (ic k5 p) e48 (.cons (.v _ _ _) .nil) (by decide) rfl (by simp[E,f16,c,-ar]) ?_;rw[<- q];obtain⟨t,u,h⟩:=aJ h;have f20:=B7 u;simp[E,f16,f20,c,-ar,-kb];apply V;refine J.ite (b:=t) (by simp[E,c]) (fun d=>?_) (fun d=>?_)
  ·replace h:=h.1 d;refine zE fun _ V=>?_
   simp[E,c,d];apply V;exact J.bG (v:=int (-1)) func55 results55 (by simp[E,c,d]) (hQ _ _ _ _ (.of (.v _)) ⟨(-1),h,rfl⟩)
  replace h:=h.2 d;apply J.skip;refine zF fun _ V=>?_
  obtain⟨A,h⟩:=h;obtain⟨v22,B,h⟩:=aJ h;have f23:=aR A B;simp[E,f23,c,d,-ax];apply V;refine zI fun _ V=>?_
  obtain⟨C,h⟩:=h;obtain⟨e,D,h⟩:=aJ h;have f26:=aR C D;simp[E,f26,c,d,-ax];apply V;refine J.cut (fun O H n=>(O 0 = .list false (a.map a7)/\O 1=int v22/\O 5=int e)) (by simp[E,f26,c,d,-ax]) ?_;clear E;rintro O H n27 E;refine IH8 (v22,e) _ _ _ h (by simp[E])
 replace h:=h.2 c;refine J.exit rfl ?_;refine zE fun _ V=>?_
 simp[E,c];apply V;exact J.bG (v:=int k5) func55 results55 (by simp[E,c]) (hQ _ _ _ _ (.of (.v _)) ⟨k5,h,rfl⟩)
theorem qM (a:List cH) (k_:Int) (hp:gp a k_):aF prog 55 [.list false (a.map a7),int k_] (fun r=>r=int (cN a k_)):=(oe a k_ _ (pT a k_ hp)).mono (by rintro _ ⟨_,rfl,rfl⟩;rfl)
theorem e56:a8 prog 56:=a8.of func56 (by kernel_rfl) rfl
theorem rj (a:List aI) (k_:Int) (Z:Int->Prop) (h:gU a k_ Z):aF prog 56 [.list false (a.map aI.cells),int k_] (fun r=>∃ y:Int,Z y/\r=int y):=by
 unfold gU at h;refine aF.of func56 rfl ntmps56 (by simp) fun Q hQ=>?_
 refine J.cut (fun O H n=>(O 0 = .list false (a.map aI.cells)/\O 1=int k_)) (by simp) ?_;rintro O H U E;refine zE fun _ V=>?_
 simp[E];apply V;refine zS fun _ V=>?_
 simp[E];apply V;apply J.block;refine J.aO h (fun (sJ:Int × Int) O H n=>match sJ with | (k5,i6)=>(O 0 = .list false (a.map aI.cells)/\O 1=int k5/\O 5=int i6)) (by simp[E]) ?_;clear E;rintro⟨k5,i6⟩ O H n7 K h E IH8;refine zS fun _ V=>?_
 obtain⟨fe,g,h⟩:=aJ h;have f11:=fun H=>aQ (H:=H) (fr:=false) (f:=aI.cells) fh g
 obtain⟨i,j,h⟩:=aJ h;have f13:=bc (k:=.i64) j;simp[E,f11,f13,-ax,-aL];apply V;refine J.ite (b:=i) (by simp[E]) (fun c=>?_) (fun c=>?_)
 ·replace h:=h.1 c;apply zK;apply J.block;apply J.seq;refine J.gr aw aH bY (by decide) (by kernel_rfl) fun _ V=>?_
  obtain⟨l,h⟩:=h;obtain⟨X,o,h⟩:=aJ h;have f16:=fun H=>aU (H:=H) (fr:=false) (f:=aI.cells) (k:=.i64) fh (fun _=>rfl) l o
  obtain⟨p,h⟩:=h;obtain⟨Y,q,h⟩:=aJ h;simp[E,f16,c,-ar];refine bA.cY aw aH (ic k5 p) e48 (.cons (.v _ _ _) .nil) (by decide) rfl (by simp[E,f16,c,-ar]) ?_;rw[<- q];obtain⟨t,u,h⟩:=aJ h;have f20:=B7 u;simp[E,f16,f20,c,-ar,-kb];apply V;refine J.ite (b:=t) (by simp[E,c]) (fun e=>?_) (fun e=>?_)
  ·replace h:=h.1 e;refine zE fun _ V=>?_
   simp[E,c,e];apply V;exact J.bG (v:=int (-1)) func56 results56 (by simp[E,c,e]) (hQ _ _ _ _ (.of (.v _)) ⟨(-1),h,rfl⟩)
  replace h:=h.2 e;apply J.skip;refine zE fun _ V=>?_
  obtain⟨A,h⟩:=h;obtain⟨v22,B,h⟩:=aJ h;have f23:=aR A B;simp[E,f23,c,e,-ax];apply V;refine J.cut (fun O H n=>(O 0 = .list false (a.map aI.cells)/\O 1=int v22/\O 5=int i6)) (by simp[E,f23,c,e,-ax]) ?_;clear E;rintro O H n24 E;refine zS fun _ V=>?_
  obtain⟨C,h⟩:=h;obtain⟨ab,D,h⟩:=aJ h;have f27:=fun H=>aU (H:=H) (fr:=false) (f:=aI.cells) (k:=.i64) fh (fun _=>rfl) C D
  obtain⟨F,G,h⟩:=aJ h;have f29:=fH (k:=.i64) G;simp[E,f27,f29,-ar,-ax];apply V;refine J.ite (b:=F) (by simp[E]) (fun d=>?_) (fun d=>?_)
  ·replace h:=h.1 d;refine zE fun _ V=>?_
   simp[E,d];apply V;exact J.bG (v:=int (-1)) func56 results56 (by simp[E,d]) (hQ _ _ _ _ (.of (.v _)) ⟨(-1),h,rfl⟩)
  replace h:=h.2 d;apply J.skip;refine zF fun _ V=>?_
  obtain⟨L,h⟩:=h;obtain⟨v31,N,h⟩:=aJ h;have f32:=aR L N;simp[E,f32,d,-ax];apply V;refine zI fun _ V=>?_
  obtain⟨R,h⟩:=h;obtain⟨T,W,h⟩:=aJ h;have f35:=aR R W;simp[E,f35,d,-ax];apply V;refine IH8 (v31,T) _ _ _ h (by simp[E,d])
 replace h:=h.2 c;refine J.exit rfl ?_;refine zE fun _ V=>?_
 simp[E,c];apply V;exact J.bG (v:=int k5) func56 results56 (by simp[E,c]) (hQ _ _ _ _ (.of (.v _)) ⟨k5,h,rfl⟩)
theorem ug (a:List aI) (k_:Int) (hp:iZ a k_):aF prog 56 [.list false (a.map aI.cells),int k_] (fun r=>r=int (eu a k_)):=(rj a k_ _ (uA a k_ hp)).mono (by rintro _ ⟨_,rfl,rfl⟩;rfl)
theorem e53:a8 prog 53:=a8.of func53 (by kernel_rfl) rfl
theorem pW (a:List ay) (k_:Int) (Z:Int->Prop) (h:gF a k_ Z):aF prog 53 [.list false (a.map (ay.cells false)),int k_] (fun r=>∃ y:Int,Z y/\r=int y):=by
 unfold gF at h;refine aF.of func53 rfl ntmps53 (by simp) fun Q hQ=>?_
 refine J.cut (fun O H n=>(O 0 = .list false (a.map (ay.cells false))/\O 1=int k_)) (by simp) ?_;rintro O H U E;refine zE fun _ V=>?_
 simp[E];apply V;refine zS fun _ V=>?_
 simp[E];apply V;apply J.block;refine J.aO h (fun (sJ:Int × Int) O H n=>match sJ with | (k5,i6)=>(O 0 = .list false (a.map (ay.cells false))/\O 1=int k5/\O 5=int i6)) (by simp[E]) ?_;clear E;rintro⟨k5,i6⟩ O H n7 K h E IH8;refine zS fun _ V=>?_
 obtain⟨fe,o,h⟩:=aJ h;have f11:=fun H=>aQ (H:=H) (fr:=false) (f:=(ay.cells false)) cG o
 obtain⟨p,q,h⟩:=aJ h;have f13:=bc (k:=.i64) q;simp[E,f11,f13,-ax,-aL];apply V;refine J.ite (b:=p) (by simp[E]) (fun d=>?_) (fun d=>?_)
 ·replace h:=h.1 d;apply zK;apply J.block;refine zS fun _ V=>?_
  obtain⟨t,h⟩:=h;obtain⟨am,i,h⟩:=aJ h;have f16:=fun H=>aU (H:=H) (fr:=false) (f:=(ay.cells false)) (k:=.i64) cG (fun _=>rfl) t i
  obtain⟨u,A,h⟩:=aJ h;have f18:=fH (k:=.i64) A;simp[E,f16,f18,d,-ar,-ax];apply V;refine J.ite (b:=u) (by simp[E,d]) (fun e=>?_) (fun e=>?_)
  ·replace h:=h.1 e;refine zE fun _ V=>?_
   simp[E,d,e];apply V;exact J.bG (v:=int (-1)) func53 results53 (by simp[E,d,e]) (hQ _ _ _ _ (.of (.v _)) ⟨(-1),h,rfl⟩)
  replace h:=h.2 e;apply J.skip;refine zE fun _ V=>?_
  obtain⟨B,h⟩:=h;obtain⟨v20,C,h⟩:=aJ h;have f21:=aR B C;simp[E,f21,d,e,-ax];apply V;refine zS fun _ V=>?_
  obtain⟨D,h⟩:=h;obtain⟨ao,F,h⟩:=aJ h;have G:=i.trans F.symm;subst G;have f25:=fun H=>aU (H:=H) (fr:=false) (f:=(ay.cells false)) (k:=.i64) cG (fun _=>rfl) D i
  obtain⟨j,L,h⟩:=aJ h;have f27:=fH (k:=.i64) L;simp[E,f25,f27,d,e,-ar,-ax];apply V;refine J.cut (fun O H n=>(O 0 = .list false (a.map (ay.cells false))/\O 1=int v20/\O 5=int i6/\O 27=bool j)) (by simp[E,f25,f27,d,e,-ar,-ax]) ?_;clear E;rintro O H n28 E;refine J.ite (b:=j) (by simp[E]) (fun c=>?_) (fun c=>?_)
  ·replace h:=h.1 c;refine zE fun _ V=>?_
   simp[E,c];apply V;exact J.bG (v:=int (-1)) func53 results53 (by simp[E,c]) (hQ _ _ _ _ (.of (.v _)) ⟨(-1),h,rfl⟩)
  replace h:=h.2 c;apply J.skip;refine zE fun _ V=>?_
  obtain⟨N,h⟩:=h;obtain⟨v30,R,h⟩:=aJ h;have f31:=aR N R;simp[E,f31,c,-ax];apply V;refine zE fun _ V=>?_
  obtain⟨T,h⟩:=h;obtain⟨l,W,h⟩:=aJ h;have f34:=fun H=>aU (H:=H) (fr:=false) (f:=(ay.cells false)) (k:=.i64) cG (fun _=>rfl) T W
  obtain⟨X,h⟩:=h;obtain⟨r36,Y,h⟩:=aJ h;simp[E,f34,c,-ar];refine zA (oP l.links v30 X) e54 (.cons (dE false l.links) (.cons (.v _ _ _) .nil)) (by simp[E,f34,c,-ar]) ?_;rintro _ rfl;rw[<- Y];simp[E,f34,c,-ar];apply V;refine zE fun _ V=>?_
  obtain⟨ab,ac,h⟩:=aJ h;have f38:=bc (k:=.i64) ac;simp[E,f38,c,-ax];apply V;refine J.ite (b:=ab) (by simp[E,c]) (fun g=>?_) (fun g=>?_)
  ·replace h:=h.1 g;refine zE fun _ V=>?_
   simp[E,c,g];apply V;exact J.bG (v:=int (-1)) func53 results53 (by simp[E,c,g]) (hQ _ _ _ _ (.of (.v _)) ⟨(-1),h,rfl⟩)
  replace h:=h.2 g;apply J.skip;refine zI fun _ V=>?_
  obtain⟨ad,h⟩:=h;obtain⟨v40,af,h⟩:=aJ h;have f41:=aR ad af;simp[E,f41,c,g,-ax];apply V;refine J.cut (fun O H n=>(O 0 = .list false (a.map (ay.cells false))/\O 1=int r36/\O 5=int v40)) (by simp[E,f41,c,g,-ax]) ?_;clear E;rintro O H ap E;refine IH8 (r36,v40) _ _ _ h (by simp[E])
 replace h:=h.2 d;refine J.exit rfl ?_;refine zE fun _ V=>?_
 simp[E,d];apply V;exact J.bG (v:=int k5) func53 results53 (by simp[E,d]) (hQ _ _ _ _ (.of (.v _)) ⟨k5,h,rfl⟩)
theorem tX (a:List ay) (k_:Int) (hp:iU a k_):aF prog 53 [.list false (a.map (ay.cells false)),int k_] (fun r=>r=int (cg a k_)):=(pW a k_ _ (tN a k_ hp)).mono (by rintro _ ⟨_,rfl,rfl⟩;rfl)
theorem e18:a8 prog 18:=a8.of func18 (by kernel_rfl) rfl
theorem ub (a:aG) (k_:Int) (Z:(aG × Int)->Prop) (h:jL a k_ Z):gQ prog 18 (fun v=>[v,int k_]) (.a [.c,.s [.c,.c,.s [.c]],.s [.c],.c,.s [.c],.s [.c,.c]]) (.agg (bC true a)) (fun e' r=>∃ y:aG × Int,Z y/\e' = .agg (bC true y.1)/\r=int y.2):=by
 unfold jL at h;refine gQ.of func18 rfl ntmps18 (fun _=>by simp) fun H0 n0 v0 K0 bx M Q hQ=>?_
 have h00:=M.1;have hid:∀ i ∈ bx,H0 i=H0 i:=fun _ _=>rfl
 have hnn:n0<=n0:=Nat.le_refl _;replace M:=Sep.unpack M;obtain⟨L0,hv,hl0,M⟩:=M;subst hv;obtain⟨a0_,a1_,a2_,a3_,a4_,a5_,hv⟩:=aZ (by simpa using hl0);subst hv;simp only[dV,List.cons_append,List.nil_append] at M;replace M:=Sep.scalar M;obtain⟨hv,M⟩:=M;subst hv;replace M:=Sep.gz M;replace M:=Sep.gz M;replace M:=Sep.scalar M;obtain⟨hv,M⟩:=M;subst hv;replace M:=Sep.gz M;replace M:=Sep.gz M;try simp only[List.append_eq,List.cons_append,List.nil_append,List.append_assoc] at M
 replace M:=Sep.swap (K1:=K0) M;simp only[List.cons_append,List.nil_append] at M;refine J.cut (fun O H n=>(O 0 = .agg [int a.roots,a1_,a2_,int a.edges,a4_,a5_]/\O 1=int k_)/\n0<=n/\(∀ i ∈ bx,H i=H0 i)/\Sep H n (oN a1_ a.nodes::oI a2_ a.sites::oS a4_ a.outer::oW a5_ a.inner::K0) (bx)) (by refine⟨?_,(by omega),hid,M⟩<;>simp ) ?_;rintro O H n5 ⟨E,hnn,hid,M⟩;have hq_n5:=hnn;refine zE fun _ V=>?_
 have f6:=Sep.oc M;have f7:=Sep.oc M.f1;have f8:=Sep.oc M.f2;have f9:=Sep.oc M.f3;simp[E,f6,f7,f8,f9,-az,-aE,bB,bf];apply V;refine J.cut (fun O H n=>(O 1=int k_/\O 2=pA n5 2)/\H (n5,2)=some ⟨6,[[int a.roots,a1_,a2_,int a.edges,a4_,a5_]]⟩/\n0<=n/\(∀ i ∈ bx,H i=H0 i)/\Sep H n (oN a1_ a.nodes::oI a2_ a.sites::oS a4_ a.outer::oW a5_ a.inner::K0) ((n5,2)::bx)) (by refine⟨?_,?_,(by omega),(by intro i hi;have hlt:=h00 i (by simp[hi]);repeat (first | exact hid i hi | rw[av.aD _ _ (by rintro rfl;simp at hlt;omega)])),M.var⟩<;>simp[E,f6,f7,f8,f9,-az,-aE,bB,bf]) ?_;clear E;rintro O H T ⟨E,b,hnn,hid,M⟩;have hq_n11:=hnn;refine zE fun _ V=>?_
 obtain⟨K,h⟩:=h;obtain⟨d,j,h⟩:=aJ h;have f14:=Sep.oc M;simp[E,b,f14,-az,-aE,bB,bf];refine bq.oT (v:=a1_) aw (uo a.nodes k_ K) e49 M (by decide) (by decide) rfl (by simp[E,b,f14,-az,-aE,bB,bf]) ?_;rintro _ l n16 _ ⟨rfl,rfl⟩ M W o;rw[<- j] at M;rw[<- j];replace M:Sep l n16 (oN a1_ d.1::oI a2_ a.sites::oS a4_ a.outer::oW a5_ a.inner::K0) ((n5,2)::bx):=M;have hid:∀ i ∈ bx,l i=H0 i:=fun i hi=>(o i (by simp[hi])).trans (hid i hi)
 have hnn:n0<=n16:=by omega
 have hq_n16:=hnn;have b:=(o _ (by simp)).trans b;simp[E,b,f14,-az,-aE,bB,bf];apply V;refine J.cut (fun O H n=>(O 1=int d.2/\O 2=pA n5 2)/\H (n5,2)=some ⟨6,[[int a.roots,a1_,a2_,int a.edges,a4_,a5_]]⟩/\n0<=n/\(∀ i ∈ bx,H i=H0 i)/\Sep H n (oN a1_ d.1::oI a2_ a.sites::oS a4_ a.outer::oW a5_ a.inner::K0) ((n5,2)::bx)) (by refine⟨?_,?_,(by omega),hid,M⟩<;>simp[E,b,f14,-az,-aE,bB,bf]) ?_;clear E b;rintro O H n20 ⟨E,b,hnn,hid,M⟩;have hq_n20:=hnn;refine zE fun _ V=>?_
 obtain⟨L,h⟩:=h;obtain⟨e,p,h⟩:=aJ h;have f23:=Sep.oc M.f1;simp[E,b,f23,-az,-aE,bB,bf];refine bq.oT (v:=a2_) aw (o9 a.sites d.2 L) e50 M.f1 (by decide) (by decide) rfl (by simp[E,b,f23,-az,-aE,bB,bf]) ?_;rintro _ q n25 _ ⟨rfl,rfl⟩ M X t;rw[<- p] at M;rw[<- p];replace M:Sep q n25 (oI a2_ e.1::oN a1_ d.1::oS a4_ a.outer::oW a5_ a.inner::K0) ((n5,2)::bx):=M;have hid:∀ i ∈ bx,q i=H0 i:=fun i hi=>(t i (by simp[hi])).trans (hid i hi)
 have hnn:n0<=n25:=by omega
 have hq_n25:=hnn;have b:=(t _ (by simp)).trans b;simp[E,b,f23,-az,-aE,bB,bf];apply V;refine J.cut (fun O H n=>(O 1=int e.2/\O 2=pA n5 2)/\H (n5,2)=some ⟨6,[[int a.roots,a1_,a2_,int a.edges,a4_,a5_]]⟩/\n0<=n/\(∀ i ∈ bx,H i=H0 i)/\Sep H n (oI a2_ e.1::oN a1_ d.1::oS a4_ a.outer::oW a5_ a.inner::K0) ((n5,2)::bx)) (by refine⟨?_,?_,(by omega),hid,M⟩<;>simp[E,b,f23,-az,-aE,bB,bf]) ?_;clear E b;rintro O H n29 ⟨E,b,hnn,hid,M⟩;have hq_n29:=hnn;refine zE fun _ V=>?_
 obtain⟨N,h⟩:=h;obtain⟨r31,u,h⟩:=aJ h;have f32:=Sep.oc M.f2;simp[E,b,f32,-az,-aE,bB,bf];refine bq.oT (v:=a4_) aw (qn a.outer e.2 N) e51 M.f2 (by decide) (by decide) rfl (by simp[E,b,f32,-az,-aE,bB,bf]) ?_;rintro _ A n34 _ ⟨rfl,rfl⟩ M Y B;rw[<- u] at M;rw[<- u];replace M:Sep A n34 (oS a4_ r31.1::oI a2_ e.1::oN a1_ d.1::oW a5_ a.inner::K0) ((n5,2)::bx):=M;have hid:∀ i ∈ bx,A i=H0 i:=fun i hi=>(B i (by simp[hi])).trans (hid i hi)
 have hnn:n0<=n34:=by omega
 have hq_n34:=hnn;have b:=(B _ (by simp)).trans b;simp[E,b,f32,-az,-aE,bB,bf];apply V;refine J.cut (fun O H n=>(O 1=int r31.2/\O 2=pA n5 2)/\H (n5,2)=some ⟨6,[[int a.roots,a1_,a2_,int a.edges,a4_,a5_]]⟩/\n0<=n/\(∀ i ∈ bx,H i=H0 i)/\Sep H n (oS a4_ r31.1::oI a2_ e.1::oN a1_ d.1::oW a5_ a.inner::K0) ((n5,2)::bx)) (by refine⟨?_,?_,(by omega),hid,M⟩<;>simp[E,b,f32,-az,-aE,bB,bf]) ?_;clear E b;rintro O H n38 ⟨E,b,hnn,hid,M⟩;have hq_n38:=hnn;refine zE fun _ V=>?_
 obtain⟨R,h⟩:=h;obtain⟨g,C,h⟩:=aJ h;have f41:=Sep.oc M.f3;simp[E,b,f41,-az,-aE,bB,bf];refine bq.oT (v:=a5_) aw (tm a.inner r31.2 R) e52 M.f3 (by decide) (by decide) rfl (by simp[E,b,f41,-az,-aE,bB,bf]) ?_;rintro _ D F _ ⟨rfl,rfl⟩ M ab G;rw[<- C] at M;rw[<- C];replace M:Sep D F (oW a5_ g.1::oS a4_ r31.1::oI a2_ e.1::oN a1_ d.1::K0) ((n5,2)::bx):=M;have hid:∀ i ∈ bx,D i=H0 i:=fun i hi=>(G i (by simp[hi])).trans (hid i hi)
 have hnn:n0<=F:=by omega
 have hq_n43:=hnn;have b:=(G _ (by simp)).trans b;simp[E,b,f41,-az,-aE,bB,bf];apply V;refine J.cut (fun O H n=>O 1=int g.2/\n0<=n/\(∀ i ∈ bx,H i=H0 i)/\Sep H n (oW a5_ g.1::oS a4_ r31.1::oI a2_ e.1::oN a1_ d.1::K0) (bx)) (by refine⟨?_,(by omega),hid,(Sep.sub M (by simp +contextual))⟩<;>simp[E,b,f41,-az,-aE,bB,bf]) ?_;clear E b;rintro O H ac ⟨E,hnn,hid,M⟩;have hq_n47:=hnn;refine zE fun _ V=>?_
 simp[E];apply V;exact J.bG (v:=int g.2) func18 results18 (by simp[E]) (hQ _ _ _ _ (Sep.sub (Sep.pack (aT.v _ (aT.own (aT.own (aT.v _ (aT.own (aT.own aT.nil)))))) M.f1.f2.f3) (by simp +contextual)) hid (by omega) ⟨((aG.mk a.roots d.1 e.1 a.edges r31.1 g.1),g.2),h,rfl,rfl⟩)
theorem rf (a:aG) (k_:Int) (hp:fb a k_):gQ prog 18 (fun v=>[v,int k_]) (.a [.c,.s [.c,.c,.s [.c]],.s [.c],.c,.s [.c],.s [.c,.c]]) (.agg (bC true a)) (fun e' r=>e' = .agg [int (((cf a k_).1).roots),.list true ((((cf a k_).1).nodes).map (ay.cells true)),.list true ((((cf a k_).1).sites).map au),int (((cf a k_).1).edges),.list true ((((cf a k_).1).outer).map a7),.list true ((((cf a k_).1).inner).map aI.cells)]/\r=int ((cf a k_).2)):=(ub a k_ _ (yL a k_ hp)).mono (by rintro _ _ ⟨_,rfl,rfl,rfl⟩;exact⟨rfl,rfl⟩)
theorem e19:a8 prog 19:=a8.of func19 (by kernel_rfl) rfl
theorem tU (a:aG) (k_:Int) (Z:Int->Prop) (h:jU a k_ Z):aF prog 19 [.agg (bC false a),int k_] (fun r=>∃ y:Int,Z y/\r=int y):=by
 unfold jU at h;refine aF.of func19 rfl ntmps19 (by simp) fun Q hQ=>?_
 refine J.cut (fun O H n=>(O 0 = .agg (bC false a)/\O 1=int k_)) (by simp) ?_;rintro O H U E;refine zE fun _ V=>?_
 simp[E];apply V;refine J.cut (fun O H n=>(O 1=int k_/\O 2=pA U 2)/\H (U,2)=some ⟨6,[bC false a]⟩) (by refine⟨?_,?_⟩<;>simp[E]) ?_;clear E;rintro O H n3 ⟨E,c⟩;refine zE fun _ V=>?_
 obtain⟨hb4,h⟩:=h;obtain⟨r5,er5,h⟩:=aJ h;simp[E,c];refine zA (tX a.nodes k_ hb4) e53 (.cons (aN.kV false a.nodes) (.cons (.v _ _ _) .nil)) (by simp[E,c]) ?_;rintro _ rfl;rw[<- er5];simp[E,c];apply V;refine zS fun _ V=>?_
 obtain⟨c6,ec6,h⟩:=aJ h;have f7:=bc (k:=.i64) ec6;simp[E,c,f7,-ax];apply V;refine J.ite (b:=c6) (by simp[E,c]) (fun dc6=>?_) (fun dc6=>?_)
 ·replace h:=h.1 dc6;refine zE fun _ V=>?_
  simp[E,c,dc6];apply V;exact J.bG (v:=int (-1)) func19 results19 (by simp[E,c,dc6]) (hQ _ _ _ _ (.of (.v _)) ⟨(-1),h,rfl⟩)
 replace h:=h.2 dc6;apply J.skip;refine zE fun _ V=>?_
 obtain⟨hb8,h⟩:=h;obtain⟨r9,er9,h⟩:=aJ h;simp[E,c,dc6];refine zA (oP a.sites r5 hb8) e54 (.cons (dE false a.sites) (.cons (.v _ _ _) .nil)) (by simp[E,c,dc6]) ?_;rintro _ rfl;rw[<- er9];simp[E,c,dc6];apply V;refine zS fun _ V=>?_
 obtain⟨l,o,h⟩:=aJ h;have f11:=bc (k:=.i64) o;simp[E,c,f11,dc6,-ax];apply V;refine J.ite (b:=l) (by simp[E,c,dc6]) (fun e=>?_) (fun e=>?_)
 ·replace h:=h.1 e;refine zE fun _ V=>?_
  simp[E,c,dc6,e];apply V;refine J.cut (fun O H n=>O 4=int (-1)) (by simp[E,c,dc6,e]) ?_;clear E c;rintro O H F E;exact J.bG (v:=int (-1)) func19 results19 (by simp[E]) (hQ _ _ _ _ (.of (.v _)) ⟨(-1),h,rfl⟩)
 replace h:=h.2 e;apply J.skip;refine zE fun _ V=>?_
 obtain⟨p,h⟩:=h;obtain⟨i,q,h⟩:=aJ h;simp[E,c,dc6,e];refine zA (qM a.outer r9 p) e55 (.cons (Cl false a.outer) (.cons (.v _ _ _) .nil)) (by simp[E,c,dc6,e]) ?_;rintro _ rfl;rw[<- q];simp[E,c,dc6,e];apply V;refine J.cut (fun O H n=>(O 1=int i/\O 2=pA U 2)/\H (U,2)=some ⟨6,[bC false a]⟩) (by refine⟨?_,?_⟩<;>simp[E,c,dc6,e]) ?_;clear E c;rintro O H n15 ⟨E,c⟩;refine zS fun _ V=>?_
 obtain⟨t,u,h⟩:=aJ h;have f17:=bc (k:=.i64) u;simp[E,c,f17,-ax];apply V;refine J.ite (b:=t) (by simp[E,c]) (fun d=>?_) (fun d=>?_)
 ·replace h:=h.1 d;refine zE fun _ V=>?_
  simp[E,c,d];apply V;exact J.bG (v:=int (-1)) func19 results19 (by simp[E,c,d]) (hQ _ _ _ _ (.of (.v _)) ⟨(-1),h,rfl⟩)
 replace h:=h.2 d;apply J.skip;refine zE fun _ V=>?_
 obtain⟨A,h⟩:=h;obtain⟨j,B,h⟩:=aJ h;simp[E,c,d];refine zA (ug a.inner i A) e56 (.cons (Ef false a.inner) (.cons (.v _ _ _) .nil)) (by simp[E,c,d]) ?_;rintro _ rfl;rw[<- B];simp[E,c,d];apply V;refine zS fun _ V=>?_
 obtain⟨C,D,h⟩:=aJ h;have f21:=bc (k:=.i64) D;simp[E,c,f21,d,-ax];apply V;refine J.ite (b:=C) (by simp[E,c,d]) (fun g=>?_) (fun g=>?_)
 ·replace h:=h.1 g;refine zE fun _ V=>?_
  simp[E,c,d,g];apply V;exact J.bG (v:=int (-1)) func19 results19 (by simp[E,c,d,g]) (hQ _ _ _ _ (.of (.v _)) ⟨(-1),h,rfl⟩)
 replace h:=h.2 g;apply J.skip;refine zE fun _ V=>?_
 simp[E,c,d,g];apply V;exact J.bG (v:=int j) func19 results19 (by simp[E,c,d,g]) (hQ _ _ _ _ (.of (.v _)) ⟨j,h,rfl⟩)
theorem qT (a:aG) (k_:Int) (hp:fS a k_):aF prog 19 [.agg (bC false a),int k_] (fun r=>r=int (iE a k_)):=(tU a k_ _ (w4 a k_ hp)).mono (by rintro _ ⟨_,rfl,rfl⟩;rfl)
end Go.Ab.Vg
namespace Go.Ab.Vg
open Go.Proofs
set_option maxRecDepth 100000
end Go.Ab.Vg
namespace Go.Ab.Vg
open Go.Proofs
set_option maxRecDepth 100000
attribute [local simp] ay.cells aI.cells au iX a7 bC pA
theorem EN (b:aG) (h:wi b):aF prog 105 [.agg (aG.cells false b)] (fun r=>∃ y0 y1 y2 y3 y4 y5 y6:Value,(one y0=true/\one y1=true/\one y2=true/\one y3=true/\one y4=true/\one y5=true/\one y6=true)/\r = .tup [.list true ((tl b).1.map au),.agg [.v y0,.v y1,.v y2,.v y3,.v y4,.v y5,.list true ((tl b).2.edges.map au),.list true ((tl b).2.places.map au),.v y6]]):=let ⟨_,hv⟩:=h;oy hv hv.even hv.sm
theorem e105:a8 prog 105:=a8.of func105 (by kernel_rfl) rfl
theorem e83:a8 prog 83:=a8.of func83 (by kernel_rfl) rfl
theorem tY (b:aG) (Z:(List Int)->Prop) (h:jI b Z):aF prog 83 [.agg (bC false b)] (fun r=>∃ y:List Int,Z y/\r = .list true (y.map au)):=by
 unfold jI at h;refine aF.of func83 rfl ntmps83 (by simp) fun Q hQ=>?_
 refine J.cut (fun O H n=>O 0 = .agg (bC false b)) (by simp) ?_;rintro O H U E;refine zE fun _ V=>?_
 simp[E];apply V;refine J.cut (fun O H n=>O 1=pA U 1/\H (U,1)=some ⟨6,[bC false b]⟩) (by refine⟨?_,?_⟩<;>simp[E]) ?_;clear E;rintro O H n3 ⟨E,a⟩;refine J.gr aw aH bY (by decide) (by kernel_rfl) fun _ V=>?_
 obtain⟨nk,elen4,h⟩:=aJ h;have f5:=fun H=>aQ (H:=H) (fr:=false) (f:=(ay.cells false)) cG elen4
 obtain⟨hb6,h⟩:=h;obtain⟨r7,er7,h⟩:=aJ h;simp[E,a,f5,-aL];refine bA.cY aw aH ((mQ nk hb6).pure) EB (.cons (.v _ _ _) .nil) (by decide) rfl (by simp[E,a,f5,-aL]) ?_;rw[<- er7];obtain⟨hb8,h⟩:=h;obtain⟨r9,er9,h⟩:=aJ h;simp[E,a,f5,-aL];refine bA.cY aw aH ((mQ b.edges hb8).pure) EB (.cons (.v _ _ _) .nil) (by decide) rfl (by simp[E,a,f5,-aL]) ?_;rw[<- er9];obtain⟨d,h⟩:=h;obtain⟨c,e,h⟩:=aJ h;simp[E,a,f5,-aL];refine bA.cY aw aH ((CW b r7 r9 0 d).pure) e128 (.cons (dU false b) (.cons (dE true r7) (.cons (dE true r9) (.cons (.v _ _ _) .nil)))) (by decide) rfl (by simp[E,a,f5,-aL]) ?_;rw[<- e];simp[E,a,f5,-aL];apply V;refine zE fun _ V=>?_
 simp[E,a];apply V;refine J.cut (fun O H n=>O 2 = .list true (c.2.map au)) (by simp[E,a]) ?_;clear E a;rintro O H g E;exact J.bG (v:=.list true (c.2.map au)) func83 results83 (by simp[E]) (hQ _ _ _ _ (.of (.fresh (by simp))) ⟨c.2,h,rfl⟩)
theorem xT (b:aG) (hp:kI b):aF prog 83 [.agg (bC false b)] (fun r=>r = .list true ((pw b).map au)):=(tY b _ (yM b hp)).mono (by rintro _ ⟨_,rfl,rfl⟩;rfl)
end Go.Ab.Vg
namespace Go.Ab.Vg
open Go.Proofs
set_option maxRecDepth 100000
end Go.Ab.Vg
namespace Go.Ab.Vg
open Go.Proofs
set_option maxRecDepth 100000
end Go.Ab.Vg
namespace Go.Ab.Vg
open Go.Proofs
set_option maxRecDepth 100000
attribute [local simp] a7
theorem e111:a8 prog 111:=a8.of func111 (by kernel_rfl) rfl
theorem wm (s:List cH) (Z:(List cH)->Prop) (h:lD s Z):bL prog 111 [.list false (s.map a7)] (.s [.c]) (fun r=>∃ y:List cH,Z y/\r = .list true (y.map a7)):=by
 unfold lD at h;have M:Sep bu 0 [] []:=Sep.nil (by simp);refine bL.of func111 rfl ntmps111 (by simp) fun Q hQ=>?_
 refine J.cut (fun O H n=>O 0 = .list false (s.map a7)/\Sep H n [] []) (by refine⟨by simp ,M⟩) ?_;rintro O H U ⟨E,M⟩;refine zE fun _ V=>?_
 simp[E];apply V;refine zS fun _ V=>?_
 simp[E];refine bq.isNil (fr:=false) (els:=s.map a7) aw (by decide) (by decide) ez (by simp[E]) (by simp[E]) ?_;rintro c2 hc3;replace h:=h c2 (fun hq=>by simpa using hc3 hq);simp[E];apply V;refine J.ite (b:=c2) (by simp[E]) (fun dc2=>?_) (fun dc2=>?_)
 ·replace h:=h.1 dc2;refine zE fun _ V=>?_
  simp[E,dc2];apply V;exact J.bG (v:=.v (.slice none 0 0)) func111 results111 (by simp[E,dc2]) (hQ _ _ _ _ (Sep.sub (dQ:=[]) (Sep.fD M) (by simp)) ⟨[],h,rfl⟩)
 replace h:=h.2 dc2;apply J.skip;refine zE fun _ V=>?_
 obtain⟨hb6,h⟩:=h;obtain⟨l7,el7,h⟩:=aJ h;simp[E,dc2,-bj];refine dk (s.map a7) (Sep.addEmpty (l:=[.c]) M) (by simp) ez (by simp) (by simp) (by simp[cy]) (by simp[-aE,bf]) (by simpa using hb6) ?_;rintro v8 H9 d M e g;replace M:Sep H9 d [oS v8 l7] []:=by refine Sep.ap el7 ?_;exact M
 simp[E,dc2];apply V;refine J.cut (fun O H n=>∃ (a:I),O 2=a/\Sep H n [oS a l7] []) (by refine⟨v8,by simp[E,dc2],M⟩) ?_;clear E;rintro O H n15 ⟨a,E,M⟩;exact J.bG (v:=a) func111 results111 (by simp[E]) (hQ _ _ _ _ (Sep.sub (dQ:=[]) M (by simp)) ⟨l7,h,rfl⟩)
theorem BU (s:List cH) (hp:jK s):bL prog 111 [.list false (s.map a7)] (.s [.c]) (fun r=>r = .list true ((xJ s).map a7)):=(wm s _ (An s hp)).mono (by rintro _ ⟨_,rfl,rfl⟩;rfl)
end Go.Ab.Vg
