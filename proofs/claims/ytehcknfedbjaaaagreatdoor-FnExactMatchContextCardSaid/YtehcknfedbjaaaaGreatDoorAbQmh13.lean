/- Merged texts (13 of 18) of the proof that ends in Mhy: Mnw Lmt Lmw. -/
import Derived.Test.YtehcknfedbjaaaaGreatDoorAbQmh12
set_option linter.unusedSimpArgs false
set_option linter.unusedVariables false
open Go.Proofs.Tryz
namespace Go.Ab.Vg
open Go.Proofs
set_option maxRecDepth 100000
attribute [local simp] Control.cells ay.cells aD.cells Match.cells aA gL aT bC mC pA
theorem e40:a8 prog 40:=a8.of func40 (by kernel_rfl) rfl
theorem Au (s:List Int) (Z:(List Int)->Prop) (h:oV s Z):bn prog 40 [.list false (s.map aA)] (.s [.c]) (fun r=>∃ y:List Int,Z y/\r = .list true (y.map aA)):=by
 unfold oV at h;have M:Sep bx 0 [] []:=Sep.nil (by simp);refine bn.of func40 rfl ntmps40 (by simp) fun Q hQ=>?_
 refine J.cut (fun O H n=>O 0 = .list false (s.map aA)/\Sep H n [] []) (by refine⟨by simp ,M⟩) ?_;rintro O H U ⟨E,M⟩;refine zE fun _ V=>?_
 simp[E];apply V;refine zS fun _ V=>?_
 simp[E];refine bX.isNil (fr:=false) (els:=s.map aA) aB (by decide) (by decide) aV (by simp[E]) (by simp[E]) ?_;rintro c2 hc3;replace h:=h c2 (fun hq=>by simpa using hc3 hq);simp[E];apply V;refine J.ite (b:=c2) (by simp[E]) (fun dc2=>?_) (fun dc2=>?_)
 ·replace h:=h.1 dc2;refine zE fun _ V=>?_
  simp[E,dc2];apply V;exact J.bj (v:=.v (.slice none 0 0)) func40 results40 (by simp[E,dc2]) (hQ _ _ _ _ (Sep.sub (dn:=[]) (Sep.cY M) (by simp)) ⟨[],h,rfl⟩)
 replace h:=h.2 dc2;apply J.skip;refine zE fun _ V=>?_
 obtain⟨hb6,h⟩:=h;obtain⟨l7,el7,h⟩:=aE h;simp[E,dc2,-bb];refine ff (s.map aA) (Sep.addEmpty (l:=[.c]) M) (by simp) aV (by simp) (by simp) (by simp[cb]) (by simp[-aH,bc]) (by simpa using hb6) ?_;rintro v8 H9 n10 M d e;replace M:Sep H9 n10 [oI v8 l7] []:=by refine Sep.ap el7 ?_;exact M
 simp[E,dc2];apply V;refine J.cut (fun O H n=>∃ (a:au),O 2=a/\Sep H n [oI a l7] []) (by refine⟨v8,by simp[E,dc2],M⟩) ?_;clear E;rintro O H n15 ⟨a,E,M⟩;exact J.bj (v:=a) func40 results40 (by simp[E]) (hQ _ _ _ _ (Sep.sub (dn:=[]) M (by simp)) ⟨l7,h,rfl⟩)
theorem rf (s:List Int) (hp:mn s):bn prog 40 [.list false (s.map aA)] (.s [.c]) (fun r=>r = .list true ((ui s).map aA)):=(Au s _ (D3 s hp)).mono (by rintro _ ⟨_,rfl,rfl⟩;rfl)
end Go.Ab.Vg
namespace Go.Ab.Vg
open Go.Proofs
theorem jv (k:Int) (h:dj k):aF prog 53 [int k] (fun r=>r=str (df k)):=by
 have:=zL k.toNat (by omega)
 rwa [Int.toNat_of_nonneg h.1] at this
end Go.Ab.Vg
namespace Go.Ab.Vg
open Go.Proofs
set_option maxRecDepth 100000
attribute [local simp] Control.cells ay.cells aD.cells aA gL aT bC pA zB
theorem e36:a8 prog 36:=a8.of func36 (by kernel_rfl) rfl
theorem Am (a:List Int) (Z:(List Int)->Prop) (h:oz a Z):bn prog 36 [.list false (a.map aA)] (.s [.c]) (fun r=>∃ y:List Int,Z y/\r = .list true (y.map aA)):=by
 unfold oz at h;have M:Sep bx 0 [] []:=Sep.nil (by simp);refine bn.of func36 rfl ntmps36 (by simp) fun Q hQ=>?_
 refine J.cut (fun O H n=>O 0 = .list false (a.map aA)/\Sep H n [] []) (by refine⟨by simp ,M⟩) ?_;rintro O H U ⟨E,M⟩;refine zE fun _ V=>?_
 simp[E];apply V;refine zE fun _ V=>?_
 obtain⟨cJ,elen2,h⟩:=aE h;have f3:=fun H=>aN (H:=H) (fr:=false) (f:=aA) aV elen2
 obtain⟨hb4,h⟩:=h;obtain⟨l5,el5,h⟩:=aE h;simp[E,f3,hb4,el5,-aZ];apply V;refine J.cut (fun O H n=>∃ (v7:au),(O 0 = .list false (a.map aA)/\O 3=v7)/\Sep H n [oI v7 l5] []) (by refine⟨.arr (U,7) cJ.toNat 0 cJ.toNat,by simp[E,f3,hb4,el5,-aZ],(by rw[el5];exact Sep.uZ (z:=[int 0]) (f:=aA) (k:=cJ.toNat) M (fun H=>by show Row H [.c] [int 0] [int 0] [];simp[Row,Tr]))⟩) ?_;clear E;rintro O H n8 ⟨v7,E,M⟩;refine zS fun _ V=>?_
 simp[E];apply V;apply J.block;refine J.aI h (fun (sJ:Int × (List Int)) O H n=>match sJ with | (i16,d)=>∃ (i:au),(O 0 = .list false (a.map aA)/\O 3=i/\O 4=int i16)/\Sep H n [oI i d] []) (by refine⟨v7,by simp[E],M⟩) ?_;clear E;rintro⟨i16,d⟩ O H n19 K h ⟨i,E,M⟩ p;refine zS fun _ V=>?_
 obtain⟨W,t,h⟩:=aE h;have f23:=fun H=>aN (H:=H) (fr:=false) (f:=aA) aV t
 obtain⟨u,A,h⟩:=aE h;have f25:=aX (k:=.i64) A;simp[E,f23,f25,-aw,-aZ];apply V;refine J.ite (b:=u) (by simp[E]) (fun e=>?_) (fun e=>?_)
 ·replace h:=h.1 e;apply zK;apply J.block;refine zF fun _ V=>?_
  obtain⟨B,h⟩:=h;obtain⟨C,D,h⟩:=aE h;have f28:=fun H=>aO (H:=H) (fr:=false) (f:=aA) (k:=.i64) aV (fun _=>rfl) B D
  obtain⟨j,h⟩:=h;obtain⟨l,hv,F,X,Y⟩:=Sep.eh M (by simp) j;subst hv;obtain⟨ab,G,h⟩:=aE h;have f35:=fun H (hm:H l=some ⟨1,d.map aA⟩)=>ct (H:=H) (k:=.i64) (off:=0) (len:=d.length) (g:=d.length) aV hm (by simp) rfl j
  have f36:=b6 (q:=i16.toNat) j G rfl;obtain⟨o,L,h⟩:=aE h;simp[E,F,f28,f35,f36,e,-av,-ca];refine et (q:=i16.toNat) (news:=aA C) [] [] M (by simp) (by simp;omega) (by simp) (by simp[-aH,bc]) (aK.v _ aK.nil) ?_;rintro N M ac;replace M:Sep N n19 [oI (.arr l d.length 0 d.length) o] []:=Sep.st L M;simp[E,f28,f35,f36,e,-av];apply V;refine J.cut (fun O H n=>∃ (v41:au),(O 0 = .list false (a.map aA)/\O 3=v41/\O 4=int i16)/\Sep H n [oI v41 o] []) (by refine⟨.arr l d.length 0 d.length,by simp[E,f28,f35,f36,e,-av],M⟩) ?_;clear E;rintro O H n42 ⟨v41,E,M⟩;refine zI fun _ V=>?_
  obtain⟨R,h⟩:=h;obtain⟨v44,T,h⟩:=aE h;have f45:=aR R T;simp[E,f45,-aw];apply V;refine p (v44,o) _ _ _ h (by refine⟨v41,by simp[E],M⟩)
 replace h:=h.2 e;refine J.exit rfl ?_;refine zE fun _ V=>?_
 simp[E,e];apply V;exact J.bj (v:=i) func36 results36 (by simp[E,e]) (hQ _ _ _ _ (Sep.sub (dn:=[]) M (by simp)) ⟨d,h,rfl⟩)
theorem gU (a:List Int) (hp:fN a):bn prog 36 [.list false (a.map aA)] (.s [.c]) (fun r=>r = .list true ((rH a).map aA)):=(Am a _ (Fi a hp)).mono (by rintro _ ⟨_,rfl,rfl⟩;rfl)
theorem e37:a8 prog 37:=a8.of func37 (by kernel_rfl) rfl
theorem tM (a:List a6) (Z:(List a6)->Prop) (h:iU a Z):bn prog 37 [.list false (a.map aT)] (.s [.c]) (fun r=>∃ y:List a6,Z y/\r = .list true (y.map aT)):=by
 unfold iU at h;have M:Sep bx 0 [] []:=Sep.nil (by simp);refine bn.of func37 rfl ntmps37 (by simp) fun Q hQ=>?_
 refine J.cut (fun O H n=>O 0 = .list false (a.map aT)/\Sep H n [] []) (by refine⟨by simp ,M⟩) ?_;rintro O H U ⟨E,M⟩;refine zE fun _ V=>?_
 simp[E];apply V;refine zE fun _ V=>?_
 obtain⟨cJ,elen2,h⟩:=aE h;have f3:=fun H=>aN (H:=H) (fr:=false) (f:=aT) bY elen2
 obtain⟨hb4,h⟩:=h;obtain⟨l5,el5,h⟩:=aE h;simp[E,f3,hb4,el5,-aZ];apply V;refine J.cut (fun O H n=>∃ (v7:au),(O 0 = .list false (a.map aT)/\O 3=v7)/\Sep H n [oS v7 l5] []) (by refine⟨.arr (U,7) cJ.toNat 0 cJ.toNat,by simp[E,f3,hb4,el5,-aZ],(by rw[el5];exact Sep.uZ (z:=[str []]) (f:=aT) (k:=cJ.toNat) M (fun H=>by show Row H [.c] [str []] [str []] [];simp[Row,Tr]))⟩) ?_;clear E;rintro O H n8 ⟨v7,E,M⟩;refine zS fun _ V=>?_
 simp[E];apply V;apply J.block;refine J.aI h (fun (sJ:Int × (List a6)) O H n=>match sJ with | (i16,d)=>∃ (i:au),(O 0 = .list false (a.map aT)/\O 3=i/\O 4=int i16)/\Sep H n [oS i d] []) (by refine⟨v7,by simp[E],M⟩) ?_;clear E;rintro⟨i16,d⟩ O H n19 K h ⟨i,E,M⟩ p;refine zS fun _ V=>?_
 obtain⟨W,t,h⟩:=aE h;have f23:=fun H=>aN (H:=H) (fr:=false) (f:=aT) bY t
 obtain⟨u,A,h⟩:=aE h;have f25:=aX (k:=.i64) A;simp[E,f23,f25,-aw,-aZ];apply V;refine J.ite (b:=u) (by simp[E]) (fun e=>?_) (fun e=>?_)
 ·replace h:=h.1 e;apply zK;apply J.block;refine zF fun _ V=>?_
  obtain⟨B,h⟩:=h;obtain⟨C,D,h⟩:=aE h;have f28:=fun H=>aO (H:=H) (fr:=false) (f:=aT) (k:=.i64) bY (fun _=>rfl) B D
  obtain⟨j,h⟩:=h;obtain⟨l,hv,F,X,Y⟩:=Sep.eh M (by simp) j;subst hv;obtain⟨ab,G,h⟩:=aE h;have f35:=fun H (hm:H l=some ⟨1,d.map aT⟩)=>ct (H:=H) (k:=.i64) (off:=0) (len:=d.length) (g:=d.length) bY hm (by simp) rfl j
  have f36:=b6 (q:=i16.toNat) j G rfl;obtain⟨o,L,h⟩:=aE h;simp[E,F,f28,f35,f36,e,-av,-ca];refine et (q:=i16.toNat) (news:=aT C) [] [] M (by simp) (by simp;omega) (by simp) (by simp[-aH,bc]) (aK.v _ aK.nil) ?_;rintro N M ac;replace M:Sep N n19 [oS (.arr l d.length 0 d.length) o] []:=Sep.st L M;simp[E,f28,f35,f36,e,-av];apply V;refine J.cut (fun O H n=>∃ (v41:au),(O 0 = .list false (a.map aT)/\O 3=v41/\O 4=int i16)/\Sep H n [oS v41 o] []) (by refine⟨.arr l d.length 0 d.length,by simp[E,f28,f35,f36,e,-av],M⟩) ?_;clear E;rintro O H n42 ⟨v41,E,M⟩;refine zI fun _ V=>?_
  obtain⟨R,h⟩:=h;obtain⟨v44,T,h⟩:=aE h;have f45:=aR R T;simp[E,f45,-aw];apply V;refine p (v44,o) _ _ _ h (by refine⟨v41,by simp[E],M⟩)
 replace h:=h.2 e;refine J.exit rfl ?_;refine zE fun _ V=>?_
 simp[E,e];apply V;exact J.bj (v:=i) func37 results37 (by simp[E,e]) (hQ _ _ _ _ (Sep.sub (dn:=[]) M (by simp)) ⟨d,h,rfl⟩)
theorem mD (a:List a6) (hp:gY a):bn prog 37 [.list false (a.map aT)] (.s [.c]) (fun r=>r = .list true ((rO a).map aT)):=(tM a _ (xS a hp)).mono (by rintro _ ⟨_,rfl,rfl⟩;rfl)
theorem e34:a8 prog 34:=a8.of func34 (by kernel_rfl) rfl
theorem ve (a:Control) (Z:Control->Prop) (h:mj a Z):aF prog 34 [.agg [str a.name,int a.ports,int a.kind]] (fun r=>∃ y:Control,Z y/\r = .agg [str y.name,int y.ports,int y.kind]):=by
 unfold mj at h;refine aF.of func34 rfl ntmps34 (by simp) fun Q hQ=>?_
 refine J.cut (fun O H n=>O 0 = .agg [str a.name,int a.ports,int a.kind]) (by simp[]) ?_;rintro O H U E;refine zE fun _ V=>?_
 simp[E];apply V;refine J.cut (fun O H n=>(O 1=pA U 1/\O 2=pA (U+1) 2)/\H (U,1)=some ⟨3,[[str a.name,int a.ports,int a.kind]]⟩/\H (U+1,2)=some ⟨3,[[str [],int 0,int 0]]⟩) (by refine⟨?_,?_,?_⟩<;>simp[E]) ?_;clear E;rintro O H n4 ⟨E,c,b⟩;refine zE fun _ V=>?_
 simp[E,c,b];apply V;refine J.cut (fun O H n=>(O 1=pA U 1/\O 2=pA (U+1) 2/\O 3=pA n4 3)/\H (U,1)=some ⟨3,[[str a.name,int a.ports,int a.kind]]⟩/\H (U+1,2)=some ⟨3,[[str [],int 0,int 0]]⟩/\H (n4,3)=some ⟨3,[[str [],int 0,int 0]]⟩) (by refine⟨?_,?_,?_,?_⟩<;>simp[E,c,b]) ?_;clear E c b;rintro O H n6 ⟨E,c,b,d⟩;refine zE fun _ V=>?_
 simp[E,c,b,d];apply V;refine J.cut (fun O H n=>(O 1=pA U 1/\O 2=pA (U+1) 2/\O 3=pA n4 3)/\H (U,1)=some ⟨3,[[str a.name,int a.ports,int a.kind]]⟩/\H (U+1,2)=some ⟨3,[[str [],int 0,int 0]]⟩/\H (n4,3)=some ⟨3,[[str a.name,int 0,int 0]]⟩) (by refine⟨?_,?_,?_,?_⟩<;>simp[E,c,b,d]) ?_;clear E c b d;rintro O H n7 ⟨E,c,b,d⟩;refine zE fun _ V=>?_
 simp[E,c,b,d];apply V;refine J.cut (fun O H n=>(O 1=pA U 1/\O 2=pA (U+1) 2/\O 3=pA n4 3)/\H (U,1)=some ⟨3,[[str a.name,int a.ports,int a.kind]]⟩/\H (U+1,2)=some ⟨3,[[str [],int 0,int 0]]⟩/\H (n4,3)=some ⟨3,[[str a.name,int a.ports,int 0]]⟩) (by refine⟨?_,?_,?_,?_⟩<;>simp[E,c,b,d]) ?_;clear E c b d;rintro O H n8 ⟨E,c,b,d⟩;refine zE fun _ V=>?_
 simp[E,c,b,d];apply V;refine J.cut (fun O H n=>(O 2=pA (U+1) 2/\O 3=pA n4 3)/\H (U+1,2)=some ⟨3,[[str [],int 0,int 0]]⟩/\H (n4,3)=some ⟨3,[[str a.name,int a.ports,int a.kind]]⟩) (by refine⟨?_,?_,?_⟩<;>simp[E,c,b,d]) ?_;clear E c b d;rintro O H n9 ⟨E,b,d⟩;refine zE fun _ V=>?_
 simp[E,b,d];apply V;refine J.cut (fun O H n=>O 2=pA (U+1) 2/\H (U+1,2)=some ⟨3,[[str a.name,int a.ports,int a.kind]]⟩) (by refine⟨?_,?_⟩<;>simp[E,b,d]) ?_;clear E b d;rintro O H n10 ⟨E,b⟩;exact J.An aB (v:=.agg [str a.name,int a.ports,int a.kind]) func34 results34 (by simp[E,b,eL]) (hQ _ _ _ _ (.of (.Dh (.cons (.v _) (.cons (.v _) (.cons (.v _) .nil))))) ⟨a,h,rfl⟩)
theorem lX (a:Control)  : aF prog 34 [.agg [str a.name,int a.ports,int a.kind]] (fun r=>r = .agg [str ((k7 a).name),int ((k7 a).ports),int ((k7 a).kind)]):=(ve a _ (xw a )).mono (by rintro _ ⟨_,rfl,rfl⟩;rfl)
theorem e8:a8 prog 8:=a8.of func8 (by kernel_rfl) rfl
theorem sR (a:List Control) (Z:(List Control)->Prop) (h:ig a Z):bn prog 8 [.list false (a.map Control.cells)] (.s [.c,.c,.c]) (fun r=>∃ y:List Control,Z y/\r = .list true (y.map Control.cells)):=by
 unfold ig at h;have M:Sep bx 0 [] []:=Sep.nil (by simp);refine bn.of func8 rfl ntmps8 (by simp) fun Q hQ=>?_
 refine J.cut (fun O H n=>O 0 = .list false (a.map Control.cells)/\Sep H n [] []) (by refine⟨by simp ,M⟩) ?_;rintro O H U ⟨E,M⟩;refine zE fun _ V=>?_
 simp[E];apply V;refine zE fun _ V=>?_
 obtain⟨cJ,elen2,h⟩:=aE h;have f3:=fun H=>aN (H:=H) (fr:=false) (f:=Control.cells) DM elen2
 obtain⟨hb4,h⟩:=h;obtain⟨l5,el5,h⟩:=aE h;simp[E,f3,hb4,el5,-aZ];apply V;refine J.cut (fun O H n=>∃ (v7:au),(O 0 = .list false (a.map Control.cells)/\O 3=v7)/\Sep H n [oE [.c,.c,.c] Control.cells v7 l5] []) (by refine⟨.arr (U,7) cJ.toNat 0 cJ.toNat,by simp[E,f3,hb4,el5,-aZ],(by rw[el5];exact Sep.uZ (z:=[str [],int 0,int 0]) (f:=Control.cells) (k:=cJ.toNat) M (fun H=>by show Row H [.c,.c,.c] [str [],int 0,int 0] [str [],int 0,int 0] [];simp[Row,Tr]))⟩) ?_;clear E;rintro O H n8 ⟨v7,E,M⟩;refine zS fun _ V=>?_
 simp[E];apply V;apply J.block;refine J.aI h (fun (sJ:Int × (List Control)) O H n=>match sJ with | (i16,d)=>∃ (i:au),(O 0 = .list false (a.map Control.cells)/\O 3=i/\O 4=int i16)/\Sep H n [oE [.c,.c,.c] Control.cells i d] []) (by refine⟨v7,by simp[E],M⟩) ?_;clear E;rintro⟨i16,d⟩ O H n19 K h ⟨i,E,M⟩ t;refine zS fun _ V=>?_
 obtain⟨ab,u,h⟩:=aE h;have f23:=fun H=>aN (H:=H) (fr:=false) (f:=Control.cells) DM u
 obtain⟨A,B,h⟩:=aE h;have f25:=aX (k:=.i64) B;simp[E,f23,f25,-aw,-aZ];apply V;refine J.ite (b:=A) (by simp[E]) (fun e=>?_) (fun e=>?_)
 ·replace h:=h.1 e;apply zK;apply J.block;refine zF fun _ V=>?_
  obtain⟨C,h⟩:=h;obtain⟨D,F,h⟩:=aE h;have f28:=fun H=>aO (H:=H) (fr:=false) (f:=Control.cells) (k:=.i64) DM (fun _=>rfl) C F
  obtain⟨G,L,h⟩:=aE h;simp[E,f28,e,-av];refine zA (lX D ) e34 (.cons (aQ.agg (.cons (.v _ _ _) (.cons (.v _ _ _) (.cons (.v _ _ _) .nil)))) .nil) (by simp[E,f28,e,-av]) ?_;rintro _ rfl;rw[<- L];obtain⟨l,h⟩:=h;obtain⟨o,hv,N,ac,ad⟩:=Sep.eh M (by simp) l;subst hv;obtain⟨af,R,h⟩:=aE h;have f36:=fun H (hm:H o=some ⟨3,d.map Control.cells⟩)=>ct (H:=H) (k:=.i64) (off:=0) (len:=d.length) (g:=d.length) wH hm (by simp) rfl l
  have f37:=b6 (q:=i16.toNat) l R rfl;obtain⟨p,T,h⟩:=aE h;simp[E,N,f28,f36,f37,e,-av,-ca];refine et (q:=i16.toNat) (news:=Control.cells G) [] [] M (by simp) (by simp;omega) (by simp) (by simp[-aH,bc]) (aK.v _ (aK.v _ (aK.v _ aK.nil))) ?_;rintro W M am;replace M:Sep W n19 [oE [.c,.c,.c] Control.cells (.arr o d.length 0 d.length) p] []:=Sep.st T M;simp[E,f28,f36,f37,e,-av];apply V;refine J.cut (fun O H n=>∃ (j:au),(O 0 = .list false (a.map Control.cells)/\O 3=j/\O 4=int i16)/\Sep H n [oE [.c,.c,.c] Control.cells j p] []) (by refine⟨.arr o d.length 0 d.length,by simp[E,f28,f36,f37,e,-av],M⟩) ?_;clear E;rintro O H n43 ⟨j,E,M⟩;refine zI fun _ V=>?_
  obtain⟨X,h⟩:=h;obtain⟨v45,Y,h⟩:=aE h;have f46:=aR X Y;simp[E,f46,-aw];apply V;refine t (v45,p) _ _ _ h (by refine⟨j,by simp[E],M⟩)
 replace h:=h.2 e;refine J.exit rfl ?_;refine zE fun _ V=>?_
 simp[E,e];apply V;exact J.bj (v:=i) func8 results8 (by simp[E,e]) (hQ _ _ _ _ (Sep.sub (dn:=[]) M (by simp)) ⟨d,h,rfl⟩)
theorem fF (a:List Control) (hp:dJ a):bn prog 8 [.list false (a.map Control.cells)] (.s [.c,.c,.c]) (fun r=>r = .list true ((fO a).map Control.cells)):=(sR a _ (vZ a hp)).mono (by rintro _ ⟨_,rfl,rfl⟩;rfl)
theorem e72:a8 prog 72:=a8.of func72 (by kernel_rfl) rfl
theorem z6 (a:aD) (Z:aD->Prop) (h:rh a Z):aF prog 72 [.agg [str a.name,int a.link]] (fun r=>∃ y:aD,Z y/\r = .agg [str y.name,int y.link]):=by
 unfold rh at h;refine aF.of func72 rfl ntmps72 (by simp) fun Q hQ=>?_
 refine J.cut (fun O H n=>O 0 = .agg [str a.name,int a.link]) (by simp[]) ?_;rintro O H U E;refine zE fun _ V=>?_
 simp[E];apply V;refine J.cut (fun O H n=>(O 1=pA U 1/\O 2=pA (U+1) 2)/\H (U,1)=some ⟨2,[[str a.name,int a.link]]⟩/\H (U+1,2)=some ⟨2,[[str [],int 0]]⟩) (by refine⟨?_,?_,?_⟩<;>simp[E]) ?_;clear E;rintro O H n4 ⟨E,c,b⟩;refine zE fun _ V=>?_
 simp[E,c,b];apply V;refine J.cut (fun O H n=>(O 1=pA U 1/\O 2=pA (U+1) 2/\O 3=pA n4 3)/\H (U,1)=some ⟨2,[[str a.name,int a.link]]⟩/\H (U+1,2)=some ⟨2,[[str [],int 0]]⟩/\H (n4,3)=some ⟨2,[[str [],int 0]]⟩) (by refine⟨?_,?_,?_,?_⟩<;>simp[E,c,b]) ?_;clear E c b;rintro O H n6 ⟨E,c,b,d⟩;refine zE fun _ V=>?_
 simp[E,c,b,d];apply V;refine J.cut (fun O H n=>(O 1=pA U 1/\O 2=pA (U+1) 2/\O 3=pA n4 3)/\H (U,1)=some ⟨2,[[str a.name,int a.link]]⟩/\H (U+1,2)=some ⟨2,[[str [],int 0]]⟩/\H (n4,3)=some ⟨2,[[str a.name,int 0]]⟩) (by refine⟨?_,?_,?_,?_⟩<;>simp[E,c,b,d]) ?_;clear E c b d;rintro O H n7 ⟨E,c,b,d⟩;refine zE fun _ V=>?_
 simp[E,c,b,d];apply V;refine J.cut (fun O H n=>(O 2=pA (U+1) 2/\O 3=pA n4 3)/\H (U+1,2)=some ⟨2,[[str [],int 0]]⟩/\H (n4,3)=some ⟨2,[[str a.name,int a.link]]⟩) (by refine⟨?_,?_,?_⟩<;>simp[E,c,b,d]) ?_;clear E c b d;rintro O H n8 ⟨E,b,d⟩;refine zE fun _ V=>?_
 simp[E,b,d];apply V;refine J.cut (fun O H n=>O 2=pA (U+1) 2/\H (U+1,2)=some ⟨2,[[str a.name,int a.link]]⟩) (by refine⟨?_,?_⟩<;>simp[E,b,d]) ?_;clear E b d;rintro O H n9 ⟨E,b⟩;exact J.An aB (v:=.agg [str a.name,int a.link]) func72 results72 (by simp[E,b,eL]) (hQ _ _ _ _ (.of (.Dh (.cons (.v _) (.cons (.v _) .nil)))) ⟨a,h,rfl⟩)
theorem rJ (a:aD)  : aF prog 72 [.agg [str a.name,int a.link]] (fun r=>r = .agg [str ((yP a).name),int ((yP a).link)]):=(z6 a _ (Ej a )).mono (by rintro _ ⟨_,rfl,rfl⟩;rfl)
theorem e38:a8 prog 38:=a8.of func38 (by kernel_rfl) rfl
theorem xr (a:List aD) (Z:(List aD)->Prop) (h:mi a Z):bn prog 38 [.list false (a.map aD.cells)] (.s [.c,.c]) (fun r=>∃ y:List aD,Z y/\r = .list true (y.map aD.cells)):=by
 unfold mi at h;have M:Sep bx 0 [] []:=Sep.nil (by simp);refine bn.of func38 rfl ntmps38 (by simp) fun Q hQ=>?_
 refine J.cut (fun O H n=>O 0 = .list false (a.map aD.cells)/\Sep H n [] []) (by refine⟨by simp ,M⟩) ?_;rintro O H U ⟨E,M⟩;refine zE fun _ V=>?_
 simp[E];apply V;refine zE fun _ V=>?_
 obtain⟨cJ,elen2,h⟩:=aE h;have f3:=fun H=>aN (H:=H) (fr:=false) (f:=aD.cells) DB elen2
 obtain⟨hb4,h⟩:=h;obtain⟨l5,el5,h⟩:=aE h;simp[E,f3,hb4,el5,-aZ];apply V;refine J.cut (fun O H n=>∃ (v7:au),(O 0 = .list false (a.map aD.cells)/\O 3=v7)/\Sep H n [oW v7 l5] []) (by refine⟨.arr (U,7) cJ.toNat 0 cJ.toNat,by simp[E,f3,hb4,el5,-aZ],(by rw[el5];exact Sep.uZ (z:=[str [],int 0]) (f:=aD.cells) (k:=cJ.toNat) M (fun H=>by show Row H [.c,.c] [str [],int 0] [str [],int 0] [];simp[Row,Tr]))⟩) ?_;clear E;rintro O H n8 ⟨v7,E,M⟩;refine zS fun _ V=>?_
 simp[E];apply V;apply J.block;refine J.aI h (fun (sJ:Int × (List aD)) O H n=>match sJ with | (i16,d)=>∃ (i:au),(O 0 = .list false (a.map aD.cells)/\O 3=i/\O 4=int i16)/\Sep H n [oW i d] []) (by refine⟨v7,by simp[E],M⟩) ?_;clear E;rintro⟨i16,d⟩ O H n19 K h ⟨i,E,M⟩ t;refine zS fun _ V=>?_
 obtain⟨ab,u,h⟩:=aE h;have f23:=fun H=>aN (H:=H) (fr:=false) (f:=aD.cells) DB u
 obtain⟨A,B,h⟩:=aE h;have f25:=aX (k:=.i64) B;simp[E,f23,f25,-aw,-aZ];apply V;refine J.ite (b:=A) (by simp[E]) (fun e=>?_) (fun e=>?_)
 ·replace h:=h.1 e;apply zK;apply J.block;refine zF fun _ V=>?_
  obtain⟨C,h⟩:=h;obtain⟨D,F,h⟩:=aE h;have f28:=fun H=>aO (H:=H) (fr:=false) (f:=aD.cells) (k:=.i64) DB (fun _=>rfl) C F
  obtain⟨G,L,h⟩:=aE h;simp[E,f28,e,-av];refine zA (rJ D ) e72 (.cons (aQ.agg (.cons (.v _ _ _) (.cons (.v _ _ _) .nil))) .nil) (by simp[E,f28,e,-av]) ?_;rintro _ rfl;rw[<- L];obtain⟨l,h⟩:=h;obtain⟨o,hv,N,ac,ad⟩:=Sep.eh M (by simp) l;subst hv;obtain⟨af,R,h⟩:=aE h;have f36:=fun H (hm:H o=some ⟨2,d.map aD.cells⟩)=>ct (H:=H) (k:=.i64) (off:=0) (len:=d.length) (g:=d.length) dt hm (by simp) rfl l
  have f37:=b6 (q:=i16.toNat) l R rfl;obtain⟨p,T,h⟩:=aE h;simp[E,N,f28,f36,f37,e,-av,-ca];refine et (q:=i16.toNat) (news:=aD.cells G) [] [] M (by simp) (by simp;omega) (by simp) (by simp[-aH,bc]) (aK.v _ (aK.v _ aK.nil)) ?_;rintro W M am;replace M:Sep W n19 [oW (.arr o d.length 0 d.length) p] []:=Sep.st T M;simp[E,f28,f36,f37,e,-av];apply V;refine J.cut (fun O H n=>∃ (j:au),(O 0 = .list false (a.map aD.cells)/\O 3=j/\O 4=int i16)/\Sep H n [oW j p] []) (by refine⟨.arr o d.length 0 d.length,by simp[E,f28,f36,f37,e,-av],M⟩) ?_;clear E;rintro O H n43 ⟨j,E,M⟩;refine zI fun _ V=>?_
  obtain⟨X,h⟩:=h;obtain⟨v45,Y,h⟩:=aE h;have f46:=aR X Y;simp[E,f46,-aw];apply V;refine t (v45,p) _ _ _ h (by refine⟨j,by simp[E],M⟩)
 replace h:=h.2 e;refine J.exit rfl ?_;refine zE fun _ V=>?_
 simp[E,e];apply V;exact J.bj (v:=i) func38 results38 (by simp[E,e]) (hQ _ _ _ _ (Sep.sub (dn:=[]) M (by simp)) ⟨d,h,rfl⟩)
theorem pJ (a:List aD) (hp:kE a):bn prog 38 [.list false (a.map aD.cells)] (.s [.c,.c]) (fun r=>r = .list true ((xK a).map aD.cells)):=(xr a _ (CM a hp)).mono (by rintro _ ⟨_,rfl,rfl⟩;rfl)
theorem e71:a8 prog 71:=a8.of func71 (by kernel_rfl) rfl
theorem Ak (a:ay) (Z:ay->Prop) (h:oQ a Z):bn prog 71 [.agg [int a.control,int a.parent,.list false (a.links.map aA)]] (.a [.c,.c,.s [.c]]) (fun r=>∃ y:ay,Z y/\r = .agg [int y.control,int y.parent,.list true (y.links.map aA)]):=by
 unfold oQ at h;have M:Sep bx 0 [] []:=Sep.nil (by simp);refine bn.of func71 rfl ntmps71 (by simp) fun Q hQ=>?_
 refine J.cut (fun O H n=>O 0 = .agg [int a.control,int a.parent,.list false (a.links.map aA)]/\Sep H n [] []) (by refine⟨by simp ,M⟩) ?_;rintro O H U ⟨E,M⟩;refine zE fun _ V=>?_
 simp[E];apply V;refine J.cut (fun O H n=>((O 1=pA U 1/\O 2=pA (U+1) 2)/\H (U,1)=some ⟨3,[[int a.control,int a.parent,.list false (a.links.map aA)]]⟩/\H (U+1,2)=some ⟨3,[[int 0,int 0,.v (.slice none 0 0)]]⟩)/\Sep H n [] [(U+1,2),(U,1)]) (by refine⟨by simp[E],M.var.var⟩) ?_;clear E;rintro O H n4 ⟨⟨E,d,b⟩,M⟩;refine zE fun _ V=>?_
 simp[E,d,b];apply V;refine J.cut (fun O H n=>((O 1=pA U 1/\O 2=pA (U+1) 2/\O 3=pA n4 3)/\H (U,1)=some ⟨3,[[int a.control,int a.parent,.list false (a.links.map aA)]]⟩/\H (U+1,2)=some ⟨3,[[int 0,int 0,.v (.slice none 0 0)]]⟩/\H (n4,3)=some ⟨3,[[int 0,int 0,.v (.slice none 0 0)]]⟩)/\Sep H n [] [(n4,3),(U+1,2),(U,1)]) (by refine⟨by simp[E,d,b],M.var⟩) ?_;clear E d b;rintro O H n6 ⟨⟨E,d,b,e⟩,M⟩;refine zE fun _ V=>?_
 simp[E,d,b,e];apply V;refine J.cut (fun O H n=>((O 1=pA U 1/\O 2=pA (U+1) 2/\O 3=pA n4 3)/\H (U,1)=some ⟨3,[[int a.control,int a.parent,.list false (a.links.map aA)]]⟩/\H (U+1,2)=some ⟨3,[[int 0,int 0,.v (.slice none 0 0)]]⟩/\H (n4,3)=some ⟨3,[[int a.control,int 0,.v (.slice none 0 0)]]⟩)/\Sep H n [] [(n4,3),(U+1,2),(U,1)]) (by refine⟨by simp[E,d,b,e],(Sep.bD (w:=(n4,3)) M (by simp))⟩) ?_;clear E d b e;rintro O H n7 ⟨⟨E,d,b,e⟩,M⟩;refine zE fun _ V=>?_
 simp[E,d,b,e];apply V;refine J.cut (fun O H n=>((O 1=pA U 1/\O 2=pA (U+1) 2/\O 3=pA n4 3)/\H (U,1)=some ⟨3,[[int a.control,int a.parent,.list false (a.links.map aA)]]⟩/\H (U+1,2)=some ⟨3,[[int 0,int 0,.v (.slice none 0 0)]]⟩/\H (n4,3)=some ⟨3,[[int a.control,int a.parent,.v (.slice none 0 0)]]⟩)/\Sep H n [] [(n4,3),(U+1,2),(U,1)]) (by refine⟨by simp[E,d,b,e],(Sep.bD (w:=(n4,3)) M (by simp))⟩) ?_;clear E d b e;rintro O H n8 ⟨⟨E,d,b,e⟩,M⟩;refine zE fun _ V=>?_
 obtain⟨hb9,h⟩:=h;obtain⟨i,l,h⟩:=aE h;simp[E,d,b,e];refine zW (gU a.links hb9) e36 (.cons (ef false a.links) .nil) M (by simp[E,d,b,e]) ?_;rintro v11 o n13 _ M rfl p j;rw[<- l] at M;have d:=(j _ (by simp)).trans d;have b:=(j _ (by simp)).trans b;have e:=(j _ (by simp)).trans e;have f18:=Sep.oc M;simp[E,d,b,e,f18,-az,-aH,bq,bc];apply V;refine J.cut (fun O H n=>∃ (g:au),((O 2=pA (U+1) 2/\O 3=pA n4 3)/\H (U+1,2)=some ⟨3,[[int 0,int 0,.v (.slice none 0 0)]]⟩/\H (n4,3)=some ⟨3,[[int a.control,int a.parent,g]]⟩)/\Sep H n [oI g i] [(n4,3),(U+1,2)]) (by refine⟨v11,by simp[E,d,b,e,f18,-az,-aH,bq,bc],(Sep.sub (Sep.bD (w:=(n4,3)) M (by simp)) (by simp +contextual))⟩) ?_;clear E d b e;rintro O H n20 ⟨g,⟨E,b,e⟩,M⟩;refine zE fun _ V=>?_
 have f21:=Sep.oc M;simp[E,b,e,f21,-az,-aH,bq,bc];apply V;refine J.cut (fun O H n=>∃ (v22:au),(O 2=pA (U+1) 2/\H (U+1,2)=some ⟨3,[[int a.control,int a.parent,v22]]⟩)/\Sep H n [oI v22 i] [(U+1,2)]) (by refine⟨g,by simp[E,b,e,f21,-az,-aH,bq,bc],(Sep.sub (Sep.bD (w:=(U+1,2)) M (by simp)) (by simp +contextual))⟩) ?_;clear E b e;rintro O H n23 ⟨v22,⟨E,b⟩,M⟩;exact J.An aB (v:=.agg [int a.control,int a.parent,v22]) func71 results71 (by simp[E,b,eL]) (hQ _ _ _ _ (Sep.sub (dn:=[]) (Sep.pack (aK.v _ (aK.v _ (aK.own aK.nil))) M) (by simp)) ⟨(ay.mk a.control a.parent i),h,rfl⟩)
theorem rP (a:ay) (hp:p0 a):bn prog 71 [.agg [int a.control,int a.parent,.list false (a.links.map aA)]] (.a [.c,.c,.s [.c]]) (fun r=>r = .agg [int ((uE a).control),int ((uE a).parent),.list true (((uE a).links).map aA)]):=(Ak a _ (Ef a hp)).mono (by rintro _ ⟨_,rfl,rfl⟩;rfl)
theorem e35:a8 prog 35:=a8.of func35 (by kernel_rfl) rfl
theorem xf (a:List ay) (Z:(List ay)->Prop) (h:mo a Z):bn prog 35 [.list false (a.map (ay.cells false))] (.s [.c,.c,.s [.c]]) (fun r=>∃ y:List ay,Z y/\r = .list true (y.map (ay.cells true))):=by
 unfold mo at h;have M:Sep bx 0 [] []:=Sep.nil (by simp);refine bn.of func35 rfl ntmps35 (by simp) fun Q hQ=>?_
 refine J.cut (fun O H n=>O 0 = .list false (a.map (ay.cells false))/\Sep H n [] []) (by refine⟨by simp ,M⟩) ?_;rintro O H U ⟨E,M⟩;refine zE fun _ V=>?_
 simp[E];apply V;refine zE fun _ V=>?_
 obtain⟨cJ,elen2,h⟩:=aE h;have f3:=fun H=>aN (H:=H) (fr:=false) (f:=(ay.cells false)) Dt elen2
 obtain⟨hb4,h⟩:=h;obtain⟨l5,el5,h⟩:=aE h;simp[E,f3,hb4,el5,-aZ];apply V;refine J.cut (fun O H n=>∃ (v7:au),(O 0 = .list false (a.map (ay.cells false))/\O 3=v7)/\Sep H n [oN v7 l5] []) (by refine⟨.arr (U,7) cJ.toNat 0 cJ.toNat,by simp[E,f3,hb4,el5,-aZ],(by rw[el5];exact Sep.uZ (z:=[int 0,int 0,.v (.slice none 0 0)]) (f:=(ay.cells true)) (k:=cJ.toNat) M (fun H=>by show Row H [.c,.c,.s [.c]] [int 0,int 0,.v (.slice none 0 0)] [int 0,int 0,.list true []] [];simp[Row,Tr]))⟩) ?_;clear E;rintro O H n8 ⟨v7,E,M⟩;refine zS fun _ V=>?_
 simp[E];apply V;apply J.block;refine J.aI h (fun (sJ:Int × (List ay)) O H n=>match sJ with | (i16,e)=>∃ (i:au),(O 0 = .list false (a.map (ay.cells false))/\O 3=i/\O 4=int i16)/\Sep H n [oN i e] []) (by refine⟨v7,by simp[E],M⟩) ?_;clear E;rintro⟨i16,e⟩ O H n19 K h ⟨i,E,M⟩ G;refine zS fun _ V=>?_
 obtain⟨a2,L,h⟩:=aE h;have f23:=fun H=>aN (H:=H) (fr:=false) (f:=(ay.cells false)) Dt L
 obtain⟨N,R,h⟩:=aE h;have f25:=aX (k:=.i64) R;simp[E,f23,f25,-aw,-aZ];apply V;refine J.ite (b:=N) (by simp[E]) (fun d=>?_) (fun d=>?_)
 ·replace h:=h.1 d;apply zK;apply J.block;refine zF fun _ V=>?_
  obtain⟨T,h⟩:=h;obtain⟨t,W,h⟩:=aE h;have f28:=fun H=>aO (H:=H) (fr:=false) (f:=(ay.cells false)) (k:=.i64) Dt (fun _=>rfl) T W
  obtain⟨X,h⟩:=h;obtain⟨u,Y,h⟩:=aE h;simp[E,f28,d,-av];refine zW (rP t X) e71 (.cons (aQ.agg (.cons (.v _ _ _) (.cons (.v _ _ _) (.cons (ef false t.links) .nil)))) .nil) M (by simp[E,f28,d,-av]) ?_;rintro v31 a3 n33 _ M rfl a4 a5;rw[<- Y] at M;replace M:=Sep.unpack M;obtain⟨L40,hv,ab,M⟩:=M;subst hv;obtain⟨v37,a9,v39,hv⟩:=BR (by simpa using ab);subst hv;simp only[dW,List.cons_append,List.nil_append] at M;replace M:=Sep.scalar M;obtain⟨hv,M⟩:=M;subst hv;replace M:=Sep.scalar M;obtain⟨hv,M⟩:=M;subst hv;replace M:=Sep.fJ M;obtain⟨A,h⟩:=h;obtain⟨g,ac,h⟩:=aE h;obtain⟨B,bd,be,ad,l,C,D,af,am,bi,bk,bs,j,bv⟩:=Sep.Is (q:=i16.toNat) (f:=(ay.cells true)) M A ac rfl;subst l;obtain⟨ao,F,o,l⟩:=BR (by simpa using am);subst l;replace j:Sep _ _ [(.c,ao,int g.control),(.c,F,int g.parent),(.s [.c],o,.list true (g.links.map aA))] ad:=j;obtain rfl:=Sep.IG (K1:=[]) (K2:=[(.c,F,int g.parent),(.s [.c],o,.list true (g.links.map aA))]) j;obtain rfl:=Sep.IG (K1:=[(.c,int g.control,int g.control)]) (K2:=[(.s [.c],o,.list true (g.links.map aA))]) j;have f62:=ct (k:=.i64) (off:=0) (len:=e.length) bH C D rfl A;obtain⟨p,ap,h⟩:=aE h;simp[E,C,D,af,f28,f62,d,-av,-ca];refine et (q:=i16.toNat) (news:=(ay.cells true) u) [oI v39 u.links] [] M (by simp) (by simp;omega) (by simp) (by simp[-aH,bc,Sep.aH M.dr]) (aK.v _ (aK.v _ (aK.own aK.nil))) ?_;rintro aM M bC;replace M:Sep aM n33 [oN (.arr B e.length 0 e.length) p] []:=Sep.st ap M;simp[E,f28,f62,d,-av];apply V;refine J.cut (fun O H n=>∃ (v67:au),(O 0 = .list false (a.map (ay.cells false))/\O 3=v67/\O 4=int i16)/\Sep H n [oN v67 p] []) (by refine⟨.arr B e.length 0 e.length,by simp[E,f28,f62,d,-av],M⟩) ?_;clear E;rintro O H n68 ⟨v67,E,M⟩;refine zI fun _ V=>?_
  obtain⟨a0,h⟩:=h;obtain⟨v70,a1,h⟩:=aE h;have f71:=aR a0 a1;simp[E,f71,-aw];apply V;refine G (v70,p) _ _ _ h (by refine⟨v67,by simp[E],M⟩)
 replace h:=h.2 d;refine J.exit rfl ?_;refine zE fun _ V=>?_
 simp[E,d];apply V;exact J.bj (v:=i) func35 results35 (by simp[E,d]) (hQ _ _ _ _ (Sep.sub (dn:=[]) M (by simp)) ⟨e,h,rfl⟩)
theorem pt (a:List ay) (hp:nX a):bn prog 35 [.list false (a.map (ay.cells false))] (.s [.c,.c,.s [.c]]) (fun r=>r = .list true ((ym a).map (ay.cells true))):=(xf a _ (Cj a hp)).mono (by rintro _ ⟨_,rfl,rfl⟩;rfl)
theorem e9:a8 prog 9:=a8.of func9 (by kernel_rfl) rfl
theorem uP (a:aG) (Z:aG->Prop) (h:iQ a Z):bn prog 9 [.agg (bC false a)] (.a [.c,.s [.c,.c,.s [.c]],.s [.c],.c,.s [.c],.s [.c,.c]]) (fun r=>∃ y:aG,Z y/\r = .agg (bC true y)):=by
 unfold iQ at h;have M:Sep bx 0 [] []:=Sep.nil (by simp);refine bn.of func9 rfl ntmps9 (by simp) fun Q hQ=>?_
 refine J.cut (fun O H n=>O 0 = .agg (bC false a)/\Sep H n [] []) (by refine⟨by simp ,M⟩) ?_;rintro O H U ⟨E,M⟩;refine zE fun _ V=>?_
 simp[E];apply V;refine J.cut (fun O H n=>((O 1=pA U 1/\O 2=pA (U+1) 2)/\H (U,1)=some ⟨6,[bC false a]⟩/\H (U+1,2)=some ⟨6,[zB]⟩)/\Sep H n [] [(U+1,2),(U,1)]) (by refine⟨by simp[E],M.var.var⟩) ?_;clear E;rintro O H n4 ⟨⟨E,d,b⟩,M⟩;refine zE fun _ V=>?_
 simp[E,d,b];apply V;refine J.cut (fun O H n=>((O 1=pA U 1/\O 2=pA (U+1) 2/\O 3=pA n4 3)/\H (U,1)=some ⟨6,[bC false a]⟩/\H (U+1,2)=some ⟨6,[zB]⟩/\H (n4,3)=some ⟨6,[zB]⟩)/\Sep H n [] [(n4,3),(U+1,2),(U,1)]) (by refine⟨by simp[E,d,b],M.var⟩) ?_;clear E d b;rintro O H n6 ⟨⟨E,d,b,e⟩,M⟩;refine zE fun _ V=>?_
 simp[E,d,b,e];apply V;refine J.cut (fun O H n=>((O 1=pA U 1/\O 2=pA (U+1) 2/\O 3=pA n4 3)/\H (U,1)=some ⟨6,[bC false a]⟩/\H (U+1,2)=some ⟨6,[zB]⟩/\H (n4,3)=some ⟨6,[[int a.roots,.v (.slice none 0 0),.v (.slice none 0 0),int 0,.v (.slice none 0 0),.v (.slice none 0 0)]]⟩)/\Sep H n [] [(n4,3),(U+1,2),(U,1)]) (by refine⟨by simp[E,d,b,e],(Sep.bD (w:=(n4,3)) M (by simp))⟩) ?_;clear E d b e;rintro O H n7 ⟨⟨E,d,b,e⟩,M⟩;refine zE fun _ V=>?_
 obtain⟨hb8,h⟩:=h;obtain⟨r9,er9,h⟩:=aE h;simp[E,d,b,e];refine zW (pt a.nodes hb8) e35 (.cons (aQ.gO false a.nodes) .nil) M (by simp[E,d,b,e]) ?_;rintro v10 ac n12 _ M rfl ad C;rw[<- er9] at M;have d:=(C _ (by simp)).trans d;have b:=(C _ (by simp)).trans b;have e:=(C _ (by simp)).trans e;have f17:=Sep.oc M;simp[E,d,b,e,f17,-az,-aH,bq,bc];apply V;refine J.cut (fun O H n=>∃ (i:au),((O 1=pA U 1/\O 2=pA (U+1) 2/\O 3=pA n4 3)/\H (U,1)=some ⟨6,[bC false a]⟩/\H (U+1,2)=some ⟨6,[zB]⟩/\H (n4,3)=some ⟨6,[[int a.roots,i,.v (.slice none 0 0),int 0,.v (.slice none 0 0),.v (.slice none 0 0)]]⟩)/\Sep H n [oN i r9] [(n4,3),(U+1,2),(U,1)]) (by refine⟨v10,by simp[E,d,b,e,f17,-az,-aH,bq,bc],(Sep.bD (w:=(n4,3)) M (by simp))⟩) ?_;clear E d b e;rintro O H n19 ⟨i,⟨E,d,b,e⟩,M⟩;refine zE fun _ V=>?_
 obtain⟨L,h⟩:=h;obtain⟨g,N,h⟩:=aE h;simp[E,d,b,e];refine zW (gU a.sites L) e36 (.cons (ef false a.sites) .nil) M (by simp[E,d,b,e]) ?_;rintro v22 af n24 _ M rfl am D;rw[<- N] at M;have d:=(D _ (by simp)).trans d;have b:=(D _ (by simp)).trans b;have e:=(D _ (by simp)).trans e;have f29:=Sep.oc M;simp[E,d,b,e,f29,-az,-aH,bq,bc];apply V;refine J.cut (fun O H n=>∃ (v30 v31:au),((O 1=pA U 1/\O 2=pA (U+1) 2/\O 3=pA n4 3)/\H (U,1)=some ⟨6,[bC false a]⟩/\H (U+1,2)=some ⟨6,[zB]⟩/\H (n4,3)=some ⟨6,[[int a.roots,v31,v30,int 0,.v (.slice none 0 0),.v (.slice none 0 0)]]⟩)/\Sep H n [oI v30 g,oN v31 r9] [(n4,3),(U+1,2),(U,1)]) (by refine⟨v22,i,by simp[E,d,b,e,f29,-az,-aH,bq,bc],(Sep.bD (w:=(n4,3)) M (by simp))⟩) ?_;clear E d b e;rintro O H n32 ⟨v30,v31,⟨E,d,b,e⟩,M⟩;refine zE fun _ V=>?_
 simp[E,d,b,e];apply V;refine J.cut (fun O H n=>∃ (v33 j:au),((O 1=pA U 1/\O 2=pA (U+1) 2/\O 3=pA n4 3)/\H (U,1)=some ⟨6,[bC false a]⟩/\H (U+1,2)=some ⟨6,[zB]⟩/\H (n4,3)=some ⟨6,[[int a.roots,j,v33,int a.edges,.v (.slice none 0 0),.v (.slice none 0 0)]]⟩)/\Sep H n [oI v33 g,oN j r9] [(n4,3),(U+1,2),(U,1)]) (by refine⟨v30,v31,by simp[E,d,b,e],(Sep.bD (w:=(n4,3)) M (by simp))⟩) ?_;clear E d b e;rintro O H n35 ⟨v33,j,⟨E,d,b,e⟩,M⟩;refine zE fun _ V=>?_
 obtain⟨R,h⟩:=h;obtain⟨l,T,h⟩:=aE h;simp[E,d,b,e];refine zW (mD a.outer R) e37 (.cons (o5 false a.outer) .nil) M (by simp[E,d,b,e]) ?_;rintro W ao n40 _ M rfl ap F;rw[<- T] at M;have d:=(F _ (by simp)).trans d;have b:=(F _ (by simp)).trans b;have e:=(F _ (by simp)).trans e;have f45:=Sep.oc M;simp[E,d,b,e,f45,-az,-aH,bq,bc];apply V;refine J.cut (fun O H n=>∃ (v46 o p:au),((O 1=pA U 1/\O 2=pA (U+1) 2/\O 3=pA n4 3)/\H (U,1)=some ⟨6,[bC false a]⟩/\H (U+1,2)=some ⟨6,[zB]⟩/\H (n4,3)=some ⟨6,[[int a.roots,p,o,int a.edges,v46,.v (.slice none 0 0)]]⟩)/\Sep H n [oS v46 l,oI o g,oN p r9] [(n4,3),(U+1,2),(U,1)]) (by refine⟨W,v33,j,by simp[E,d,b,e,f45,-az,-aH,bq,bc],(Sep.bD (w:=(n4,3)) M (by simp))⟩) ?_;clear E d b e;rintro O H n49 ⟨v46,o,p,⟨E,d,b,e⟩,M⟩;refine zE fun _ V=>?_
 obtain⟨X,h⟩:=h;obtain⟨G,Y,h⟩:=aE h;simp[E,d,b,e];refine zW (pJ a.inner X) e38 (.cons (vA false a.inner) .nil) M (by simp[E,d,b,e]) ?_;rintro ab aM a0 _ M rfl a1 K;rw[<- Y] at M;have d:=(K _ (by simp)).trans d;have b:=(K _ (by simp)).trans b;have e:=(K _ (by simp)).trans e;have f59:=Sep.oc M;simp[E,d,b,e,f59,-az,-aH,bq,bc];apply V;refine J.cut (fun O H n=>∃ (v60 q t u:au),((O 2=pA (U+1) 2/\O 3=pA n4 3)/\H (U+1,2)=some ⟨6,[zB]⟩/\H (n4,3)=some ⟨6,[[int a.roots,u,t,int a.edges,q,v60]]⟩)/\Sep H n [oW v60 G,oS q l,oI t g,oN u r9] [(n4,3),(U+1,2)]) (by refine⟨ab,v46,o,p,by simp[E,d,b,e,f59,-az,-aH,bq,bc],(Sep.sub (Sep.bD (w:=(n4,3)) M (by simp)) (by simp +contextual))⟩) ?_;clear E d b e;rintro O H a2 ⟨v60,q,t,u,⟨E,b,e⟩,M⟩;refine zE fun _ V=>?_
 have f65:=Sep.oc M.f3;have f66:=Sep.oc M.f2;have f67:=Sep.oc M.f1;have f68:=Sep.oc M;simp[E,b,e,f65,f66,f67,f68,-az,-aH,bq,bc];apply V;refine J.cut (fun O H n=>∃ (A v70 B v72:au),(O 2=pA (U+1) 2/\H (U+1,2)=some ⟨6,[[int a.roots,v72,B,int a.edges,v70,A]]⟩)/\Sep H n [oW A G,oS v70 l,oI B g,oN v72 r9] [(U+1,2)]) (by refine⟨v60,q,t,u,by simp[E,b,e,f65,f66,f67,f68,-az,-aH,bq,bc],(Sep.sub (Sep.bD (w:=(U+1,2)) M (by simp)) (by simp +contextual))⟩) ?_;clear E b e;rintro O H a3 ⟨A,v70,B,v72,⟨E,b⟩,M⟩;exact J.An aB (v:=.agg [int a.roots,v72,B,int a.edges,v70,A]) func9 results9 (by simp[E,b,eL]) (hQ _ _ _ _ (Sep.sub (dn:=[]) (Sep.pack (aK.v _ (aK.own (aK.own (aK.v _ (aK.own (aK.own aK.nil)))))) M.f1.f2.f3) (by simp)) ⟨(aG.mk a.roots r9 g a.edges l G),h,rfl⟩)
theorem dv (a:aG) (hp:cF a):bn prog 9 [.agg (bC false a)] (.a [.c,.s [.c,.c,.s [.c]],.s [.c],.c,.s [.c],.s [.c,.c]]) (fun r=>r = .agg [int ((cT a).roots),.list true (((cT a).nodes).map (ay.cells true)),.list true (((cT a).sites).map aA),int ((cT a).edges),.list true (((cT a).outer).map aT),.list true (((cT a).inner).map aD.cells)]):=(uP a _ (w4 a hp)).mono (by rintro _ ⟨_,rfl,rfl⟩;rfl)
theorem e55:a8 prog 55:=a8.of func55 (by kernel_rfl) rfl
theorem vH (a:List Int) (k_:Int) (Z:((List Int) × Int)->Prop) (h:kA a k_ Z):ep prog 55 (fun v=>[v,int k_]) (.s [.c]) (.list true (a.map aA)) (fun e' r=>∃ y:(List Int) × Int,Z y/\e' = .list true (y.1.map aA)/\r=int y.2):=by
 unfold kA at h;refine ep.of func55 rfl ntmps55 (fun _=>by simp) fun H0 n0 v0 K0 bA M Q hQ=>?_
 have h00:=M.1;have hid:∀ i ∈ bA,H0 i=H0 i:=fun _ _=>rfl
 have hnn:n0<=n0:=Nat.le_refl _;refine J.cut (fun O H n=>(O 0=v0/\O 1=int k_)/\n0<=n/\(∀ i ∈ bA,H i=H0 i)/\Sep H n (oI v0 a::K0) (bA)) (by refine⟨?_,(by omega),hid,M⟩<;>simp ) ?_;rintro O H n2 ⟨E,hnn,hid,M⟩;have hq_n2:=hnn;refine zE fun _ V=>?_
 simp[E];apply V;refine zS fun _ V=>?_
 simp[E];apply V;apply J.block;refine J.aI h (fun (sJ:Int × Int × (List Int)) O H n=>match sJ with | (k10,i11,d)=>(O 0=v0/\O 1=int k10/\O 5=int i11)/\n0<=n/\(∀ i ∈ bA,H i=H0 i)/\Sep H n (oI v0 d::K0) (bA)) (by refine⟨?_,(by omega),hid,M⟩<;>simp[E]) ?_;clear E;rintro⟨k10,i11,d⟩ O H n13 K h ⟨E,hnn,hid,M⟩ t;have hq_n13:=hnn;refine zS fun _ V=>?_
 obtain⟨u,A,h⟩:=aE h;have f17:=dY (Sep.len (m:=u) M aV (by rw[A,List.length_map]));obtain⟨B,C,h⟩:=aE h;have f19:=aX (k:=.i64) C;simp[E,f17,f19,-aw,-aZ];apply V;refine J.ite (b:=B) (by simp[E]) (fun e=>?_) (fun e=>?_)
 ·replace h:=h.1 e;apply zK;apply J.block;refine zE fun _ V=>?_
  obtain⟨l,h⟩:=h;obtain⟨j,hv,D,Y,ab⟩:=Sep.eh M (by simp) l;subst hv;obtain⟨ac,F,h⟩:=aE h;have f26:=fun H (hm:H j=some ⟨1,d.map aA⟩)=>ct (H:=H) (k:=.i64) (off:=0) (len:=d.length) (g:=d.length) aV hm (by simp) rfl l
  have f27:=b6 (q:=i11.toNat) l F rfl;obtain⟨o,G,h⟩:=aE h;simp[E,D,f26,f27,e,-av,-ca];refine et (q:=i11.toNat) (news:=aA k10) [] (K0) M (by simp) (by simp;omega) (by simp) (by simp[-aH,bc]) (aK.v _ aK.nil) ?_;rintro p M L;replace M:Sep p n13 (oI (.arr j d.length 0 d.length) o::K0) (bA):=Sep.st G M;have hid:∀ i ∈ bA,p i=H0 i:=fun i hi=>(L i (by simp[hi])).trans (hid i hi)
  simp[E,f26,f27,e,-av];apply V;refine J.cut (fun O H n=>(O 0 = .arr j d.length 0 d.length/\O 1=int k10/\O 5=int i11)/\n0<=n/\(∀ i ∈ bA,H i=H0 i)/\Sep H n (oI (.arr j d.length 0 d.length) o::K0) (bA)) (by refine⟨?_,(by omega),hid,M⟩<;>simp[E,f26,f27,e,-av]) ?_;clear E;rintro O H n32 ⟨E,hnn,hid,M⟩;have hq_n32:=hnn;refine zF fun _ V=>?_
  obtain⟨N,h⟩:=h;obtain⟨R,T,h⟩:=aE h;have f35:=aR N T;simp[E,f35,-aw];apply V;refine zI fun _ V=>?_
  obtain⟨W,h⟩:=h;obtain⟨v37,X,h⟩:=aE h;have f38:=aR W X;simp[E,f38,-aw];apply V;refine t (R,v37,o) _ _ _ h (by refine⟨?_,(by omega),hid,M⟩<;>simp[E])
 replace h:=h.2 e;refine J.exit rfl ?_;refine zE fun _ V=>?_
 simp[E,e];apply V;exact J.bj (v:=int k10) func55 results55 (by simp[E,e]) (hQ _ _ _ _ (Sep.sub M (by simp +contextual)) hid (by omega) ⟨(d,k10),h,rfl,rfl⟩)
theorem kz (a:List Int) (k_:Int) (hp:fb a k_):ep prog 55 (fun v=>[v,int k_]) (.s [.c]) (.list true (a.map aA)) (fun e' r=>e' = .list true (((br a k_).1).map aA)/\r=int ((br a k_).2)):=(vH a k_ _ (AL a k_ hp)).mono (by rintro _ _ ⟨_,rfl,rfl,rfl⟩;exact⟨rfl,rfl⟩)
theorem e56:a8 prog 56:=a8.of func56 (by kernel_rfl) rfl
theorem rj (a:List a6) (k_:Int) (Z:((List a6) × Int)->Prop) (h:gx a k_ Z):ep prog 56 (fun v=>[v,int k_]) (.s [.c]) (.list true (a.map aT)) (fun e' r=>∃ y:(List a6) × Int,Z y/\e' = .list true (y.1.map aT)/\r=int y.2):=by
 unfold gx at h;refine ep.of func56 rfl ntmps56 (fun _=>by simp) fun H0 n0 v0 K0 bA M Q hQ=>?_
 have h00:=M.1;have hid:∀ i ∈ bA,H0 i=H0 i:=fun _ _=>rfl
 have hnn:n0<=n0:=Nat.le_refl _;refine J.cut (fun O H n=>(O 0=v0/\O 1=int k_)/\n0<=n/\(∀ i ∈ bA,H i=H0 i)/\Sep H n (oS v0 a::K0) (bA)) (by refine⟨?_,(by omega),hid,M⟩<;>simp ) ?_;rintro O H n2 ⟨E,hnn,hid,M⟩;have hq_n2:=hnn;refine zE fun _ V=>?_
 simp[E];apply V;refine zS fun _ V=>?_
 simp[E];apply V;apply J.block;refine J.aI h (fun (sJ:Int × Int × (List a6)) O H n=>match sJ with | (k10,i11,d)=>(O 0=v0/\O 1=int k10/\O 5=int i11)/\n0<=n/\(∀ i ∈ bA,H i=H0 i)/\Sep H n (oS v0 d::K0) (bA)) (by refine⟨?_,(by omega),hid,M⟩<;>simp[E]) ?_;clear E;rintro⟨k10,i11,d⟩ O H n13 K h ⟨E,hnn,hid,M⟩ t;have hq_n13:=hnn;refine zS fun _ V=>?_
 obtain⟨u,A,h⟩:=aE h;have f17:=dY (Sep.len (m:=u) M bY (by rw[A,List.length_map]));obtain⟨B,C,h⟩:=aE h;have f19:=aX (k:=.i64) C;simp[E,f17,f19,-aw,-aZ];apply V;refine J.ite (b:=B) (by simp[E]) (fun e=>?_) (fun e=>?_)
 ·replace h:=h.1 e;apply zK;apply J.block;refine zE fun _ V=>?_
  obtain⟨D,h⟩:=h;obtain⟨F,G,h⟩:=aE h;simp[E,e];refine zA (jv k10 D) e53 (.cons (.v _ _ _) .nil) (by simp[E,e]) ?_;rintro _ rfl;rw[<- G];obtain⟨l,h⟩:=h;obtain⟨j,hv,L,ad,af⟩:=Sep.eh M (by simp) l;subst hv;obtain⟨am,N,h⟩:=aE h;have f28:=fun H (hm:H j=some ⟨1,d.map aT⟩)=>ct (H:=H) (k:=.i64) (off:=0) (len:=d.length) (g:=d.length) bY hm (by simp) rfl l
  have f29:=b6 (q:=i11.toNat) l N rfl;obtain⟨o,R,h⟩:=aE h;simp[E,L,f28,f29,e,-av,-ca];refine et (q:=i11.toNat) (news:=aT F) [] (K0) M (by simp) (by simp;omega) (by simp) (by simp[-aH,bc]) (aK.v _ aK.nil) ?_;rintro p M T;replace M:Sep p n13 (oS (.arr j d.length 0 d.length) o::K0) (bA):=Sep.st R M;have hid:∀ i ∈ bA,p i=H0 i:=fun i hi=>(T i (by simp[hi])).trans (hid i hi)
  simp[E,f28,f29,e,-av];apply V;refine J.cut (fun O H n=>(O 0 = .arr j d.length 0 d.length/\O 1=int k10/\O 5=int i11)/\n0<=n/\(∀ i ∈ bA,H i=H0 i)/\Sep H n (oS (.arr j d.length 0 d.length) o::K0) (bA)) (by refine⟨?_,(by omega),hid,M⟩<;>simp[E,f28,f29,e,-av]) ?_;clear E;rintro O H n34 ⟨E,hnn,hid,M⟩;have hq_n34:=hnn;refine zF fun _ V=>?_
  obtain⟨W,h⟩:=h;obtain⟨X,Y,h⟩:=aE h;have f37:=aR W Y;simp[E,f37,-aw];apply V;refine zI fun _ V=>?_
  obtain⟨ab,h⟩:=h;obtain⟨v39,ac,h⟩:=aE h;have f40:=aR ab ac;simp[E,f40,-aw];apply V;refine t (X,v39,o) _ _ _ h (by refine⟨?_,(by omega),hid,M⟩<;>simp[E])
 replace h:=h.2 e;refine J.exit rfl ?_;refine zE fun _ V=>?_
 simp[E,e];apply V;exact J.bj (v:=int k10) func56 results56 (by simp[E,e]) (hQ _ _ _ _ (Sep.sub M (by simp +contextual)) hid (by omega) ⟨(d,k10),h,rfl,rfl⟩)
theorem uO (a:List a6) (k_:Int) (hp:iB a k_):ep prog 56 (fun v=>[v,int k_]) (.s [.c]) (.list true (a.map aT)) (fun e' r=>e' = .list true (((ch a k_).1).map aT)/\r=int ((ch a k_).2)):=(rj a k_ _ (tv a k_ hp)).mono (by rintro _ _ ⟨_,rfl,rfl,rfl⟩;exact⟨rfl,rfl⟩)
theorem e57:a8 prog 57:=a8.of func57 (by kernel_rfl) rfl
theorem tZ (a:List aD) (k_:Int) (Z:((List aD) × Int)->Prop) (h:jc a k_ Z):ep prog 57 (fun v=>[v,int k_]) (.s [.c,.c]) (.list true (a.map aD.cells)) (fun e' r=>∃ y:(List aD) × Int,Z y/\e' = .list true (y.1.map aD.cells)/\r=int y.2):=by
 unfold jc at h;refine ep.of func57 rfl ntmps57 (fun _=>by simp) fun H0 n0 v0 K0 bA M Q hQ=>?_
 have h00:=M.1;have hid:∀ i ∈ bA,H0 i=H0 i:=fun _ _=>rfl
 have hnn:n0<=n0:=Nat.le_refl _;refine J.cut (fun O H n=>(O 0=v0/\O 1=int k_)/\n0<=n/\(∀ i ∈ bA,H i=H0 i)/\Sep H n (oW v0 a::K0) (bA)) (by refine⟨?_,(by omega),hid,M⟩<;>simp ) ?_;rintro O H n2 ⟨E,hnn,hid,M⟩;have hq_n2:=hnn;refine zE fun _ V=>?_
 simp[E];apply V;refine zS fun _ V=>?_
 simp[E];apply V;apply J.block;refine J.aI h (fun (sJ:Int × Int × (List aD)) O H n=>match sJ with | (k10,i11,d)=>(O 0=v0/\O 1=int k10/\O 5=int i11)/\n0<=n/\(∀ i ∈ bA,H i=H0 i)/\Sep H n (oW v0 d::K0) (bA)) (by refine⟨?_,(by omega),hid,M⟩<;>simp[E]) ?_;clear E;rintro⟨k10,i11,d⟩ O H n13 K h ⟨E,hnn,hid,M⟩ N;have hq_n13:=hnn;refine zS fun _ V=>?_
 obtain⟨R,T,h⟩:=aE h;have f17:=dY (Sep.len (m:=R) M dt (by rw[T,List.length_map]));obtain⟨W,X,h⟩:=aE h;have f19:=aX (k:=.i64) X;simp[E,f17,f19,-aw,-aZ];apply V;refine J.ite (b:=W) (by simp[E]) (fun e=>?_) (fun e=>?_)
 ·replace h:=h.1 e;apply zK;apply J.block;refine zE fun _ V=>?_
  obtain⟨Y,h⟩:=h;obtain⟨A,ab,h⟩:=aE h;simp[E,e];refine zA (jv k10 Y) e53 (.cons (.v _ _ _) .nil) (by simp[E,e]) ?_;rintro _ rfl;rw[<- ab];obtain⟨l,h⟩:=h;obtain⟨j,hv,ac,a9,bd⟩:=Sep.eh M (by simp) l;subst hv;obtain⟨B,C,h⟩:=aE h;have f28:=fun H (hm:H j=some ⟨2,d.map aD.cells⟩)=>ct (H:=H) (k:=.i64) (off:=0) (len:=d.length) (g:=d.length) dt hm (by simp) rfl l
  have f29:=b6 (q:=i11.toNat) l C rfl;obtain⟨p,ad,h⟩:=aE h;simp[E,ac,f28,f29,e,-av,-ca];refine ju (i:=DK) (q:=i11.toNat) (off:=0) (new:=[str A]) (ix:=i11) (x:=B) (y:=(aD.mk A B.link)) (f:=aD.cells) M (by simp) (by simp) l C rfl rfl (fun _=>rfl) (by simp) (by simp) (by simp[ee]) (by simp) ?_;rintro D M af;replace M:Sep D n13 (oW (.arr j d.length 0 d.length) p::K0) (bA):=by rw[ad];exact M
  have hid:∀ i ∈ bA,D i=H0 i:=fun i hi=>(af i (by simp[hi])).trans (hid i hi)
  simp[E,f28,f29,e,-av];apply V;refine J.cut (fun O H n=>(O 0 = .arr j d.length 0 d.length/\O 1=int k10/\O 5=int i11)/\n0<=n/\(∀ i ∈ bA,H i=H0 i)/\Sep H n (oW (.arr j d.length 0 d.length) p::K0) (bA)) (by refine⟨?_,(by omega),hid,M⟩<;>simp[E,f28,f29,e,-av]) ?_;clear E;rintro O H n34 ⟨E,hnn,hid,M⟩;have hq_n34:=hnn;refine zE fun _ V=>?_
  obtain⟨am,h⟩:=h;obtain⟨t,ao,h⟩:=aE h;have f37:=aR am ao;simp[E,f37,-aw];apply V;refine zE fun _ V=>?_
  obtain⟨o,h⟩:=h;obtain⟨be,hv,ap,bi,bk⟩:=Sep.eh M (by simp) o;simp only[au.arr.injEq] at hv;obtain⟨hv,hln43,-⟩:=hv;subst hv;have hlshln43:=hln43.symm;obtain⟨F,G,h⟩:=aE h;have f45:=fun H (hm:H j=some ⟨2,p.map aD.cells⟩)=>ct (H:=H) (k:=.i64) (off:=0) (len:=d.length) (g:=d.length) dt hm (by simp[hln43]) rfl (by rw[hln43];exact o)
  have f46:=b6 (q:=i11.toNat) o G rfl;obtain⟨u,aM,h⟩:=aE h;simp[E,hlshln43,ap,f45,f46,-av,-ca];refine ju (i:=qT) (q:=i11.toNat) (off:=1) (new:=[int t]) (ix:=i11) (x:=F) (y:=(aD.mk F.name t)) (f:=aD.cells) M (by simp) (by simp) o G rfl hln43 (fun _=>rfl) (by simp) (by simp) (by simp[ee]) (by simp) ?_;rintro L M a0;replace M:Sep L n34 (oW (.arr j d.length 0 d.length) u::K0) (bA):=by rw[aM];exact M
  have hid:∀ i ∈ bA,L i=H0 i:=fun i hi=>(a0 i (by simp[hi])).trans (hid i hi)
  simp[E,hlshln43,f45,f46,-av];apply V;refine J.cut (fun O H n=>(O 0 = .arr j d.length 0 d.length/\O 1=int t/\O 5=int i11)/\n0<=n/\(∀ i ∈ bA,H i=H0 i)/\Sep H n (oW (.arr j d.length 0 d.length) u::K0) (bA)) (by refine⟨?_,(by omega),hid,M⟩<;>simp[E,hlshln43,f45,f46,-av]) ?_;clear E hlshln43;rintro O H n51 ⟨E,hnn,hid,M⟩;have hq_n51:=hnn;refine zF fun _ V=>?_
  obtain⟨a1,h⟩:=h;obtain⟨v53,a2,h⟩:=aE h;have f54:=aR a1 a2;simp[E,f54,-aw];apply V;refine zI fun _ V=>?_
  obtain⟨a3,h⟩:=h;obtain⟨a4,a5,h⟩:=aE h;have f57:=aR a3 a5;simp[E,f57,-aw];apply V;refine N (v53,a4,u) _ _ _ h (by refine⟨?_,(by omega),hid,M⟩<;>simp[E])
 replace h:=h.2 e;refine J.exit rfl ?_;refine zE fun _ V=>?_
 simp[E,e];apply V;exact J.bj (v:=int k10) func57 results57 (by simp[E,e]) (hQ _ _ _ _ (Sep.sub M (by simp +contextual)) hid (by omega) ⟨(d,k10),h,rfl,rfl⟩)
theorem xA (a:List aD) (k_:Int) (hp:kN a k_):ep prog 57 (fun v=>[v,int k_]) (.s [.c,.c]) (.list true (a.map aD.cells)) (fun e' r=>e' = .list true (((dZ a k_).1).map aD.cells)/\r=int ((dZ a k_).2)):=(tZ a k_ _ (xT a k_ hp)).mono (by rintro _ _ ⟨_,rfl,rfl,rfl⟩;exact⟨rfl,rfl⟩)
theorem e14:a8 prog 14:=a8.of func14 (by kernel_rfl) rfl
theorem qO (a:List Control) (k_:Int) (Z:((List Control) × Int)->Prop) (h:fI a k_ Z):ep prog 14 (fun v=>[v,int k_]) (.s [.c,.c,.c]) (.list true (a.map Control.cells)) (fun e' r=>∃ y:(List Control) × Int,Z y/\e' = .list true (y.1.map Control.cells)/\r=int y.2):=by
 unfold fI at h;refine ep.of func14 rfl ntmps14 (fun _=>by simp) fun H0 n0 v0 K0 bA M Q hQ=>?_
 have h00:=M.1;have hid:∀ i ∈ bA,H0 i=H0 i:=fun _ _=>rfl
 have hnn:n0<=n0:=Nat.le_refl _;refine J.cut (fun O H n=>(O 0=v0/\O 1=int k_)/\n0<=n/\(∀ i ∈ bA,H i=H0 i)/\Sep H n (oE [.c,.c,.c] Control.cells v0 a::K0) (bA)) (by refine⟨?_,(by omega),hid,M⟩<;>simp ) ?_;rintro O H n2 ⟨E,hnn,hid,M⟩;have hq_n2:=hnn;refine zE fun _ V=>?_
 simp[E];apply V;refine zS fun _ V=>?_
 simp[E];apply V;apply J.block;refine J.aI h (fun (sJ:Int × Int × (List Control)) O H n=>match sJ with | (k10,i11,d)=>(O 0=v0/\O 1=int k10/\O 5=int i11)/\n0<=n/\(∀ i ∈ bA,H i=H0 i)/\Sep H n (oE [.c,.c,.c] Control.cells v0 d::K0) (bA)) (by refine⟨?_,(by omega),hid,M⟩<;>simp[E]) ?_;clear E;rintro⟨k10,i11,d⟩ O H n13 K h ⟨E,hnn,hid,M⟩ Y;have hq_n13:=hnn;refine zS fun _ V=>?_
 obtain⟨ab,ac,h⟩:=aE h;have f17:=dY (Sep.len (m:=ab) M wH (by rw[ac,List.length_map]));obtain⟨ad,af,h⟩:=aE h;have f19:=aX (k:=.i64) af;simp[E,f17,f19,-aw,-aZ];apply V;refine J.ite (b:=ad) (by simp[E]) (fun j=>?_) (fun j=>?_)
 ·replace h:=h.1 j;apply zK;apply J.block;refine zE fun _ V=>?_
  obtain⟨am,h⟩:=h;obtain⟨G,ao,h⟩:=aE h;simp[E,j];refine zA (jv k10 am) e53 (.cons (.v _ _ _) .nil) (by simp[E,j]) ?_;rintro _ rfl;rw[<- ao];obtain⟨l,h⟩:=h;obtain⟨e,hv,ap,b2,b3⟩:=Sep.eh M (by simp) l;subst hv;obtain⟨t,L,h⟩:=aE h;have f28:=fun H (hm:H e=some ⟨3,d.map Control.cells⟩)=>ct (H:=H) (k:=.i64) (off:=0) (len:=d.length) (g:=d.length) wH hm (by simp) rfl l
  have f29:=b6 (q:=i11.toNat) l L rfl;obtain⟨u,aM,h⟩:=aE h;simp[E,ap,f28,f29,j,-av,-ca];refine ju (i:=DK) (q:=i11.toNat) (off:=0) (new:=[str G]) (ix:=i11) (x:=t) (y:=(Control.mk G t.ports t.kind)) (f:=Control.cells) M (by simp) (by simp) l L rfl rfl (fun _=>rfl) (by simp) (by simp) (by simp[ee]) (by simp) ?_;rintro N M a0;replace M:Sep N n13 (oE [.c,.c,.c] Control.cells (.arr e d.length 0 d.length) u::K0) (bA):=by rw[aM];exact M
  have hid:∀ i ∈ bA,N i=H0 i:=fun i hi=>(a0 i (by simp[hi])).trans (hid i hi)
  simp[E,f28,f29,j,-av];apply V;refine J.cut (fun O H n=>(O 0 = .arr e d.length 0 d.length/\O 1=int k10/\O 5=int i11)/\n0<=n/\(∀ i ∈ bA,H i=H0 i)/\Sep H n (oE [.c,.c,.c] Control.cells (.arr e d.length 0 d.length) u::K0) (bA)) (by refine⟨?_,(by omega),hid,M⟩<;>simp[E,f28,f29,j,-av]) ?_;clear E;rintro O H n34 ⟨E,hnn,hid,M⟩;have hq_n34:=hnn;refine zE fun _ V=>?_
  obtain⟨a1,h⟩:=h;obtain⟨A,a2,h⟩:=aE h;have f37:=aR a1 a2;simp[E,f37,-aw];apply V;refine zE fun _ V=>?_
  obtain⟨o,h⟩:=h;obtain⟨b5,hv,a3,b7,b8⟩:=Sep.eh M (by simp) o;simp only[au.arr.injEq] at hv;obtain⟨hv,hln43,-⟩:=hv;subst hv;have hlshln43:=hln43.symm;obtain⟨B,R,h⟩:=aE h;have f45:=fun H (hm:H e=some ⟨3,u.map Control.cells⟩)=>ct (H:=H) (k:=.i64) (off:=0) (len:=d.length) (g:=d.length) wH hm (by simp[hln43]) rfl (by rw[hln43];exact o)
  have f46:=b6 (q:=i11.toNat) o R rfl;obtain⟨C,a4,h⟩:=aE h;simp[E,hlshln43,a3,f45,f46,-av,-ca];refine ju (i:=qT) (q:=i11.toNat) (off:=1) (new:=[int A]) (ix:=i11) (x:=B) (y:=(Control.mk B.name A B.kind)) (f:=Control.cells) M (by simp) (by simp) o R rfl hln43 (fun _=>rfl) (by simp) (by simp) (by simp[ee]) (by simp) ?_;rintro T M a5;replace M:Sep T n34 (oE [.c,.c,.c] Control.cells (.arr e d.length 0 d.length) C::K0) (bA):=by rw[a4];exact M
  have hid:∀ i ∈ bA,T i=H0 i:=fun i hi=>(a5 i (by simp[hi])).trans (hid i hi)
  simp[E,hlshln43,f45,f46,-av];apply V;refine J.cut (fun O H n=>(O 0 = .arr e d.length 0 d.length/\O 1=int A/\O 5=int i11)/\n0<=n/\(∀ i ∈ bA,H i=H0 i)/\Sep H n (oE [.c,.c,.c] Control.cells (.arr e d.length 0 d.length) C::K0) (bA)) (by refine⟨?_,(by omega),hid,M⟩<;>simp[E,hlshln43,f45,f46,-av]) ?_;clear E hlshln43;rintro O H n51 ⟨E,hnn,hid,M⟩;have hq_n51:=hnn;refine zE fun _ V=>?_
  obtain⟨a9,h⟩:=h;obtain⟨v53,bd,h⟩:=aE h;have f54:=aR a9 bd;simp[E,f54,-aw];apply V;refine zE fun _ V=>?_
  obtain⟨p,h⟩:=h;obtain⟨b9,hv,be,cc,ce⟩:=Sep.eh M (by simp) p;simp only[au.arr.injEq] at hv;obtain⟨hv,hln60,-⟩:=hv;subst hv;have hlshln60:=hln60.symm;obtain⟨D,W,h⟩:=aE h;have f62:=fun H (hm:H e=some ⟨3,C.map Control.cells⟩)=>ct (H:=H) (k:=.i64) (off:=0) (len:=d.length) (g:=d.length) wH hm (by simp[hln60]) rfl (by rw[hln60];exact p)
  have f63:=b6 (q:=i11.toNat) p W rfl;obtain⟨F,bi,h⟩:=aE h;simp[E,hlshln60,be,f62,f63,-av,-ca];refine ju (i:=qT) (q:=i11.toNat) (off:=2) (new:=[int v53]) (ix:=i11) (x:=D) (y:=(Control.mk D.name D.ports v53)) (f:=Control.cells) M (by simp) (by simp) p W rfl hln60 (fun _=>rfl) (by simp) (by simp) (by simp[ee]) (by simp) ?_;rintro X M bk;replace M:Sep X n51 (oE [.c,.c,.c] Control.cells (.arr e d.length 0 d.length) F::K0) (bA):=by rw[bi];exact M
  have hid:∀ i ∈ bA,X i=H0 i:=fun i hi=>(bk i (by simp[hi])).trans (hid i hi)
  simp[E,hlshln60,f62,f63,-av];apply V;refine J.cut (fun O H n=>(O 0 = .arr e d.length 0 d.length/\O 1=int v53/\O 5=int i11)/\n0<=n/\(∀ i ∈ bA,H i=H0 i)/\Sep H n (oE [.c,.c,.c] Control.cells (.arr e d.length 0 d.length) F::K0) (bA)) (by refine⟨?_,(by omega),hid,M⟩<;>simp[E,hlshln60,f62,f63,-av]) ?_;clear E hlshln60;rintro O H n68 ⟨E,hnn,hid,M⟩;have hq_n68:=hnn;refine zF fun _ V=>?_
  obtain⟨bs,h⟩:=h;obtain⟨v70,bv,h⟩:=aE h;have f71:=aR bs bv;simp[E,f71,-aw];apply V;refine zI fun _ V=>?_
  obtain⟨bC,h⟩:=h;obtain⟨b0,b1,h⟩:=aE h;have f74:=aR bC b1;simp[E,f74,-aw];apply V;refine Y (v70,b0,F) _ _ _ h (by refine⟨?_,(by omega),hid,M⟩<;>simp[E])
 replace h:=h.2 j;refine J.exit rfl ?_;refine zE fun _ V=>?_
 simp[E,j];apply V;exact J.bj (v:=int k10) func14 results14 (by simp[E,j]) (hQ _ _ _ _ (Sep.sub M (by simp +contextual)) hid (by omega) ⟨(d,k10),h,rfl,rfl⟩)
theorem sS (a:List Control) (k_:Int) (hp:gR a k_):ep prog 14 (fun v=>[v,int k_]) (.s [.c,.c,.c]) (.list true (a.map Control.cells)) (fun e' r=>e' = .list true (((du a k_).1).map Control.cells)/\r=int ((du a k_).2)):=(qO a k_ _ (sM a k_ hp)).mono (by rintro _ _ ⟨_,rfl,rfl,rfl⟩;exact⟨rfl,rfl⟩)
theorem e58:a8 prog 58:=a8.of func58 (by kernel_rfl) rfl
theorem vT (a:List Int) (k_:Int) (Z:Int->Prop) (h:kf a k_ Z):aF prog 58 [.list false (a.map aA),int k_] (fun r=>∃ y:Int,Z y/\r=int y):=by
 unfold kf at h;refine aF.of func58 rfl ntmps58 (by simp) fun Q hQ=>?_
 refine J.cut (fun O H n=>(O 0 = .list false (a.map aA)/\O 1=int k_)) (by simp) ?_;rintro O H U E;refine zE fun _ V=>?_
 simp[E];apply V;refine zS fun _ V=>?_
 simp[E];apply V;apply J.block;refine J.aI h (fun (sJ:Int × Int) O H n=>match sJ with | (k5,i6)=>(O 0 = .list false (a.map aA)/\O 1=int k5/\O 5=int i6)) (by simp[E]) ?_;clear E;rintro⟨k5,i6⟩ O H n7 K h E IH8;refine zS fun _ V=>?_
 obtain⟨fX,e,h⟩:=aE h;have f11:=fun H=>aN (H:=H) (fr:=false) (f:=aA) aV e
 obtain⟨g,i,h⟩:=aE h;have f13:=aX (k:=.i64) i;simp[E,f11,f13,-aw,-aZ];apply V;refine J.ite (b:=g) (by simp[E]) (fun c=>?_) (fun c=>?_)
 ·replace h:=h.1 c;apply zK;apply J.block;refine zS fun _ V=>?_
  obtain⟨j,h⟩:=h;obtain⟨B,l,h⟩:=aE h;have f16:=fun H=>aO (H:=H) (fr:=false) (f:=aA) (k:=.i64) aV (fun _=>rfl) j l
  obtain⟨o,p,h⟩:=aE h;have f18:=eo (k:=.i64) p;simp[E,f16,f18,c,-av,-aw];apply V;refine J.ite (b:=o) (by simp[E,c]) (fun d=>?_) (fun d=>?_)
  ·replace h:=h.1 d;refine zE fun _ V=>?_
   simp[E,c,d];apply V;exact J.bj (v:=int (-1)) func58 results58 (by simp[E,c,d]) (hQ _ _ _ _ (.of (.v _)) ⟨(-1),h,rfl⟩)
  replace h:=h.2 d;apply J.skip;refine zF fun _ V=>?_
  obtain⟨q,h⟩:=h;obtain⟨v20,t,h⟩:=aE h;have f21:=aR q t;simp[E,f21,c,d,-aw];apply V;refine zI fun _ V=>?_
  obtain⟨u,h⟩:=h;obtain⟨v23,A,h⟩:=aE h;have f24:=aR u A;simp[E,f24,c,d,-aw];apply V;refine J.cut (fun O H n=>(O 0 = .list false (a.map aA)/\O 1=int v20/\O 5=int v23)) (by simp[E,f24,c,d,-aw]) ?_;clear E;rintro O H n25 E;refine IH8 (v20,v23) _ _ _ h (by simp[E])
 replace h:=h.2 c;refine J.exit rfl ?_;refine zE fun _ V=>?_
 simp[E,c];apply V;exact J.bj (v:=int k5) func58 results58 (by simp[E,c]) (hQ _ _ _ _ (.of (.v _)) ⟨k5,h,rfl⟩)
theorem sa (a:List Int) (k_:Int) (hp:jf a k_):aF prog 58 [.list false (a.map aA),int k_] (fun r=>r=int (cE a k_)):=(vT a k_ _ (zN a k_ hp)).mono (by rintro _ ⟨_,rfl,rfl⟩;rfl)
end Go.Ab.Vg
