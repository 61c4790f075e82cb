/- Merged texts (10 of 12) of the proof that ends in Amy: Se Sd Sf Sg Arw Amz. -/
import Derived.Test.YtfjladalegioaaaGreatDoorAbQam9
open Go.Proofs.Tryz
set_option linter.unusedSectionVars false
set_option linter.unusedSimpArgs false
set_option linter.unusedVariables false
namespace Go.Ab
section
variable {H:au} {n:Nat} {K K':List bG} {ids:List Id}
end
section
variable {P:Program} {f:FuncId} {N:Nat} {k:List Item} {Q:ao->au->Nat->Prop} {Ty:Types} {l:List Oper} {O:Env} {H:au} {n:Nat}
end
end Go.Ab
namespace Go.Ab
section
variable (P:Program) (N:Nat) (ops:Array Oper) (Stab:au->Nat->Prop) (hard:List Nat)
inductive OrdT where
 | fin
 | stop
 | free (i:Nat) (t:OrdT)
 | hard (i:Nat) (t a:OrdT)
end
section
variable {P:Program} {N:Nat} {ops:Array Oper} {Stab:au->Nat->Prop} {hard:List Nat}
end
section
variable {P:Program} {f:FuncId} {N:Nat} {k:List Item} {O:Env} {H:au} {n:Nat} {Q:ao->au->Nat->Prop}
end
section
variable {P:Program} {N:Nat} {ops:Array Oper} {Stab:au->Nat->Prop} {hard:List Nat} {R:AS->Prop} {O:Env} {H:au} {n:Nat} {i:Nat} {l:OrdT} {Ty:Types}
end
end Go.Ab
namespace Go.Ab
section
variable {P:Program} {N:Nat} {O:Env} {H:au} {n:Nat} {Ty:Types} {d:Option Tmp} {ty:TypeId} {pos:String} {af:Array Edge} {gu:Option (Nat × Bool)}
end
section
variable {P:Program} {f:FuncId} {N:Nat} {k:List Item} {Q:ao->au->Nat->Prop} {Ty:Types} {l:List Oper} {O:Env} {H:au} {n:Nat} {d:Option Tmp} {ty:TypeId} {pos:String} {af:Array Edge}
end
end Go.Ab
namespace Go.Ab
open Go.Proofs Go.RowKit
section
variable {P:Program} {f:FuncId} {N:Nat} {k:List Item} {Q:ao->au->Nat->Prop} {Ty:Types} {l:List Oper} {O:Env} {H:au} {n:Nat} {d:Option Tmp} {ty:TypeId} {pos:String} {af:Array Edge} {gu:Option (Nat × Bool)}
end
end Go.Ab
namespace Go.Ab.Vg
open Go.Proofs
set_option maxRecDepth 100000
attribute [local simp] bW sliceC bO pA
attribute [local simp] av
theorem b4 (t:Bool) (l:List aw):old (.list t (l.map (av t))) = .list false (l.map (av false)):=by
  rw[eS,List.map_map]
  congr 1
  refine List.map_congr_left fun x _=>?_
  have h:=jE t x;simp only[bq,kP] at h;simpa only [Function.comp,av,ao.agg.injEq] using h
theorem az.fY {H:au} {n:Nat} (t:Bool) (l:List aw):az H n (.list t (l.map (av t))) (.list false (l.map (av false))):=by
  refine az.rM (.list _ _ fun e he a ha=>?_) (b4 t l);obtain⟨x,_,rfl⟩:=List.mem_map.1 he;simp only[av,List.mem_singleton] at ha;subst ha;exact gH.list _ _ (fun e he a ha=>by obtain⟨y,_,rfl⟩:=List.mem_map.1 he;simp only[J.cells,List.mem_cons,List.not_mem_nil,or_false] at ha;rcases ha with rfl | rfl | rfl<;>exact .v _)
theorem tY (p:aw) (a:Int) (h:ir p a):aA prog 34 [.agg [.list false (p.map J.cells)],int a] (fun r=>r=str (gT p a)):=by obtain⟨h1,rfl⟩:=h;have:=h1.len;exact j9 h1 (p.length+1) (-1) (by omega) (by omega) (by omega) (by omega)
theorem uX (p:aw) (a:Int) (h:ir p a):aA prog 28 [.agg [.list false (p.map J.cells)],int a] (fun r=>r=str (gT p a)):=by obtain⟨h1,rfl⟩:=h;have:=h1.len;exact jx h1 (p.length+1) (-1) (by omega) (by omega) (by omega) (by omega)
theorem e32:aV prog 32:=aV.of func32 (by kernel_rfl) rfl
theorem oD (p:aw) (Z:(List aq)->Prop) (h:iw p Z):bE prog 32 [.agg [.list false (p.map J.cells)]] (.s [.c,.c,.c]) (fun r=>∃ y:List aq,Z y/\r = .list true (y.map aq.cells)):=by
 unfold iw at h;have M:Sep bc 0 [] []:=Sep.nil (by simp);refine bE.of func32 rfl ntmps32 (by simp) fun Q hQ=>?_
 refine I.cut (fun O H n=>O 0 = .agg [.list false (p.map J.cells)]/\Sep H n [] []) (by refine⟨by simp[J.cells],M⟩) ?_;rintro O H U ⟨E,M⟩;refine zE fun _ V=>?_
 simp[E,J.cells];apply V;refine I.cut (fun O H n=>(O 1=pA U 1/\H (U,1)=some ⟨1,[[.list false (p.map J.cells)]]⟩)/\Sep H n [] [(U,1)]) (by refine⟨by simp[E,J.cells],M.var⟩) ?_;clear E;rintro O H n3 ⟨⟨E,a⟩,M⟩;refine zE fun _ V=>?_
 simp[E,a,J.cells,aq.cells];apply V;refine I.cut (fun O H n=>∃ (v5:ao),((O 1=pA U 1/\O 3=v5)/\H (U,1)=some ⟨1,[[.list false (p.map J.cells)]]⟩)/\Sep H n [oE [.c,.c,.c] aq.cells v5 ([]:List aq)] [(U,1)]) (by refine⟨.arr (n3,8) 0 0 0,by simp[E,a,J.cells,aq.cells],(Sep.addEmpty (l:=[.c,.c,.c]) M)⟩) ?_;clear E a;rintro O H n6 ⟨v5,⟨E,a⟩,M⟩;refine zS fun _ V=>?_
 simp[E,a,J.cells,aq.cells];apply V;apply I.block;refine I.aI h (fun (sJ:Int × (List aq)) O H n=>match sJ with | (kind14,F)=>∃ (q:ao),((O 1=pA U 1/\O 3=q/\O 4=int kind14)/\H (U,1)=some ⟨1,[[.list false (p.map J.cells)]]⟩)/\Sep H n [oE [.c,.c,.c] aq.cells q F] [(U,1)]) (by refine⟨v5,by simp[E,a,J.cells,aq.cells],M⟩) ?_;clear E a;rintro⟨kind14,F⟩ O H n17 K h ⟨q,⟨E,a⟩,M⟩ X;refine zS fun _ V=>?_
 obtain⟨Y,ac,h⟩:=aF h;have f21:=tR (k:=.i64) ac;simp[E,a,f21,J.cells,aq.cells,-ax];apply V;refine I.ite (b:=Y) (by simp[E,a,J.cells,aq.cells]) (fun o=>?_) (fun o=>?_)
 ·replace h:=h.1 o;apply zK;apply I.block;refine zE fun _ V=>?_
  obtain⟨B,ad,h⟩:=aF h;have f23:=fun H=>bU (H:=H) (fr:=false) (f:=J.cells) bx ad
  simp[E,a,f23,o,J.cells,aq.cells,-bL];apply V;apply I.block;refine I.aI h (fun (sJ:Int × (List aq)) O H n=>match sJ with | (v31,G)=>∃ (t:ao),((O 1=pA U 1/\O 3=t/\O 4=int kind14/\O 15=int B/\O 16=int v31)/\H (U,1)=some ⟨1,[[.list false (p.map J.cells)]]⟩)/\Sep H n [oE [.c,.c,.c] aq.cells t G] [(U,1)]) (by refine⟨q,by simp[E,a,o,J.cells,aq.cells],M⟩) ?_;clear E a;rintro⟨v31,G⟩ O H n34 K h ⟨t,⟨E,a⟩,M⟩ af;refine zE fun _ V=>?_
  obtain⟨am,aP,h⟩:=aF h;have f38:=bF (k:=.i64) aP;simp[E,a,f38,J.cells,aq.cells,-ax];apply V;apply I.seq;refine I.ite (b:=am) (by simp[E,a,J.cells,aq.cells]) (fun e=>?_) (fun e=>?_)
  ·replace h:=h.1 e;apply zK;apply I.block;refine zE fun _ V=>?_
   simp[E,a,e,J.cells,aq.cells];apply V;refine zE fun _ V=>?_
   obtain⟨L,a0,h⟩:=aF h;have f40:=fun H=>bU (H:=H) (fr:=false) (f:=J.cells) bx a0
   simp[E,a,f40,e,J.cells,aq.cells,-bL];apply V;apply I.block;refine I.aI h (fun (sJ:Int × (List aq)) O H n=>match sJ with | (g,u)=>∃ (A:ao),((O 1=pA U 1/\O 3=A/\O 4=int kind14/\O 5=int v31/\O 15=int B/\O 16=int v31/\O 21=int L/\O 22=int g)/\H (U,1)=some ⟨1,[[.list false (p.map J.cells)]]⟩)/\Sep H n [oE [.c,.c,.c] aq.cells A u] [(U,1)]) (by refine⟨t,by simp[E,a,e,J.cells,aq.cells],M⟩) ?_;clear E a;rintro⟨g,u⟩ O H n51 K h ⟨A,⟨E,a⟩,M⟩ R;refine zE fun _ V=>?_
   obtain⟨a1,a2,h⟩:=aF h;have f55:=bF (k:=.i64) a2;simp[E,a,f55,J.cells,aq.cells,-ax];apply V;apply I.seq;refine I.ite (b:=a1) (by simp[E,a,J.cells,aq.cells]) (fun i=>?_) (fun i=>?_)
   ·replace h:=h.1 i;apply zK;apply I.block;refine zE fun _ V=>?_
    simp[E,a,i,J.cells,aq.cells];apply V;refine zE fun _ V=>?_
    simp[E,a,i,J.cells,aq.cells];apply V;refine I.cut (fun O H n=>∃ (C:ao),((O 1=pA U 1/\O 3=C/\O 4=int kind14/\O 5=int v31/\O 7=pA n51 7/\O 15=int B/\O 16=int v31/\O 21=int L/\O 22=int g)/\H (U,1)=some ⟨1,[[.list false (p.map J.cells)]]⟩/\H (n51,7)=some ⟨3,[[int kind14,int v31,int g]]⟩)/\Sep H n [oE [.c,.c,.c] aq.cells C u] [(n51,7),(U,1)]) (by refine⟨A,by simp[E,a,i,J.cells,aq.cells],M.var⟩) ?_;clear E a;rintro O H ci ⟨C,⟨E,a,d⟩,M⟩;refine zE fun _ V=>?_
    obtain⟨a3,h⟩:=h;obtain⟨a4,a5,h⟩:=aF h;simp[E,a,d,J.cells,aq.cells];refine zA (oL p (aq.mk kind14 v31 g) a3) e45 (.cons (az.agg (.cons (az.bt (fr:=false) (els:=p.map J.cells) (by simp[J.cells])) .nil)) (.cons (az.agg (.cons (.v _ _ _) (.cons (.v _ _ _) (.cons (.v _ _ _) .nil)))) .nil)) (by simp[E,a,d,J.cells,aq.cells]) ?_;rintro _ rfl;rw[<- a5];simp[E,a,d,J.cells,aq.cells];apply V;refine I.ite (b:=a4) (by simp[E,a,d,J.cells,aq.cells]) (fun j=>?_) (fun j=>?_)
    ·replace h:=h.1 j;refine zF fun _ V=>?_
     obtain⟨a9,h⟩:=h;obtain⟨N,bd,h⟩:=aF h;simp[E,a,d,j,J.cells,aq.cells,-aR];refine cx [] [] [[int kind14,int v31,int g]] [aq.cells (aq.mk kind14 v31 g)] M lF (by simp) (by simp) (by simp[J.cells,aq.cells]) (by simp[-aL,cX]) (cB (aX.v _ (aX.v _ (aX.v _ aX.nil)))) (by simp) (by simpa using a9) ?_;rintro T be bi M W cj;replace M:Sep be bi [oE [.c,.c,.c] aq.cells T N] [(n51,7),(U,1)]:=Sep.ap bd M;have a:=(W _ (by simp)).trans a;have d:=(W _ (by simp)).trans d;simp[E,a,d,j,J.cells,aq.cells];apply V;refine I.cut (fun O H n=>∃ (D:ao),((O 1=pA U 1/\O 3=D/\O 4=int kind14/\O 5=int v31/\O 15=int B/\O 16=int v31/\O 21=int L/\O 22=int g)/\H (U,1)=some ⟨1,[[.list false (p.map J.cells)]]⟩)/\Sep H n [oE [.c,.c,.c] aq.cells D N] [(U,1)]) (by refine⟨T,by simp[E,a,d,j,J.cells,aq.cells],(Sep.sub M (by simp +contextual))⟩) ?_;clear E a d;rintro O H cl ⟨D,⟨E,a⟩,M⟩;refine zI fun _ V=>?_
     obtain⟨bk,h⟩:=h;obtain⟨v72,bs,h⟩:=aF h;have f73:=a8 bk bs;simp[E,a,f73,J.cells,aq.cells,-ax];apply V;refine R (v72,N) _ _ _ h (by refine⟨D,by simp[E,a,J.cells,aq.cells],M⟩)
    replace h:=h.2 j;apply I.skip;refine zI fun _ V=>?_
    obtain⟨bv,h⟩:=h;obtain⟨v75,b0,h⟩:=aF h;have f76:=a8 bv b0;simp[E,a,d,f76,j,J.cells,aq.cells,-ax];apply V;refine R (v75,u) _ _ _ h (by refine⟨C,by simp[E,a,d,j,J.cells,aq.cells],(Sep.sub M (by simp +contextual))⟩)
   replace h:=h.2 i;refine I.exit rfl ?_;refine zI fun _ V=>?_
   obtain⟨b1,h⟩:=h;obtain⟨b2,b3,h⟩:=aF h;have f79:=a8 b1 b3;simp[E,a,f79,i,J.cells,aq.cells,-ax];apply V;refine af (b2,u) _ _ _ h (by refine⟨A,by simp[E,a,i,J.cells,aq.cells],M⟩)
  replace h:=h.2 e;refine I.exit rfl ?_;refine zI fun _ V=>?_
  obtain⟨b8,h⟩:=h;obtain⟨cc,ce,h⟩:=aF h;have f82:=a8 b8 ce;simp[E,a,f82,e,J.cells,aq.cells,-ax];apply V;refine X (cc,G) _ _ _ h (by refine⟨t,by simp[E,a,e,J.cells,aq.cells],M⟩)
 replace h:=h.2 o;refine I.exit rfl ?_;refine zE fun _ V=>?_
 simp[E,a,o,J.cells,aq.cells];apply V;exact I.b9 (v:=q) func32 results32 (by simp[E,a,o,J.cells,aq.cells]) (hQ _ _ _ _ (Sep.sub (ids':=[]) M (by simp)) ⟨F,h,rfl⟩)
theorem sy (p:aw) (hp:jc p):bE prog 32 [.agg [.list false (p.map J.cells)]] (.s [.c,.c,.c]) (fun r=>r = .list true ((bz p).map aq.cells)):=(oD p _ (rQ p hp)).mono (by rintro _ ⟨_,rfl,rfl⟩;rfl)
theorem e26:aV prog 26:=aV.of func26 (by kernel_rfl) rfl
theorem lT (p:aw) (Z:((List aq) × Bool)->Prop) (h:eu p Z):bE prog 26 [.agg [.list false (p.map J.cells)]] (.t [.s [.c,.c,.c],.c]) (fun r=>∃ y:(List aq) × Bool,Z y/\r = .tup [.list true (y.1.map aq.cells),bool y.2]):=by
 unfold eu at h;have M:Sep bc 0 [] []:=Sep.nil (by simp);refine bE.of func26 rfl ntmps26 (by simp) fun Q hQ=>?_
 refine I.cut (fun O H n=>O 0 = .agg [.list false (p.map J.cells)]/\Sep H n [] []) (by refine⟨by simp[J.cells],M⟩) ?_;rintro O H U ⟨E,M⟩;refine zE fun _ V=>?_
 simp[E,J.cells];apply V;refine I.cut (fun O H n=>(O 1=pA U 1/\H (U,1)=some ⟨1,[[.list false (p.map J.cells)]]⟩)/\Sep H n [] [(U,1)]) (by refine⟨by simp[E,J.cells],M.var⟩) ?_;clear E;rintro O H n3 ⟨⟨E,a⟩,M⟩;refine zE fun _ V=>?_
 simp[E,a,J.cells,aq.cells];apply V;refine I.cut (fun O H n=>∃ (v5:ao),((O 1=pA U 1/\O 4=v5)/\H (U,1)=some ⟨1,[[.list false (p.map J.cells)]]⟩)/\Sep H n [oE [.c,.c,.c] aq.cells v5 ([]:List aq)] [(U,1)]) (by refine⟨.arr (n3,9) 0 0 0,by simp[E,a,J.cells,aq.cells],(Sep.addEmpty (l:=[.c,.c,.c]) M)⟩) ?_;clear E a;rintro O H n6 ⟨v5,⟨E,a⟩,M⟩;refine zS fun _ V=>?_
 obtain⟨hb7,h⟩:=h;obtain⟨r8,er8,h⟩:=aF h;simp[E,a,J.cells,aq.cells];refine zA (lq p hb7.1 hb7.2) e14 (.cons (az.agg (.cons (az.bt (fr:=false) (els:=p.map J.cells) (by simp[J.cells])) .nil)) .nil) (by simp[E,a,J.cells,aq.cells]) ?_;rintro _ rfl;rw[<- er8];simp[E,a,J.cells,aq.cells];apply V;refine I.ite (b:=(!r8)) (by simp[E,a,J.cells,aq.cells]) (fun dr8=>?_) (fun dr8=>?_)
 ·have dr8:r8=false:=by simpa using dr8
  replace h:=h.2 dr8;refine zE fun _ V=>?_
  simp[E,a,dr8,J.cells,aq.cells];apply V;exact I.sP (v:=v5) (w:=bool false) func26 results26 (by simp[E,a,dr8,J.cells,aq.cells]) (by simp[E,a,dr8,J.cells,aq.cells]) (hQ _ _ _ _ (Sep.sub (ids':=[]) (Sep.rF (aX.own (aX.v _ aX.nil)) M) (by simp)) ⟨(([]:List aq),false),h,rfl⟩)
 have dr8:r8=true:=by simpa using dr8
 replace h:=h.1 dr8;apply I.skip;refine zS fun _ V=>?_
 simp[E,a,dr8,J.cells,aq.cells];apply V;apply I.block;refine I.aI h (fun (sJ:Int × (List aq)) O H n=>match sJ with | (kind17,C)=>∃ (q:ao),((O 1=pA U 1/\O 4=q/\O 5=int kind17)/\H (U,1)=some ⟨1,[[.list false (p.map J.cells)]]⟩)/\Sep H n [oE [.c,.c,.c] aq.cells q C] [(U,1)]) (by refine⟨v5,by simp[E,a,dr8,J.cells,aq.cells],M⟩) ?_;clear E a;rintro⟨kind17,C⟩ O H n20 K h ⟨q,⟨E,a⟩,M⟩ R;refine zS fun _ V=>?_
 obtain⟨T,W,h⟩:=aF h;have f24:=tR (k:=.i64) W;simp[E,a,f24,J.cells,aq.cells,-ax];apply V;refine I.ite (b:=T) (by simp[E,a,J.cells,aq.cells]) (fun g=>?_) (fun g=>?_)
 ·replace h:=h.1 g;apply zK;apply I.block;refine zE fun _ V=>?_
  simp[E,a,g,J.cells,aq.cells];apply V;apply I.block;refine I.aI h (fun (sJ:Int × (List aq)) O H n=>match sJ with | (e,D)=>∃ (u:ao),((O 1=pA U 1/\O 4=u/\O 5=int kind17/\O 6=int e)/\H (U,1)=some ⟨1,[[.list false (p.map J.cells)]]⟩)/\Sep H n [oE [.c,.c,.c] aq.cells u D] [(U,1)]) (by refine⟨q,by simp[E,a,g,J.cells,aq.cells],M⟩) ?_;clear E a;rintro⟨e,D⟩ O H n35 K h ⟨u,⟨E,a⟩,M⟩ X;refine zS fun _ V=>?_
  obtain⟨b8,Y,h⟩:=aF h;have f39:=fun H=>bU (H:=H) (fr:=false) (f:=J.cells) bx Y
  obtain⟨ac,ad,h⟩:=aF h;have f41:=bF (k:=.i64) ad;simp[E,a,f39,f41,J.cells,aq.cells,-ax,-bL];apply V;refine I.ite (b:=ac) (by simp[E,a,J.cells,aq.cells]) (fun j=>?_) (fun j=>?_)
  ·replace h:=h.1 j;apply zK;apply I.block;refine zE fun _ V=>?_
   simp[E,a,j,J.cells,aq.cells];apply V;apply I.block;refine I.aI h (fun (sJ:Int × (List aq)) O H n=>match sJ with | (y49,A)=>∃ (v51:ao),((O 1=pA U 1/\O 4=v51/\O 5=int kind17/\O 6=int e/\O 7=int y49)/\H (U,1)=some ⟨1,[[.list false (p.map J.cells)]]⟩)/\Sep H n [oE [.c,.c,.c] aq.cells v51 A] [(U,1)]) (by refine⟨u,by simp[E,a,j,J.cells,aq.cells],M⟩) ?_;clear E a;rintro⟨y49,A⟩ O H n52 K h ⟨v51,⟨E,a⟩,M⟩ G;refine zS fun _ V=>?_
   obtain⟨cc,af,h⟩:=aF h;have f56:=fun H=>bU (H:=H) (fr:=false) (f:=J.cells) bx af
   obtain⟨am,aP,h⟩:=aF h;have f58:=bF (k:=.i64) aP;simp[E,a,f56,f58,J.cells,aq.cells,-ax,-bL];apply V;refine I.ite (b:=am) (by simp[E,a,J.cells,aq.cells]) (fun o=>?_) (fun o=>?_)
   ·replace h:=h.1 o;apply zK;apply I.block;refine zE fun _ V=>?_
    simp[E,a,o,J.cells,aq.cells];apply V;refine I.cut (fun O H n=>∃ (B:ao),((O 1=pA U 1/\O 4=B/\O 5=int kind17/\O 6=int e/\O 7=int y49/\O 8=pA n52 8)/\H (U,1)=some ⟨1,[[.list false (p.map J.cells)]]⟩/\H (n52,8)=some ⟨3,[[int kind17,int e,int y49]]⟩)/\Sep H n [oE [.c,.c,.c] aq.cells B A] [(n52,8),(U,1)]) (by refine⟨v51,by simp[E,a,o,J.cells,aq.cells],M.var⟩) ?_;clear E a;rintro O H n61 ⟨B,⟨E,a,d⟩,M⟩;refine zE fun _ V=>?_
    obtain⟨a0,h⟩:=h;obtain⟨a1,a2,h⟩:=aF h;simp[E,a,d,J.cells,aq.cells];refine zA (nN p (aq.mk kind17 e y49) a0) e39 (.cons (az.agg (.cons (az.bt (fr:=false) (els:=p.map J.cells) (by simp[J.cells])) .nil)) (.cons (az.agg (.cons (.v _ _ _) (.cons (.v _ _ _) (.cons (.v _ _ _) .nil)))) .nil)) (by simp[E,a,d,J.cells,aq.cells]) ?_;rintro _ rfl;rw[<- a2];simp[E,a,d,J.cells,aq.cells];apply V;refine I.ite (b:=a1) (by simp[E,a,d,J.cells,aq.cells]) (fun i=>?_) (fun i=>?_)
    ·replace h:=h.1 i;refine zF fun _ V=>?_
     obtain⟨a3,h⟩:=h;obtain⟨F,a4,h⟩:=aF h;simp[E,a,d,i,J.cells,aq.cells,-aR];refine cx [] [] [[int kind17,int e,int y49]] [aq.cells (aq.mk kind17 e y49)] M lF (by simp) (by simp) (by simp[J.cells,aq.cells]) (by simp[-aL,cX]) (cB (aX.v _ (aX.v _ (aX.v _ aX.nil)))) (by simp) (by simpa using a3) ?_;rintro L a5 n68 M N ce;replace M:Sep a5 n68 [oE [.c,.c,.c] aq.cells L F] [(n52,8),(U,1)]:=Sep.ap a4 M;have a:=(N _ (by simp)).trans a;have d:=(N _ (by simp)).trans d;simp[E,a,d,i,J.cells,aq.cells];apply V;refine I.cut (fun O H n=>∃ (v72:ao),((O 1=pA U 1/\O 4=v72/\O 5=int kind17/\O 6=int e/\O 7=int y49)/\H (U,1)=some ⟨1,[[.list false (p.map J.cells)]]⟩)/\Sep H n [oE [.c,.c,.c] aq.cells v72 F] [(U,1)]) (by refine⟨L,by simp[E,a,d,i,J.cells,aq.cells],(Sep.sub M (by simp +contextual))⟩) ?_;clear E a d;rintro O H ci ⟨v72,⟨E,a⟩,M⟩;refine zI fun _ V=>?_
     obtain⟨a9,h⟩:=h;obtain⟨v75,bd,h⟩:=aF h;have f76:=a8 a9 bd;simp[E,a,f76,J.cells,aq.cells,-ax];apply V;refine G (v75,F) _ _ _ h (by refine⟨v72,by simp[E,a,J.cells,aq.cells],M⟩)
    replace h:=h.2 i;apply I.skip;refine zI fun _ V=>?_
    obtain⟨be,h⟩:=h;obtain⟨bi,bk,h⟩:=aF h;have f79:=a8 be bk;simp[E,a,d,f79,i,J.cells,aq.cells,-ax];apply V;refine G (bi,A) _ _ _ h (by refine⟨B,by simp[E,a,d,i,J.cells,aq.cells],(Sep.sub M (by simp +contextual))⟩)
   replace h:=h.2 o;refine I.exit rfl ?_;refine zI fun _ V=>?_
   obtain⟨bs,h⟩:=h;obtain⟨bv,b0,h⟩:=aF h;have f82:=a8 bs b0;simp[E,a,f82,o,J.cells,aq.cells,-ax];apply V;refine X (bv,A) _ _ _ h (by refine⟨v51,by simp[E,a,o,J.cells,aq.cells],M⟩)
  replace h:=h.2 j;refine I.exit rfl ?_;refine zI fun _ V=>?_
  obtain⟨b1,h⟩:=h;obtain⟨b2,b3,h⟩:=aF h;have f85:=a8 b1 b3;simp[E,a,f85,j,J.cells,aq.cells,-ax];apply V;refine R (b2,D) _ _ _ h (by refine⟨u,by simp[E,a,j,J.cells,aq.cells],M⟩)
 replace h:=h.2 g;refine I.exit rfl ?_;refine zE fun _ V=>?_
 simp[E,a,g,J.cells,aq.cells];apply V;exact I.sP (v:=q) (w:=bool true) func26 results26 (by simp[E,a,g,J.cells,aq.cells]) (by simp[E,a,g,J.cells,aq.cells]) (hQ _ _ _ _ (Sep.sub (ids':=[]) (Sep.rF (aX.own (aX.v _ aX.nil)) M) (by simp)) ⟨(C,true),h,rfl⟩)
theorem nG (p:aw) (hp:fk p):bE prog 26 [.agg [.list false (p.map J.cells)]] (.t [.s [.c,.c,.c],.c]) (fun r=>r = .tup [.list true (((dt p).1).map aq.cells),bool ((dt p).2)]):=(lT p _ (nS p hp)).mono (by rintro _ ⟨_,rfl,rfl⟩;rfl)
theorem e18:aV prog 18:=aV.of func18 (by kernel_rfl) rfl
theorem nK (p:aw) (Z:(List aH)->Prop) (h:gf p Z):bE prog 18 [.agg [.list false (p.map J.cells)]] (.s [.c]) (fun r=>∃ y:List aH,Z y/\r = .list true (y.map bO)):=by
 unfold gf at h;have M:Sep bc 0 [] []:=Sep.nil (by simp);refine bE.of func18 rfl ntmps18 (by simp) fun Q hQ=>?_
 refine I.cut (fun O H n=>O 0 = .agg [.list false (p.map J.cells)]/\Sep H n [] []) (by refine⟨by simp[J.cells],M⟩) ?_;rintro O H U ⟨E,M⟩;refine zE fun _ V=>?_
 simp[E,J.cells];apply V;refine I.cut (fun O H n=>(O 1=pA U 1/\H (U,1)=some ⟨1,[[.list false (p.map J.cells)]]⟩)/\Sep H n [] [(U,1)]) (by refine⟨by simp[E,J.cells],M.var⟩) ?_;clear E;rintro O H n3 ⟨⟨E,a⟩,M⟩;refine zE fun _ V=>?_
 simp[E,a,J.cells];apply V;refine I.cut (fun O H n=>∃ (v5:ao),((O 1=pA U 1/\O 3=v5)/\H (U,1)=some ⟨1,[[.list false (p.map J.cells)]]⟩)/\Sep H n [oS v5 ([]:List aH)] [(U,1)]) (by refine⟨.arr (n3,6) 0 0 0,by simp[E,a,J.cells],(Sep.addEmpty (l:=[.c]) M)⟩) ?_;clear E a;rintro O H n6 ⟨v5,⟨E,a⟩,M⟩;refine zS fun _ V=>?_
 obtain⟨hb7,h⟩:=h;obtain⟨r8,er8,h⟩:=aF h;simp[E,a,J.cells];refine zW (sy p hb7) e32 (.cons (az.agg (.cons (az.bt (fr:=false) (els:=p.map J.cells) (by simp[J.cells])) .nil)) .nil) M (by simp[E,a,J.cells]) ?_;rintro v9 ci cj _ M rfl cl aP;rw[<- er8] at M;have a:=(aP _ (by simp)).trans a;obtain⟨j,a0,h⟩:=aF h;have f17:=di (Sep.len (m:=j) M lF (by rw[a0,List.length_map]));simp[E,a,f17,J.cells,-bL];apply V;refine I.cut (fun O H n=>∃ (o t:ao),((O 1=pA U 1/\O 3=t/\O 8=o/\O 9=int j/\O 10=int 0)/\H (U,1)=some ⟨1,[[.list false (p.map J.cells)]]⟩)/\Sep H n [oE [.c,.c,.c] aq.cells o r8,oS t ([]:List aH)] [(U,1)]) (by refine⟨v9,v5,by simp[E,a,f17,J.cells,-bL],M⟩) ?_;clear E a;rintro O H n20 ⟨o,t,⟨E,a⟩,M⟩;apply I.block;refine I.aI h (fun (sJ:Int × (List aH)) O H n=>match sJ with | (v30,u)=>∃ (L A:ao),((O 1=pA U 1/\O 3=A/\O 8=L/\O 9=int j/\O 10=int v30)/\H (U,1)=some ⟨1,[[.list false (p.map J.cells)]]⟩)/\Sep H n [oE [.c,.c,.c] aq.cells L r8,oS A u] [(U,1)]) (by refine⟨o,t,by simp[E,a,J.cells],M⟩) ?_;clear E a;rintro⟨v30,u⟩ O H n34 K h ⟨L,A,⟨E,a⟩,M⟩ a1;refine zE fun _ V=>?_
 obtain⟨a2,a3,h⟩:=aF h;have f38:=bF (k:=.i64) a3;simp[E,a,f38,J.cells,-ax];apply V;apply I.seq;refine I.ite (b:=a2) (by simp[E,a,J.cells]) (fun e=>?_) (fun e=>?_)
 ·replace h:=h.1 e;apply zK;apply I.block;refine zE fun _ V=>?_
  obtain⟨N,h⟩:=h;obtain⟨X,hv,R,co,B⟩:=Sep.cp M (by simp) N;subst hv;simp at B;obtain⟨C,a4,h⟩:=aF h;have f45:=fun H (hm:H X=some ⟨3,r8.map aq.cells⟩)=>bJ (H:=H) (k:=.i64) (off:=0) (len:=r8.length) (g:=r8.length) lF hm (by simp) rfl N
  have f46:=bm (q:=v30.toNat) N a4 rfl;simp[E,a,R,B,f45,f46,e,J.cells,aq.cells,-ar];apply V;refine I.cut (fun O H n=>∃ (i v49:ao),((O 1=pA U 1/\O 3=v49/\O 5=pA n34 5/\O 8=i/\O 9=int j/\O 10=int v30)/\H (U,1)=some ⟨1,[[.list false (p.map J.cells)]]⟩/\H (n34,5)=some ⟨3,[[int C.kind,int C.cap,int C.place]]⟩)/\Sep H n [oE [.c,.c,.c] aq.cells i r8,oS v49 u] [(n34,5),(U,1)]) (by refine⟨.arr X r8.length 0 r8.length,A,by simp[E,a,R,B,f45,f46,e,J.cells,aq.cells,-ar],M.var⟩) ?_;clear E a R B;rintro O H cs ⟨i,v49,⟨E,a,d⟩,M⟩;refine zF fun _ V=>?_
  obtain⟨a5,h⟩:=h;obtain⟨T,a9,h⟩:=aF h;simp[E,a,d,J.cells,aq.cells];refine zW (sm p C a5) e33 (.cons (az.agg (.cons (az.bt (fr:=false) (els:=p.map J.cells) (by simp[J.cells])) .nil)) (.cons (az.agg (.cons (.v _ _ _) (.cons (.v _ _ _) (.cons (.v _ _ _) .nil)))) .nil)) M (by simp[E,a,d,J.cells,aq.cells]) ?_;rintro v53 c0 c1 _ M rfl c2 Y;rw[<- a9] at M;have a:=(Y _ (by simp)).trans a;have d:=(Y _ (by simp)).trans d;replace M:=Sep.unpack M;obtain⟨L60,hv,bd,M⟩:=M;subst hv;obtain⟨v59,hv⟩:=kT (by simpa using bd);subst hv;simp only[dM,List.cons_append,List.nil_append] at M;replace M:=Sep.sM M;try simp only[List.append_eq,List.cons_append,List.nil_append,List.append_assoc] at M
  obtain⟨be,h⟩:=h;obtain⟨ac,bi,h⟩:=aF h;simp[E,a,d,J.cells,aq.cells];refine zA (tY T (-1) be) e34 (.cons (az.agg (.cons (Sep.cH M.f2 (bZ (by simp[J.cells]))) .nil)) (.cons (.v _ _ _) .nil)) (by simp[E,a,d,J.cells,aq.cells]) ?_;rintro _ rfl;rw[<- bi];obtain⟨bk,h⟩:=h;obtain⟨W,bs,h⟩:=aF h;simp[E,a,d,J.cells,aq.cells,-aR];refine cx [] [oE [.c,.c,.c] aq.cells i r8,oE [.c,.c,.c] J.cells v59 T] [[str ac]] [bO ac] M.f1 ct (by simp) (by simp) (by simp[J.cells,aq.cells]) (by simp[-aL,cX]) (cB (aX.v _ aX.nil)) (by simp) (by simpa using bk) ?_;rintro ad bv n69 M af c3;replace M:Sep bv n69 [oS ad W,oE [.c,.c,.c] aq.cells i r8,oE [.c,.c,.c] J.cells v59 T] [(n34,5),(U,1)]:=Sep.ap bs M;have a:=(af _ (by simp)).trans a;have d:=(af _ (by simp)).trans d;simp[E,a,d,J.cells,aq.cells];apply V;refine I.cut (fun O H n=>∃ (D F:ao),((O 1=pA U 1/\O 3=D/\O 8=F/\O 9=int j/\O 10=int v30)/\H (U,1)=some ⟨1,[[.list false (p.map J.cells)]]⟩)/\Sep H n [oS D W,oE [.c,.c,.c] aq.cells F r8] [(U,1)]) (by refine⟨ad,i,by simp[E,a,d,J.cells,aq.cells],(Sep.sub M.f2.dr (by simp +contextual))⟩) ?_;clear E a d;rintro O H c6 ⟨D,F,⟨E,a⟩,M⟩;refine zI fun _ V=>?_
  obtain⟨b0,h⟩:=h;obtain⟨b1,b2,h⟩:=aF h;have f78:=a8 b0 b2;simp[E,a,f78,J.cells,aq.cells,-ax];apply V;refine a1 (b1,W) _ _ _ h (by refine⟨F,D,by simp[E,a,J.cells,aq.cells],M.f1⟩)
 replace h:=h.2 e;refine I.exit rfl ?_;refine zE fun _ V=>?_
 obtain⟨b3,h⟩:=h;obtain⟨am,b8,h⟩:=aF h;simp[E,a,e,J.cells,aq.cells];refine zW (lE u b3) e35 (.cons (Sep.cH M.f1 (bZ (by simp))) .nil) M (by simp[E,a,e,J.cells,aq.cells]) ?_;rintro cc da dc _ M rfl dl ce;rw[<- b8] at M;have a:=(ce _ (by simp)).trans a;simp[E,a,e,J.cells,aq.cells];apply V;refine I.cut (fun O H n=>∃ (G:ao),O 2=G/\Sep H n [oS G am] []) (by refine⟨cc,by simp[E,a,e,J.cells,aq.cells],(Sep.sub M.f1.dr.f1.dr (by simp +contextual))⟩) ?_;clear E a;rintro O H ds ⟨G,E,M⟩;exact I.b9 (v:=G) func18 results18 (by simp[E,J.cells,aq.cells]) (hQ _ _ _ _ (Sep.sub (ids':=[]) M (by simp)) ⟨am,h,rfl⟩)
theorem qK (p:aw) (hp:hJ p):bE prog 18 [.agg [.list false (p.map J.cells)]] (.s [.c]) (fun r=>r = .list true ((results p).map bO)):=(nK p _ (qj p hp)).mono (by rintro _ ⟨_,rfl,rfl⟩;rfl)
theorem e7:aV prog 7:=aV.of func7 (by kernel_rfl) rfl
theorem kE (p:aw) (Z:((List aw) × Bool)->Prop) (h:dY p Z):bE prog 7 [.agg [.list false (p.map J.cells)]] (.t [.s [.s [.c,.c,.c]],.c]) (fun r=>∃ y:(List aw) × Bool,Z y/\r = .tup [.list true (y.1.map (av true)),bool y.2]):=by
 unfold dY at h;have M:Sep bc 0 [] []:=Sep.nil (by simp);refine bE.of func7 rfl ntmps7 (by simp) fun Q hQ=>?_
 refine I.cut (fun O H n=>O 0 = .agg [.list false (p.map J.cells)]/\Sep H n [] []) (by refine⟨by simp[J.cells],M⟩) ?_;rintro O H U ⟨E,M⟩;refine zE fun _ V=>?_
 simp[E,J.cells];apply V;refine I.cut (fun O H n=>(O 1=pA U 1/\H (U,1)=some ⟨1,[[.list false (p.map J.cells)]]⟩)/\Sep H n [] [(U,1)]) (by refine⟨by simp[E,J.cells],M.var⟩) ?_;clear E;rintro O H n3 ⟨⟨E,a⟩,M⟩;refine zS fun _ V=>?_
 obtain⟨hb4,h⟩:=h;obtain⟨r5,er5,h⟩:=aF h;simp[E,a,J.cells];refine zA (jC p hb4.1 hb4.2) e17 (.cons (az.agg (.cons (az.bt (fr:=false) (els:=p.map J.cells) (by simp[J.cells])) .nil)) .nil) (by simp[E,a,J.cells]) ?_;rintro _ rfl;rw[<- er5];simp[E,a,J.cells];apply V;refine I.ite (b:=(!r5)) (by simp[E,a,J.cells]) (fun dr5=>?_) (fun dr5=>?_)
 ·have dr5:r5=false:=by simpa using dr5
  replace h:=h.2 dr5;refine zE fun _ V=>?_
  simp[E,a,dr5,J.cells];apply V;exact I.sP (v:=.v (.slice none 0 0)) (w:=bool false) func7 results7 (by simp[E,a,dr5,J.cells]) (by simp[E,a,dr5,J.cells]) (hQ _ _ _ _ (Sep.sub (ids':=[]) (Sep.rF (aX.own (aX.v _ aX.nil)) (Sep.qU M)) (by simp)) ⟨([],false),h,rfl⟩)
 have dr5:r5=true:=by simpa using dr5
 replace h:=h.1 dr5;apply I.skip;refine zE fun _ V=>?_
 simp[E,a,dr5,J.cells,av];apply V;refine I.cut (fun O H n=>∃ (v9:ao),((O 1=pA U 1/\O 4=v9)/\H (U,1)=some ⟨1,[[.list false (p.map J.cells)]]⟩)/\Sep H n [oE [.s [.c,.c,.c]] (av true) v9 ([]:List aw)] [(U,1)]) (by refine⟨.arr (n3,12) 0 0 0,by simp[E,a,dr5,J.cells,av],(Sep.addEmpty (l:=[.s [.c,.c,.c]]) M)⟩) ?_;clear E a;rintro O H b2 ⟨v9,⟨E,a⟩,M⟩;refine zS fun _ V=>?_
 obtain⟨X,h⟩:=h;obtain⟨d,Y,h⟩:=aF h;simp[E,a,J.cells,av];refine zW (qK p X) e18 (.cons (az.agg (.cons (az.bt (fr:=false) (els:=p.map J.cells) (by simp[J.cells])) .nil)) .nil) M (by simp[E,a,J.cells,av]) ?_;rintro ac b3 n15 _ M rfl b8 ad;rw[<- Y] at M;have a:=(ad _ (by simp)).trans a;obtain⟨o,af,h⟩:=aF h;have f21:=di (Sep.len (m:=o) M ct (by rw[af,List.length_map]));simp[E,a,f21,J.cells,av,-bL];apply V;refine I.cut (fun O H n=>∃ (v22 v23:ao),(O 4=v23/\O 14=v22/\O 15=int o/\O 16=int 0)/\Sep H n [oS v22 d,oE [.s [.c,.c,.c]] (av true) v23 ([]:List aw)] []) (by refine⟨ac,v9,by simp[E,a,f21,J.cells,av,-bL],(Sep.sub M (by simp +contextual))⟩) ?_;clear E a;rintro O H n24 ⟨v22,v23,E,M⟩;apply I.block;refine I.aI h (fun (sJ:Int × (List aw)) O H n=>match sJ with | (u,B)=>∃ (G v37:ao),(O 4=v37/\O 14=G/\O 15=int o/\O 16=int u)/\Sep H n [oS G d,oE [.s [.c,.c,.c]] (av true) v37 B] []) (by refine⟨v22,v23,by simp[E,J.cells,av],M⟩) ?_;clear E;rintro⟨u,B⟩ O H n38 K h ⟨G,v37,E,M⟩ am;refine zE fun _ V=>?_
 obtain⟨aP,a0,h⟩:=aF h;have f42:=bF (k:=.i64) a0;simp[E,f42,J.cells,av,-ax];apply V;apply I.seq;refine I.ite (b:=aP) (by simp[E,J.cells,av]) (fun e=>?_) (fun e=>?_)
 ·replace h:=h.1 e;apply zK;apply I.block;refine zE fun _ V=>?_
  obtain⟨L,h⟩:=h;obtain⟨W,hv,N,cc,ce⟩:=Sep.cp M (by simp) L;subst hv;obtain⟨a1,a2,h⟩:=aF h;have f49:=fun H (hm:H W=some ⟨1,d.map bO⟩)=>bJ (H:=H) (k:=.i64) (off:=0) (len:=d.length) (g:=d.length) ct hm (by simp) rfl L
  have f50:=bm (q:=u.toNat) L a2 rfl;simp[E,N,f49,f50,e,J.cells,av,-ar];apply V;refine zE fun _ V=>?_
  obtain⟨a3,h⟩:=h;obtain⟨R,a4,h⟩:=aF h;simp[E,N,e,J.cells,av];refine zW (mJ a1 a3) e19 (.cons (.v _ _ _) .nil) M (by simp[E,N,e,J.cells,av]) ?_;rintro v53 ci C _ M rfl cj cl;rw[<- a4] at M;replace M:=Sep.kR M;obtain⟨L61,hv,a5,M⟩:=M;subst hv;obtain⟨v59,co,hv⟩:=gV (by simpa using a5);subst hv;simp only[dM,List.cons_append,List.nil_append] at M;replace M:=Sep.unpack M;obtain⟨L64,hv,a9,M⟩:=M;subst hv;obtain⟨bd,hv⟩:=kT (by simpa using a9);subst hv;simp only[dM,List.cons_append,List.nil_append] at M;replace M:=Sep.sM M;replace M:=Sep.scalar M;obtain⟨hv,M⟩:=M;subst hv;have f68:=Sep.oc M.f2;simp[E,f68,e,J.cells,av,-aJ,-aL,fx,cX];apply V;refine I.cut (fun O H n=>∃ (i v70 A:ao),((O 4=v70/\O 7=pA C 7/\O 14=i/\O 15=int o/\O 16=int u)/\H (C,7)=some ⟨1,[[A]]⟩)/\Sep H n [oS i d,oE [.s [.c,.c,.c]] (av true) v70 B,oE [.c,.c,.c] J.cells A R.1] [(C,7)]) (by refine⟨.arr W d.length 0 d.length,v37,bd,by simp[E,f68,e,J.cells,av,-aJ,-aL,fx,cX],M.var⟩) ?_;clear E;rintro O H cs ⟨i,v70,A,⟨E,j⟩,M⟩;refine zF fun _ V=>?_
  obtain⟨be,h⟩:=h;obtain⟨T,bi,h⟩:=aF h;simp[E,j,J.cells,av,-aR];refine cx [oE [.c,.c,.c] J.cells A R.1] [oS i d] [[A]] [(av true) R.1] M.f2.f2 ep (by simp) (by simp) (by simp[J.cells,av]) (by simp[-aL,cX,Sep.aL M.f2.f2.dr]) (cB (aX.own aX.nil)) (by simp) (by simpa using be) ?_;rintro v75 bk bs M bv c0;replace M:Sep bk bs [oE [.s [.c,.c,.c]] (av true) v75 T,oS i d] [(C,7)]:=Sep.ap bi M;have j:=(bv _ (by simp)).trans j;simp[E,j,J.cells,av];apply V;refine I.cut (fun O H n=>∃ (D F:ao),(O 4=D/\O 14=F/\O 15=int o/\O 16=int u)/\Sep H n [oE [.s [.c,.c,.c]] (av true) D T,oS F d] []) (by refine⟨v75,i,by simp[E,j,J.cells,av],(Sep.sub M (by simp +contextual))⟩) ?_;clear E j;rintro O H c1 ⟨D,F,E,M⟩;refine zI fun _ V=>?_
  obtain⟨b0,h⟩:=h;obtain⟨v85,b1,h⟩:=aF h;have f86:=a8 b0 b1;simp[E,f86,J.cells,av,-ax];apply V;refine am (v85,T) _ _ _ h (by refine⟨F,D,by simp[E,J.cells,av],M.f1⟩)
 replace h:=h.2 e;refine I.exit rfl ?_;refine zE fun _ V=>?_
 simp[E,e,J.cells,av];apply V;exact I.sP (v:=v37) (w:=bool true) func7 results7 (by simp[E,e,J.cells,av]) (by simp[E,e,J.cells,av]) (hQ _ _ _ _ (Sep.sub (ids':=[]) (Sep.hd (Sep.rF (aX.own (aX.v _ aX.nil)) M.f1)) (by simp)) ⟨(B,true),h,rfl⟩)
theorem iT (p:aw) (hp:dH p):bE prog 7 [.agg [.list false (p.map J.cells)]] (.t [.s [.s [.c,.c,.c]],.c]) (fun r=>r = .tup [.list true (((aY p).1).map (av true)),bool ((aY p).2)]):=(kE p _ (mB p hp)).mono (by rintro _ ⟨_,rfl,rfl⟩;rfl)
theorem e15:aV prog 15:=aV.of func15 (by kernel_rfl) rfl
theorem kD (p:aw) (Z:(List aw)->Prop) (h:dV p Z):bE prog 15 [.agg [.list false (p.map J.cells)]] (.s [.c]) (fun r=>∃ y:List aw,Z y/\r = .list true (y.map (av true))):=by
 unfold dV at h;have M:Sep bc 0 [] []:=Sep.nil (by simp);refine bE.of func15 rfl ntmps15 (by simp) fun Q hQ=>?_
 refine I.cut (fun O H n=>O 0 = .agg [.list false (p.map J.cells)]/\Sep H n [] []) (by refine⟨by simp[J.cells],M⟩) ?_;rintro O H U ⟨E,M⟩;refine zE fun k' V=>?_
 simp[E,J.cells];apply V;refine I.cut (fun O H n=>(O 1=pA U 1/\H (U,1)=some ⟨1,[[.list false (p.map J.cells)]]⟩)/\Sep H n [] [(U,1)]) (by refine⟨by simp[E,J.cells],M.var⟩) ?_;clear E;rintro O H n3 ⟨⟨E,e⟩,M⟩;refine zE fun k' V=>?_
 obtain⟨hb4,h⟩:=h;obtain⟨r5,er5,h⟩:=aF h;simp[E,e,J.cells];refine zA ((nG p hb4).pure) e26 (.cons (az.agg (.cons (az.bt (fr:=false) (els:=p.map J.cells) (by simp[J.cells])) .nil)) .nil) (by simp[E,e,J.cells]) ?_;rintro _ rfl;rw[<- er5];simp[E,e,J.cells];apply V;refine zE fun k' V=>?_
 simp[E,e,J.cells,av];apply V;refine I.cut (fun O H n=>∃ (v8 v9:ao),((O 1=pA U 1/\O 3 = .list true (r5.1.map aq.cells)/\O 5=v9/\O 6=v8)/\H (U,1)=some ⟨1,[[.list false (p.map J.cells)]]⟩)/\Sep H n [oS v8 ([]:List aH),oE [.c] (av true) v9 ([]:List aw)] [(U,1)]) (by refine⟨.arr (n3+1,17) 0 0 0,.arr (n3,16) 0 0 0,by simp[E,e,J.cells,av],(Sep.addEmpty (l:=[.c]) (Sep.addEmpty (l:=[.c]) M))⟩) ?_;clear E e;rintro O H hF ⟨v8,v9,⟨E,e⟩,M⟩;refine zS fun k' V=>?_
 simp[E,e,J.cells,av];apply V;apply I.block;refine I.aI h (fun (sJ:Int × (List aH) × (List aw)) O H n=>match sJ with | (i21,o,u)=>∃ (v24 v25:ao),((O 1=pA U 1/\O 3 = .list true (r5.1.map aq.cells)/\O 5=v25/\O 6=v24/\O 7=int i21)/\H (U,1)=some ⟨1,[[.list false (p.map J.cells)]]⟩)/\Sep H n [oS v24 o,oE [.c] (av true) v25 u] [(U,1)]) (by refine⟨v8,v9,by simp[E,e,J.cells,av],M⟩) ?_;clear E e;rintro⟨i21,o,u⟩ O H n26 K h ⟨v24,v25,⟨E,e⟩,M⟩ cj;refine zS fun k' V=>?_
 obtain⟨hH,d8,h⟩:=aF h;have f30:=fun H=>bU (H:=H) (fr:=true) (f:=aq.cells) lF d8
 obtain⟨d9,el,h⟩:=aF h;have f32:=bF (k:=.i64) el;simp[E,e,f30,f32,J.cells,aq.cells,av,-ax,-bL];apply V;refine I.ite (b:=d9) (by simp[E,e,J.cells,aq.cells,av]) (fun ad=>?_) (fun ad=>?_)
 ·replace h:=h.1 ad;apply zK;apply I.block;refine I.cut (fun O H n=>∃ (W X:ao),((O 1=pA U 1/\O 3 = .list true (r5.1.map aq.cells)/\O 5=X/\O 6=W/\O 7=int i21)/\H (U,1)=some ⟨1,[[.list false (p.map J.cells)]]⟩)/\Sep H n [oS W o,oE [.c] (av true) X u] [(U,1)]) (by refine⟨v24,v25,by simp[E,e,ad,J.cells,aq.cells,av],M⟩) ?_;clear E e;rintro O H n35 ⟨W,X,⟨E,e⟩,M⟩;obtain⟨em,h⟩:=h;obtain⟨A,er,h⟩:=aF h;have f38:=fun H=>bl (H:=H) (fr:=true) (f:=aq.cells) (k:=.i64) lF (fun _=>rfl) em er
  obtain⟨es,h⟩:=h;obtain⟨D,ev,h⟩:=aF h;have hid42:=M.1;refine I.seq (I.drawI (mo.Inv { m:=8,c:=5,a:=6,st:=7,d:=8,B:=[(1,pA U 1),(3,.list true (r5.1.map aq.cells)),(5,X),(6,W),(7,int i21)],al:=fun GI AI=>[(0,24,.agg [.list false (p.map J.cells)]),(1,25,.list true (r5.1.map aq.cells)),(2,26,int i21),(3,27,.iptr true [int A.kind,int A.cap,int A.place]),(4,28,.agg [int A.kind,int A.cap,int A.place]),(5,29,.agg [.list true (D.map J.cells)]),(6,8,.ptr (AI,8) 1 0 0)],ent:=fun GI=>[],ob0:=⟨1,[[.v (.slice none 0 0)]]⟩,ob1:=fun GI=>⟨1,[[.list true (D.map J.cells)]]⟩,RG:=fun GI=>True,onC:=[7],onA:=[7],H0:=H,n0:=n35,K:=[oS W o,oE [.c] (av true) X u],ids:=[(U,1)] }) cf (by decide) (mo.init (Old.cons E.1 (Old.cons E.2.1 (Old.cons E.2.2.1 (Old.cons E.2.2.2.1 (Old.cons E.2.2.2.2 Old.nil))))) M) ?_ ?_)
  ·rintro (_ | _ | _ | _ | _ | _ | _ | _ | i)
   ·exact mo.det (i:=0) rfl rfl rfl rfl (fun L' ρ' H' n' G' A' hO hT hd hG hcl hfr M=>⟨.agg [.list false (p.map J.cells)],bN aB (by rw[bP];have t1:=hO.at 0 rfl;have mm1_1:=(hfr (U,1) (by simp)).trans e;simp[t1,mm1_1,J.cells,aq.cells,av]),by simp⟩)
   ·exact mo.det (i:=1) rfl rfl rfl rfl (fun L' ρ' H' n' G' A' hO hT hd hG hcl hfr M=>⟨.list true (r5.1.map aq.cells),bN aB (by rw[bP];have t3:=hO.at 1 rfl;simp[t3,J.cells,aq.cells,av]),by simp⟩)
   ·exact mo.det (i:=2) rfl rfl rfl rfl (fun L' ρ' H' n' G' A' hO hT hd hG hcl hfr M=>⟨int i21,bN aB (by rw[bP];have t7:=hO.at 4 rfl;simp[t7,J.cells,aq.cells,av]),by simp⟩)
   ·exact mo.det (i:=3) rfl rfl rfl rfl (fun L' ρ' H' n' G' A' hO hT hd hG hcl hfr M=>⟨.iptr true [int A.kind,int A.cap,int A.place],bN aB (by rw[bP];have t25:=hT.at 1 rfl (hd ⟨1,.data⟩ (by simp) rfl);have t26:=hT.at 2 rfl (hd ⟨2,.data⟩ (by simp) rfl);simp[t25,t26,f38,-ar,J.cells,aq.cells,av]),by simp⟩)
   ·exact mo.det (i:=4) rfl rfl rfl rfl (fun L' ρ' H' n' G' A' hO hT hd hG hcl hfr M=>⟨.agg [int A.kind,int A.cap,int A.place],bN aB (by rw[bP];have t27:=hT.at 3 rfl (hd ⟨3,.data⟩ (by simp) rfl);simp[t27,J.cells,aq.cells,av]),by simp⟩)
   ·exact mo.ri rfl rfl rfl (fun _=>rfl) (fun _=>trivial) (fun L' ρ' H' n' G' A' hO hT hd hfr M=>⟨_,by have t24:=hT.at 0 rfl (hd ⟨0,.data⟩ (by simp) rfl);have t28:=hT.at 4 rfl (hd ⟨4,.data⟩ (by simp) rfl);exact aE.callD2 (xs:=[.agg [.list false (p.map J.cells)],.agg [int A.kind,int A.cap,int A.place]]) (q7 p A es) e27 (.cons (az.agg (.cons (az.bt (fr:=false) (els:=p.map J.cells) (by simp[J.cells])) .nil)) (.cons (az.agg (.cons (.v _ _ _) (.cons (.v _ _ _) (.cons (.v _ _ _) .nil)))) .nil)) (by simp[t24,t28,J.cells,aq.cells,av]) (by simp[t24,t28,J.cells,aq.cells,av]),by simp[ev,J.cells,aq.cells,av]⟩)
   ·exact mo.alloc aB rfl ru rfl rfl rfl
   ·exact mo.store aB rfl rfl rfl hid42 ⟨⟨5,.data⟩,by simp,rfl,by simp⟩ ⟨⟨6,.data⟩,by simp,rfl,by simp⟩ (fun L' ρ' H' G' A' hO hT hd hG hw=>by have t8:=hT.at 6 rfl (hd ⟨6,.data⟩ (by simp) rfl);have t29:=hT.at 5 rfl (hd ⟨5,.data⟩ (by simp) rfl);simp[t8,t29,hw,ru,-aL,o1_int,vD,o1_str,o1_nil,vz,o1_arr,o1_ptr,J.cells,aq.cells,av])
   ·exact iV.none (by simp)
  ·rintro L' ⟨O,H,n45⟩ hI hr;obtain⟨hK,t,hO,hT,hG,M,ex,hn0_,hA_,j⟩:=mo.fin (by kernel_rfl) rfl (show (5:Nat)<8/\(6:Nat)<8/\(7:Nat)<8 by decide) (by intro G' A';simp) hI hr;show I _ _ _ _ O H n45 _;replace hO:Old O _:=hO;replace hT:vV O _:=hT;clear E;have h1:=hO.at 0 rfl;have h3:=hO.at 1 rfl;have h5:=hO.at 2 rfl;have h6:=hO.at 3 rfl;have h7:=hO.at 4 rfl;have h24:=hT.at 0 rfl;have h25:=hT.at 1 rfl;have h26:=hT.at 2 rfl;have h27:=hT.at 3 rfl;have h28:=hT.at 4 rfl;have h29:=hT.at 5 rfl;have h8:=hT.at 6 rfl;have e:H (U,1)=some ⟨1,[[.list false (p.map J.cells)]]⟩:=(ex (U,1) (by simp)).trans e;have j:H (t,8)=some ⟨1,[[.list true (D.map J.cells)]]⟩:=j;replace M:Sep H n45 [oS W o,oE [.c] (av true) X u] [(t,8),(U,1)]:=M;refine I.cut (fun O H n=>∃ (a1 a2:ao),((O 1=pA U 1/\O 3 = .list true (r5.1.map aq.cells)/\O 5=a2/\O 6=a1/\O 7=int i21/\O 8 = .ptr (t,8) 1 0 0)/\H (U,1)=some ⟨1,[[.list false (p.map J.cells)]]⟩/\H (t,8)=some ⟨1,[[.list true (D.map J.cells)]]⟩)/\Sep H n [oS a1 o,oE [.c] (av true) a2 u] [(t,8),(U,1)]) (by refine⟨W,X,by simp[e,j,h1,h3,h5,h6,h7,h24,h25,h26,h27,h28,h29,h8,J.cells,aq.cells,av],M⟩) ?_;clear e j h1 h3 h5 h6 h7 h24 h25 h26 h27 h28 h29 h8;rintro O H n49 ⟨a1,a2,⟨E,e,j⟩,M⟩;refine zE fun k' V=>?_
   obtain⟨ey,h⟩:=h;obtain⟨am,e0,h⟩:=aF h;simp[E,e,j,J.cells,aq.cells,av];refine zA (uX D (-1) ey) e28 (.cons (az.agg (.cons (az.bt (fr:=true) (els:=D.map J.cells) (by simp[J.cells])) .nil)) (.cons (.v _ _ _) .nil)) (by simp[E,e,j,J.cells,aq.cells,av]) ?_;rintro _ rfl;rw[<- e0];simp[E,e,j,J.cells,aq.cells,av];apply V;apply I.seq;apply I.block;refine I.aI h (fun (sJ:Int) O H n=>match sJ with | k56=>∃ (a3 aP:ao),((O 1=pA U 1/\O 3 = .list true (r5.1.map aq.cells)/\O 5=aP/\O 6=a3/\O 7=int i21/\O 8 = .ptr (t,8) 1 0 0/\O 9=str am/\O 10=int k56)/\H (U,1)=some ⟨1,[[.list false (p.map J.cells)]]⟩/\H (t,8)=some ⟨1,[[.list true (D.map J.cells)]]⟩)/\Sep H n [oS a3 o,oE [.c] (av true) aP u] [(t,8),(U,1)]) (by refine⟨a1,a2,by simp[E,e,j,J.cells,aq.cells,av],M⟩) ?_;clear E e j;rintro k56 O H n59 K h ⟨a3,aP,⟨E,e,j⟩,M⟩ e1;refine zS fun k' V=>?_
   obtain⟨e2,e3,e4⟩:=h;have cl:∀ (sJ:Bool) (O:Env) (H:au) (n:Nat),e2 sJ->(match sJ with | a5=>∃ (a0 af:ao),((O 1=pA U 1/\O 3 = .list true (r5.1.map aq.cells)/\O 5=af/\O 6=a0/\O 7=int i21/\O 8 = .ptr (t,8) 1 0 0/\O 9=str am/\O 10=int k56/\O 43=bool a5)/\H (U,1)=some ⟨1,[[.list false (p.map J.cells)]]⟩/\H (t,8)=some ⟨1,[[.list true (D.map J.cells)]]⟩)/\Sep H n [oS a0 o,oE [.c] (av true) af u] [(t,8),(U,1)])->I prog 15 83 k' O H n Q:=by
    rintro a5 O H n69 h ⟨a0,af,⟨E,e,j⟩,M⟩;replace h:=e4 _ h;apply V;refine I.ite (b:=a5) (by simp[E,e,j,J.cells,aq.cells,av]) (fun F=>?_) (fun F=>?_)
    ·replace h:=h.1 F;apply I.skip;apply I.block;refine zF fun k' V=>?_
     obtain⟨e5,h⟩:=h;obtain⟨e6,e7,h⟩:=aF h;have f72:=a8 e5 e7;simp[E,e,j,f72,F,J.cells,aq.cells,av,-ax];apply V;apply I.inBlock;refine e1 (e6) _ _ _ h (by refine⟨a0,af,by simp[E,e,j,F,J.cells,aq.cells,av],M⟩)
    replace h:=h.2 F;refine I.exit rfl ?_;refine zE fun k' V=>?_
    obtain⟨e8,e9,fd⟩:=h;have co:∀ (sJ:Bool) (O:Env) (H:au) (n:Nat),e8 sJ->(match sJ with | a9=>∃ (G L:ao),((O 1=pA U 1/\O 3 = .list true (r5.1.map aq.cells)/\O 5=L/\O 6=G/\O 7=int i21/\O 8 = .ptr (t,8) 1 0 0/\O 9=str am/\O 10=int k56/\O 57=bool a9)/\H (U,1)=some ⟨1,[[.list false (p.map J.cells)]]⟩/\H (t,8)=some ⟨1,[[.list true (D.map J.cells)]]⟩)/\Sep H n [oS G o,oE [.c] (av true) L u] [(t,8),(U,1)])->I prog 15 83 k' O H n Q:=by
     rintro a9 O H hL h ⟨G,L,⟨E,e,j⟩,M⟩;replace h:=fd _ h;apply V;refine I.ite (b:=a9) (by simp[E,e,j,J.cells,aq.cells,av]) (fun C=>?_) (fun C=>?_)
     ·replace h:=h.1 C;have cs:=Sep.at M (by simp);refine I.seqV aB (dS G) cf (by decide) (by kernel_rfl) fun k' V=>?_
      simp[E,e,j,C,J.cells,aq.cells,av];have fl:=(eF (d:=58) (o':=⟨1,[]⟩) cs).1;refine iv (eF cs).2 (by simp) ?_;obtain⟨fn,h⟩:=h;obtain⟨c0,fo,h⟩:=aF h;simp[E,e,j,C,J.cells,aq.cells,av,-b6];refine fX (g:=bO) (xs:=o) 0 k56 (fun _ h=>h) (by simp[E,e,j,C,J.cells,aq.cells,av]) (Sep.f1 (Sep.addEmpty (l:=[.c]) M)) (by simp) ct (by simp) (by simp[a6]) (by simp[a6]) fn ?_;rintro hM bd;replace bd:=bd.trans (show _=some (c0.map bO) by simp[fo]);obtain⟨fs,h⟩:=h;obtain⟨fz,f0,h⟩:=aF h;simp[E,e,j,C,J.cells,aq.cells,av,-aR];refine dR (c0.map bO) (by simp) (Sep.addEmpty (l:=[.c]) M) (by simp) ct (by simp) (by simp) bd (by simp[-aL,cX,J.cells,aq.cells,av]) (by simpa using fs) ?_;rintro f3 be f4 M c1 hN;replace M:Sep be f4 [oS f3 fz,oS G o,oE [.c] (av true) L u] [(t,8),(U,1)]:=by refine Sep.ap f0 ?_;exact M
      have c2:=Sep.at M.f1 (by simp);refine⟨fun i hi=>((c2 i hi).1).trans ((fl i hi).1).symm,?_⟩;have e:be (U,1)=some ⟨1,[[.list false (p.map J.cells)]]⟩:=(c1 _ (by simp)).trans (by simp[E,e,j,au.df]);have j:be (t,8)=some ⟨1,[[.list true (D.map J.cells)]]⟩:=(c1 _ (by simp)).trans (by simp[E,e,j,au.df]);obtain⟨f5,h⟩:=h;obtain⟨f6,f7,h⟩:=aF h;simp[E,e,j,C,J.cells,aq.cells,av,-aR];refine ju [] [oS G o,oE [.c] (av true) L u] [[str am]] [bO am] (by simp) M ct (by simp) (by simp) (by simp[J.cells,aq.cells,av]) (by simp[-aL,cX]) (cB (aX.v _ aX.nil)) (by simp) (by simpa using f5) ?_;rintro f8 f9 n101 M c3 hR;replace M:Sep f9 n101 [oS f8 f6,oS G o,oE [.c] (av true) L u] [(t,8),(U,1)]:=Sep.ap f7 M;have c6:=Sep.at M.f1 (by simp);refine⟨fun i hi=>((c6 i hi).1).trans ((c2 i hi).1).symm,?_⟩;have e:=(c3 _ (by simp)).trans e;have j:=(c3 _ (by simp)).trans j;obtain⟨gc,h⟩:=h;obtain⟨da,gd,h⟩:=aF h;simp[E,e,j,C,J.cells,aq.cells,av,-b6];refine fX (g:=bO) (xs:=o) k56 (o.length:Int) (fun _ h=>h) (by simp[E,e,j,C,J.cells,aq.cells,av]) M.f1 (by simp) ct (by simp) (by simp[a6]) (by simp[a6]) gc ?_;rintro hS bi;replace bi:=bi.trans (show _=some (da.map bO) by simp[gd]);obtain⟨gg,h⟩:=h;obtain⟨R,gi,h⟩:=aF h;simp[E,e,j,C,J.cells,aq.cells,av,-aR];refine dR (da.map bO) (by simp) M (by simp) ct (by simp) (by simp) bi (by simp[-aL,cX,J.cells,aq.cells,av]) (by simpa using gg) ?_;rintro dc gj n114 M dl hV;replace M:Sep gj n114 [oS dc R,oS G o,oE [.c] (av true) L u] [(t,8),(U,1)]:=by refine Sep.ap gi ?_;exact M
      have go:=Sep.at M.f1 (by simp);refine⟨fun i hi=>((go i hi).1).trans ((c6 i hi).1).symm,?_⟩;have e:=(dl _ (by simp)).trans e;have j:=(dl _ (by simp)).trans j;simp[E,e,j,C,J.cells,aq.cells,av];apply V;refine I.cut (fun O H n=>∃ (T N:ao),((O 1=pA U 1/\O 3 = .list true (r5.1.map aq.cells)/\O 5=N/\O 6=T/\O 7=int i21/\O 8 = .ptr (t,8) 1 0 0/\O 10=int k56)/\H (U,1)=some ⟨1,[[.list false (p.map J.cells)]]⟩/\H (t,8)=some ⟨1,[[.list true (D.map J.cells)]]⟩)/\Sep H n [oS T R,oE [.c] (av true) N u] [(t,8),(U,1)]) (by refine⟨dc,L,by simp[E,e,j,C,J.cells,aq.cells,av],M.f1.dr⟩) ?_;clear E e j;rintro O H n121 ⟨T,N,⟨E,e,j⟩,M⟩;have ds:=Sep.at M.f1 (by simp);refine I.evalWE aB ([(t,8),(U,1)]++dS N) cf (by decide) (by kernel_rfl) fun k' V=>?_
      simp[E,e,j,J.cells,aq.cells,av];have gs:=(eF (d:=70) (o':=⟨1,[]⟩) ds).1;have gu:∀ i ∈ [(t,8),(U,1)]++dS N,(au.set _ (_,70) ⟨1,[]⟩) i=_:=fun i hi=>(List.mem_append.1 hi).elim (fun hi=>au.ay _ _ (by rintro rfl;have:=M.1 _ hi;simp at this)) (fun hi=>(eF ds).2 i hi)
      refine j4 gu (by simp) ?_;obtain⟨gv,h⟩:=h;obtain⟨d0,gw,h⟩:=aF h;simp[E,e,j,J.cells,aq.cells,av,-b6];refine me (g:=(av true)) (xs:=u) 0 k56 (fun _ h=>by simp[h]) (by simp[E,e,j,J.cells,aq.cells,av]) (Sep.f2 (Sep.addEmpty (l:=[.c]) M)) (by simp) ep (by simp) (by simp[a6]) (by simp[a6]) gv ?_;rintro hW bk;replace bk:=bk.trans (show _=some (d0.map (av true)) by simp[gw]);obtain⟨g0,h⟩:=h;obtain⟨g1,g2,h⟩:=aF h;simp[E,e,j,J.cells,aq.cells,av,-aR];refine iQ (d0.map (av true)) (by simp) (Sep.addEmpty (l:=[.c]) M) (by simp) ep (by simp) (by simp) bk (by simp[-aL,cX,J.cells,aq.cells,av]) (by simpa using g0) ?_;rintro g3 bs n134 M bv hX;replace M:Sep bs n134 [oE [.c] (av true) g3 g1,oS T R,oE [.c] (av true) N u] [(t,8),(U,1)]:=by refine Sep.ap g2 ?_;exact M
      have d1:=Sep.at M.f2 (by simp);refine⟨fun i hi=>(List.mem_append.1 hi).elim (bv i) fun hi=>((d1 i hi).1).trans ((gs i hi).1).symm,?_⟩;have e:bs (U,1)=some ⟨1,[[.list false (p.map J.cells)]]⟩:=(bv _ (by simp)).trans (by simp[E,e,j,au.df]);have j:bs (t,8)=some ⟨1,[[.list true (D.map J.cells)]]⟩:=(bv _ (by simp)).trans (by simp[E,e,j,au.df]);obtain⟨g4,h⟩:=h;obtain⟨g5,g6,h⟩:=aF h;simp[E,e,j,J.cells,aq.cells,av,-aR];refine og [] [oS T R,oE [.c] (av true) N u] [[.list true (D.map J.cells)]] [(av true) D] (by simp) M ep (by simp) (by simp) (by simp[J.cells,aq.cells,av]) (by simp[-aL,cX]) (cB (aX.i (by simp[J.cells]) aX.nil)) (by simp) (by simpa using g4) ?_;rintro v141 g7 n143 M b0 hY;replace M:Sep g7 n143 [oE [.c] (av true) v141 g5,oS T R,oE [.c] (av true) N u] [(t,8),(U,1)]:=Sep.ap g6 M;have d2:=Sep.at M.f2 (by simp);refine⟨fun i hi=>(List.mem_append.1 hi).elim (b0 i) fun hi=>((d2 i hi).1).trans ((d1 i hi).1).symm,?_⟩;have e:=(b0 _ (by simp)).trans e;have j:=(b0 _ (by simp)).trans j;obtain⟨g8,h⟩:=h;obtain⟨d3,g9,h⟩:=aF h;simp[E,e,j,J.cells,aq.cells,av,-b6];refine me (g:=(av true)) (xs:=u) k56 (u.length:Int) (fun _ h=>by simp[h]) (by simp[E,e,j,J.cells,aq.cells,av]) M.f2 (by simp) ep (by simp) (by simp[a6]) (by simp[a6]) g8 ?_;rintro h0 b1;replace b1:=b1.trans (show _=some (d3.map (av true)) by simp[g9]);obtain⟨ha,h⟩:=h;obtain⟨b2,hb,h⟩:=aF h;simp[E,e,j,J.cells,aq.cells,av,-aR];refine iQ (d3.map (av true)) (by simp) M (by simp) ep (by simp) (by simp) b1 (by simp[-aL,cX,J.cells,aq.cells,av]) (by simpa using ha) ?_;rintro v154 hc n156 M b3 h2;replace M:Sep hc n156 [oE [.c] (av true) v154 b2,oS T R,oE [.c] (av true) N u] [(t,8),(U,1)]:=by refine Sep.ap hb ?_;exact M
      have he:=Sep.at M.f2 (by simp);refine⟨fun i hi=>(List.mem_append.1 hi).elim (b3 i) fun hi=>((he i hi).1).trans ((d2 i hi).1).symm,?_⟩;have e:=(b3 _ (by simp)).trans e;have j:=(b3 _ (by simp)).trans j;simp[E,e,j,J.cells,aq.cells,av];apply V;refine I.cut (fun O H n=>∃ (a4 v162:ao),((O 1=pA U 1/\O 3 = .list true (r5.1.map aq.cells)/\O 5=a4/\O 6=v162/\O 7=int i21)/\H (U,1)=some ⟨1,[[.list false (p.map J.cells)]]⟩)/\Sep H n [oE [.c] (av true) a4 b2,oS v162 R] [(U,1)]) (by refine⟨v154,T,by simp[E,e,j,J.cells,aq.cells,av],(Sep.sub M.f2.dr (by simp +contextual))⟩) ?_;clear E e j;rintro O H n163 ⟨a4,v162,⟨E,e⟩,M⟩;refine zI fun k' V=>?_
      obtain⟨hf,h⟩:=h;obtain⟨hg,hj,h⟩:=aF h;have f166:=a8 hf hj;simp[E,e,f166,J.cells,aq.cells,av,-ax];apply V;refine cj (hg,R,b2) _ _ _ h (by refine⟨v162,a4,by simp[E,e,J.cells,aq.cells,av],M.f1⟩)
     replace h:=h.2 C;apply I.skip;refine zI fun k' V=>?_
     obtain⟨hk,h⟩:=h;obtain⟨v168,hl,h⟩:=aF h;have f169:=a8 hk hl;simp[E,e,j,f169,C,J.cells,aq.cells,av,-ax];apply V;refine cj (v168,o,u) _ _ _ h (by refine⟨G,L,by simp[E,e,j,C,J.cells,aq.cells,av],(Sep.sub M (by simp +contextual))⟩)
    replace h:=e9;obtain⟨hn,ho,h⟩:=aF h;have f171:=di (Sep.len (m:=hn) M ct (by rw[ho,List.length_map]));obtain⟨hp,hq,h⟩:=aF h;have f173:=b7 (k:=.i64) hq;rcases Bool.eq_false_or_eq_true hp with Y | Y
    ·replace h:=h.1 Y;simp[E,e,j,f171,f173,F,Y,J.cells,aq.cells,av,-ax,-bL];exact co (true) _ _ _ h (by refine⟨a0,af,by simp[E,e,j,f171,f173,F,Y,J.cells,aq.cells,av,-ax,-bL],M⟩)
    replace h:=h.2 Y;obtain⟨b8,h⟩:=h;obtain⟨d4,hv,d5,h4,cc⟩:=Sep.cp M (by simp) b8;subst hv;simp at cc;obtain⟨h9,hs,h⟩:=aF h;have f180:=fun H (hm:H d4=some ⟨1,o.map bO⟩)=>bJ (H:=H) (k:=.i64) (off:=0) (len:=o.length) (g:=o.length) ct hm (by simp) rfl b8
    have f181:=bm (q:=k56.toNat) b8 hs rfl;obtain⟨ht,hu,h⟩:=aF h;have f183:=nu hu;simp[E,e,j,d5,cc,f171,f173,f180,f181,f183,F,Y,J.cells,aq.cells,av,-ar,-ax,-bL,-bR];exact co (ht) _ _ _ h (by refine⟨.arr d4 o.length 0 o.length,af,by simp[E,e,j,d5,cc,f171,f173,f180,f181,f183,F,Y,J.cells,aq.cells,av,-ar,-ax,-bL,-bR],M⟩)
   replace h:=e3;obtain⟨hx,hy,h⟩:=aF h;have f185:=di (Sep.len (m:=hx) M ct (by rw[hy,List.length_map]));obtain⟨hz,hA,h⟩:=aF h;have f187:=bF (k:=.i64) hA;rcases Bool.eq_false_or_eq_true hz with ac | ac
   ·replace h:=h.1 ac;obtain⟨ce,h⟩:=h;obtain⟨d6,hv,d7,ih,ci⟩:=Sep.cp M (by simp) ce;subst hv;simp at ci;obtain⟨ii,hB,h⟩:=aF h;have f194:=fun H (hm:H d6=some ⟨1,o.map bO⟩)=>bJ (H:=H) (k:=.i64) (off:=0) (len:=o.length) (g:=o.length) ct hm (by simp) rfl ce
    have f195:=bm (q:=k56.toNat) ce hB rfl;obtain⟨hD,hE,h⟩:=aF h;have f197:=sb_lss hE;simp[E,e,j,d7,ci,f185,f187,f194,f195,f197,ac,J.cells,aq.cells,av,-ar,-ax,-bL,-bR];exact cl (hD) _ _ _ h (by refine⟨.arr d6 o.length 0 o.length,aP,by simp[E,e,j,d7,ci,f185,f187,f194,f195,f197,ac,J.cells,aq.cells,av,-ar,-ax,-bL,-bR],M⟩)
   replace h:=h.2 ac;simp[E,e,j,f185,f187,ac,J.cells,aq.cells,av,-ax,-bL];exact cl (false) _ _ _ h (by refine⟨a3,aP,by simp[E,e,j,f185,f187,ac,J.cells,aq.cells,av,-ax,-bL],M⟩)
 replace h:=h.2 ad;refine I.exit rfl ?_;refine zE fun k' V=>?_
 simp[E,e,ad,J.cells,aq.cells,av];apply V;exact I.b9 (v:=v25) func15 results15 (by simp[E,e,ad,J.cells,aq.cells,av]) (hQ _ _ _ _ (Sep.sub (ids':=[]) M.f1.hd (by simp)) ⟨u,h,rfl⟩)
theorem mr (p:aw) (hp:eU p):bE prog 15 [.agg [.list false (p.map J.cells)]] (.s [.c]) (fun r=>r = .list true ((jg p).map (av true))):=(kD p _ (mE p hp)).mono (by rintro _ ⟨_,rfl,rfl⟩;rfl)
theorem e5:aV prog 5:=aV.of func5 (by kernel_rfl) rfl
theorem ka (p:aw) (Z:((List aw) × Bool)->Prop) (h:dB p Z):aA prog 5 [.agg [.list false (p.map J.cells)]] (fun r=>∃ y:(List aw) × Bool,Z y/\r = .tup [.list true (y.1.map (av true)),bool y.2]):=by
 unfold dB at h;refine aA.of func5 rfl ntmps5 (by simp) fun Q hQ=>?_
 refine I.cut (fun O H n=>O 0 = .agg [.list false (p.map J.cells)]) (by simp[J.cells]) ?_;rintro O H U E;refine zE fun _ V=>?_
 simp[E,J.cells];apply V;refine I.cut (fun O H n=>O 1=pA U 1/\H (U,1)=some ⟨1,[[.list false (p.map J.cells)]]⟩) (by refine⟨?_,?_⟩<;>simp[E,J.cells]) ?_;clear E;rintro O H n3 ⟨E,a⟩;refine zS fun _ V=>?_
 obtain⟨hb4,h⟩:=h;obtain⟨r5,er5,h⟩:=aF h;simp[E,a,J.cells];refine zA (lq p hb4.1 hb4.2) e14 (.cons (az.agg (.cons (az.bt (fr:=false) (els:=p.map J.cells) (by simp[J.cells])) .nil)) .nil) (by simp[E,a,J.cells]) ?_;rintro _ rfl;rw[<- er5];simp[E,a,J.cells];apply V;refine I.ite (b:=(!r5)) (by simp[E,a,J.cells]) (fun dr5=>?_) (fun dr5=>?_)
 ·have dr5:r5=false:=by simpa using dr5
  replace h:=h.2 dr5;refine zE fun _ V=>?_
  simp[E,a,dr5,J.cells,av];apply V;refine I.cut (fun O H n=>(O 2 = .arr (n3,7) 0 0 0/\O 3=bool false)/\H (n3,7)=some ⟨1,([]:List aw).map (av true)⟩) (by refine⟨?_,?_⟩<;>simp[E,a,dr5,J.cells,av]) ?_;clear E a;rintro O H n7 ⟨E,c⟩;exact I.sP (v:=.arr (n3,7) 0 0 0) (w:=bool false) func5 results5 (by simp[E,c,J.cells,av]) (by simp[E,c,J.cells,av]) (hQ _ _ _ _ (.of (.tupL (.cons (.pe (sz:=1) (els:=([]:List aw).map (av true)) (by simp[E,c,live,J.cells,av]) (by simp[av,J.cells])) (.cons (.v _) .nil)))) ⟨(([]:List aw),false),h,rfl⟩)
 have dr5:r5=true:=by simpa using dr5
 replace h:=h.1 dr5;apply I.skip;refine zE fun _ V=>?_
 obtain⟨hb8,h⟩:=h;obtain⟨r9,er9,h⟩:=aF h;simp[E,a,dr5,J.cells,av];refine zA ((mr p hb8).pure) e15 (.cons (az.agg (.cons (az.bt (fr:=false) (els:=p.map J.cells) (by simp[J.cells])) .nil)) .nil) (by simp[E,a,dr5,J.cells,av]) ?_;rintro _ rfl;rw[<- er9];simp[E,a,dr5,J.cells,av];apply V;exact I.sP (v:=.list true (r9.map (av true))) (w:=bool true) func5 results5 (by simp[E,a,dr5,J.cells,av]) (by simp[E,a,dr5,J.cells,av]) (hQ _ _ _ _ (.of (.tupL (.cons (.fresh (by simp[av,J.cells])) (.cons (.v _) .nil)))) ⟨(r9,true),h,rfl⟩)
theorem kU (p:aw) (hp:ej p):aA prog 5 [.agg [.list false (p.map J.cells)]] (fun r=>r = .tup [.list true (((cN p).1).map (av true)),bool ((cN p).2)]):=(ka p _ (l0 p hp)).mono (by rintro _ ⟨_,rfl,rfl⟩;rfl)
theorem e8:aV prog 8:=aV.of func8 (by kernel_rfl) rfl
theorem sR (a:List aw) (b:List aw) (Z:Bool->Prop) (h:kS a b Z):aA prog 8 [.list false (a.map (av false)),.list false (b.map (av false))] (fun r=>∃ y:Bool,Z y/\r=bool y):=by
 unfold kS at h;refine aA.of func8 rfl ntmps8 (by simp) fun Q hQ=>?_
 refine I.cut (fun O H n=>(O 0 = .list false (a.map (av false))/\O 1 = .list false (b.map (av false)))) (by simp[J.cells,av]) ?_;rintro O H U E;refine zE fun _ V=>?_
 simp[E,J.cells,av];apply V;refine zS fun _ V=>?_
 obtain⟨gV,elen2,h⟩:=aF h;have f3:=fun H=>bU (H:=H) (fr:=false) (f:=(av false)) ep elen2
 obtain⟨vH,elen4,h⟩:=aF h;have f5:=fun H=>bU (H:=H) (fr:=false) (f:=(av false)) ep elen4
 obtain⟨c6,ec6,h⟩:=aF h;have f7:=eg (k:=.i64) ec6;simp[E,f3,f5,f7,J.cells,av,-ax,-bL];apply V;refine I.ite (b:=c6) (by simp[E,J.cells,av]) (fun dc6=>?_) (fun dc6=>?_)
 ·replace h:=h.1 dc6;refine zE fun _ V=>?_
  simp[E,dc6,J.cells,av];apply V;exact I.b9 (v:=bool false) func8 results8 (by simp[E,dc6,J.cells,av]) (hQ _ _ _ _ (.of (.v _)) ⟨false,h,rfl⟩)
 replace h:=h.2 dc6;apply I.skip;refine zS fun _ V=>?_
 simp[E,dc6,J.cells,av];apply V;apply I.block;refine I.aI h (fun (sJ:Int) O H n=>match sJ with | i10=>(O 0 = .list false (a.map (av false))/\O 1 = .list false (b.map (av false))/\O 5=int i10)) (by simp[E,dc6,J.cells,av]) ?_;clear E;rintro i10 O H G K h E j;refine zS fun _ V=>?_
 obtain⟨L,l,h⟩:=aF h;have f15:=fun H=>bU (H:=H) (fr:=false) (f:=(av false)) ep l
 obtain⟨o,p,h⟩:=aF h;have f17:=bF (k:=.i64) p;simp[E,f15,f17,J.cells,av,-ax,-bL];apply V;refine I.ite (b:=o) (by simp[E,J.cells,av]) (fun c=>?_) (fun c=>?_)
 ·replace h:=h.1 c;apply zK;apply I.block;refine I.gY aB aD cf (by decide) (by kernel_rfl) fun _ V=>?_
  obtain⟨q,h⟩:=h;obtain⟨g,t,h⟩:=aF h;have f20:=fun H=>bl (H:=H) (fr:=false) (f:=(av false)) (k:=.i64) ep (fun _=>rfl) q t
  obtain⟨u,h⟩:=h;obtain⟨i,A,h⟩:=aF h;have f23:=fun H=>bl (H:=H) (fr:=false) (f:=(av false)) (k:=.i64) ep (fun _=>rfl) u A
  obtain⟨B,h⟩:=h;obtain⟨e,C,h⟩:=aF h;simp[E,f20,f23,c,J.cells,av,-ar];refine bw.c8 aB aD (jN g i B) e9 (.cons (az.agg (.cons (az.bt (fr:=false) (els:=g.map J.cells) (by simp[J.cells])) .nil)) (.cons (az.agg (.cons (az.bt (fr:=false) (els:=i.map J.cells) (by simp[J.cells])) .nil)) .nil)) (by decide) rfl (by simp[E,f20,f23,c,J.cells,av,-ar]) ?_;rw[<- C];simp[E,f20,f23,c,J.cells,av,-ar];apply V;refine I.ite (b:=(!e)) (by simp[E,c,J.cells,av]) (fun d=>?_) (fun d=>?_)
  ·have d:e=false:=by simpa using d
   replace h:=h.2 d;refine zE fun _ V=>?_
   simp[E,c,d,J.cells,av];apply V;refine I.cut (fun O H n=>O 4=bool false) (by simp[E,c,d,J.cells,av]) ?_;clear E;rintro O H n26 E;exact I.b9 (v:=bool false) func8 results8 (by simp[E,J.cells,av]) (hQ _ _ _ _ (.of (.v _)) ⟨false,h,rfl⟩)
  have d:e=true:=by simpa using d
  replace h:=h.1 d;apply I.skip;refine zI fun _ V=>?_
  obtain⟨D,h⟩:=h;obtain⟨v28,F,h⟩:=aF h;have f29:=a8 D F;simp[E,f29,c,d,J.cells,av,-ax];apply V;refine I.cut (fun O H n=>(O 0 = .list false (a.map (av false))/\O 1 = .list false (b.map (av false))/\O 5=int v28)) (by simp[E,f29,c,d,J.cells,av,-ax]) ?_;clear E;rintro O H n30 E;refine j (v28) _ _ _ h (by simp[E,J.cells,av])
 replace h:=h.2 c;refine I.exit rfl ?_;refine zE fun _ V=>?_
 simp[E,c,J.cells,av];apply V;exact I.b9 (v:=bool true) func8 results8 (by simp[E,c,J.cells,av]) (hQ _ _ _ _ (.of (.v _)) ⟨true,h,rfl⟩)
theorem nz (a:List aw) (b:List aw) (hp:fQ a b):aA prog 8 [.list false (a.map (av false)),.list false (b.map (av false))] (fun r=>r=bool (po a b)):=(sR a b _ (vr a b hp)).mono (by rintro _ ⟨_,rfl,rfl⟩;rfl)
theorem e11:aV prog 11:=aV.of func11 (by kernel_rfl) rfl
theorem pd (a:List aw) (k_:Int) (Z:((List aw) × Int)->Prop) (h:iJ a k_ Z):gB prog 11 (fun v=>[v,int k_]) (.s [.s [.c,.c,.c]]) (.list true (a.map (av true))) (fun e' r=>∃ y:(List aw) × Int,Z y/\e' = .list true (y.1.map (av true))/\r=int y.2):=by
 unfold iJ at h;refine gB.of func11 rfl ntmps11 (fun _=>by simp) fun H0 n0 v0 K0 cq M Q hQ=>?_
 have h00:=M.1;have hid:∀ i ∈ cq,H0 i=H0 i:=fun _ _=>rfl
 have hnn:n0<=n0:=Nat.le_refl _;refine I.cut (fun O H n=>(O 0=v0/\O 1=int k_)/\n0<=n/\(∀ i ∈ cq,H i=H0 i)/\Sep H n (oE [.s [.c,.c,.c]] (av true) v0 a::K0) (cq)) (by refine⟨?_,(by omega),hid,M⟩<;>simp[J.cells,av]) ?_;rintro O H n2 ⟨E,hnn,hid,M⟩;have hq_n2:=hnn;refine zE fun _ V=>?_
 simp[E,J.cells,av];apply V;refine zS fun _ V=>?_
 simp[E,J.cells,av];apply V;apply I.block;refine I.aI h (fun (sJ:Int × Int × (List aw)) O H n=>match sJ with | (k10,i11,d)=>(O 0=v0/\O 1=int k10/\O 5=int i11)/\n0<=n/\(∀ i ∈ cq,H i=H0 i)/\Sep H n (oE [.s [.c,.c,.c]] (av true) v0 d::K0) (cq)) (by refine⟨?_,(by omega),hid,M⟩<;>simp[E,J.cells,av]) ?_;clear E;rintro⟨k10,i11,d⟩ O H a3 K h ⟨E,hnn,hid,M⟩ L;have hq_n13:=hnn;refine zS fun _ V=>?_
 obtain⟨N,R,h⟩:=aF h;have f17:=di (Sep.len (m:=N) M ep (by rw[R,List.length_map]));obtain⟨T,W,h⟩:=aF h;have f19:=bF (k:=.i64) W;simp[E,f17,f19,J.cells,av,-ax,-bL];apply V;refine I.ite (b:=T) (by simp[E,J.cells,av]) (fun e=>?_) (fun e=>?_)
 ·replace h:=h.1 e;apply zK;apply I.block;refine zF fun _ V=>?_
  obtain⟨B,h⟩:=h;obtain⟨C,X,h⟩:=aF h;obtain⟨g,a4,a5,Y,j,l,o,D,ac,a9,ad,bd,p,af⟩:=Sep.rowF (q:=i11.toNat) (f:=(av true)) M B X rfl;subst j;obtain⟨F,j⟩:=kT (by simpa using ac);subst j;replace p:Sep _ _ [(.s [.c,.c,.c],F,.list true (C.map J.cells))] Y:=p;have f37:=bJ (k:=.i64) (off:=0) (len:=d.length) ep l o rfl B;obtain⟨am,h⟩:=h;obtain⟨t,G,h⟩:=aF h;simp[E,l,o,D,f37,e,J.cells,av,-ar];refine bg.mQ (v:=F) aB (ks C k10 am) e21 (Sep.front (K1:=[]) (K2:=[]) p) (by decide) (by decide) rfl (by simp[E,l,o,D,f37,e,J.cells,av,-ar]) ?_;rintro _ u n41 _ ⟨rfl,rfl⟩ spx ap hfrW42;rw[<- G] at spx;rw[<- G];obtain⟨A,aP,h⟩:=aF h;replace M:=af u n41 t.1 (Sep.vN (K1:=[]) (K2:=[]) spx) rfl hfrW42 ap;have a0:=fun i hi=>hfrW42 i (ad i hi)
  replace M:Sep u n41 (oE [.s [.c,.c,.c]] (av true) (.arr g d.length 0 d.length) A::K0) (cq):=by rw[aP];exact M
  have hid:∀ i ∈ cq,u i=H0 i:=fun i hi=>(a0 i (by simp[hi])).trans (hid i hi)
  have hnn:n0<=n41:=by omega
  have hq_n41:=hnn;simp[E,f37,e,J.cells,av,-ar];apply V;refine I.cut (fun O H n=>(O 0 = .arr g d.length 0 d.length/\O 1=int t.2/\O 5=int i11)/\n0<=n/\(∀ i ∈ cq,H i=H0 i)/\Sep H n (oE [.s [.c,.c,.c]] (av true) (.arr g d.length 0 d.length) A::K0) (cq)) (by refine⟨?_,(by omega),hid,M⟩<;>simp[E,f37,e,J.cells,av,-ar]) ?_;clear E;rintro O H be ⟨E,hnn,hid,M⟩;have hq_n47:=hnn;refine zI fun _ V=>?_
  obtain⟨a1,h⟩:=h;obtain⟨v49,a2,h⟩:=aF h;have f50:=a8 a1 a2;simp[E,f50,J.cells,av,-ax];apply V;refine L (t.2,v49,A) _ _ _ h (by refine⟨?_,(by omega),hid,M⟩<;>simp[E,J.cells,av])
 replace h:=h.2 e;refine I.exit rfl ?_;refine zE fun _ V=>?_
 simp[E,e,J.cells,av];apply V;exact I.b9 (v:=int k10) func11 results11 (by simp[E,e,J.cells,av]) (hQ _ _ _ _ (Sep.sub M (by simp +contextual)) hid (by omega) ⟨(d,k10),h,rfl,rfl⟩)
theorem th (a:List aw) (k_:Int) (hp:fW a k_):gB prog 11 (fun v=>[v,int k_]) (.s [.s [.c,.c,.c]]) (.list true (a.map (av true))) (fun e' r=>e' = .list true (((c9 a k_).1).map (av true))/\r=int ((c9 a k_).2)):=(pd a k_ _ (sX a k_ hp)).mono (by rintro _ _ ⟨_,rfl,rfl,rfl⟩;exact⟨rfl,rfl⟩)
theorem e12:aV prog 12:=aV.of func12 (by kernel_rfl) rfl
theorem oA (a:List aw) (k_:Int) (Z:Int->Prop) (h:iG a k_ Z):aA prog 12 [.list false (a.map (av false)),int k_] (fun r=>∃ y:Int,Z y/\r=int y):=by
 unfold iG at h;refine aA.of func12 rfl ntmps12 (by simp) fun Q hQ=>?_
 refine I.cut (fun O H n=>(O 0 = .list false (a.map (av false))/\O 1=int k_)) (by simp[J.cells,av]) ?_;rintro O H U E;refine zE fun _ V=>?_
 simp[E,J.cells,av];apply V;refine zS fun _ V=>?_
 simp[E,J.cells,av];apply V;apply I.block;refine I.aI h (fun (sJ:Int × Int) O H n=>match sJ with | (k5,i6)=>(O 0 = .list false (a.map (av false))/\O 1=int k5/\O 5=int i6)) (by simp[E,J.cells,av]) ?_;clear E;rintro⟨k5,i6⟩ O H n7 K h E IH8;refine zS fun _ V=>?_
 obtain⟨kA,i,h⟩:=aF h;have f11:=fun H=>bU (H:=H) (fr:=false) (f:=(av false)) ep i
 obtain⟨j,l,h⟩:=aF h;have f13:=bF (k:=.i64) l;simp[E,f11,f13,J.cells,av,-ax,-bL];apply V;refine I.ite (b:=j) (by simp[E,J.cells,av]) (fun c=>?_) (fun c=>?_)
 ·replace h:=h.1 c;apply zK;apply I.block;refine zE fun _ V=>?_
  obtain⟨o,h⟩:=h;obtain⟨e,p,h⟩:=aF h;have f16:=fun H=>bl (H:=H) (fr:=false) (f:=(av false)) (k:=.i64) ep (fun _=>rfl) o p
  obtain⟨q,h⟩:=h;obtain⟨g,t,h⟩:=aF h;simp[E,f16,c,J.cells,av,-ar];refine zA (o3 e k5 q) e22 (.cons (az.bt (fr:=false) (els:=e.map J.cells) (by simp[J.cells])) (.cons (.v _ _ _) .nil)) (by simp[E,f16,c,J.cells,av,-ar]) ?_;rintro _ rfl;rw[<- t];simp[E,f16,c,J.cells,av,-ar];apply V;refine zE fun _ V=>?_
  obtain⟨u,A,h⟩:=aF h;have f20:=bF (k:=.i64) A;simp[E,f20,c,J.cells,av,-ax];apply V;refine I.ite (b:=u) (by simp[E,c,J.cells,av]) (fun d=>?_) (fun d=>?_)
  ·replace h:=h.1 d;refine zE fun _ V=>?_
   simp[E,c,d,J.cells,av];apply V;refine I.cut (fun O H n=>O 4=int (-1)) (by simp[E,c,d,J.cells,av]) ?_;clear E;rintro O H n21 E;exact I.b9 (v:=int (-1)) func12 results12 (by simp[E,J.cells,av]) (hQ _ _ _ _ (.of (.v _)) ⟨(-1),h,rfl⟩)
  replace h:=h.2 d;apply I.skip;refine zI fun _ V=>?_
  obtain⟨B,h⟩:=h;obtain⟨v23,C,h⟩:=aF h;have f24:=a8 B C;simp[E,f24,c,d,J.cells,av,-ax];apply V;refine I.cut (fun O H n=>(O 0 = .list false (a.map (av false))/\O 1=int g/\O 5=int v23)) (by simp[E,f24,c,d,J.cells,av,-ax]) ?_;clear E;rintro O H n25 E;refine IH8 (g,v23) _ _ _ h (by simp[E,J.cells,av])
 replace h:=h.2 c;refine I.exit rfl ?_;refine zE fun _ V=>?_
 simp[E,c,J.cells,av];apply V;exact I.b9 (v:=int k5) func12 results12 (by simp[E,c,J.cells,av]) (hQ _ _ _ _ (.of (.v _)) ⟨k5,h,rfl⟩)
theorem mT (a:List aw) (k_:Int) (hp:eH a k_):aA prog 12 [.list false (a.map (av false)),int k_] (fun r=>r=int (fm a k_)):=(oA a k_ _ (tl a k_ hp)).mono (by rintro _ ⟨_,rfl,rfl⟩;rfl)
theorem e3:aV prog 3:=aV.of func3 (by kernel_rfl) rfl
set_option maxHeartbeats 4000000 in
theorem o5 (aP:aw) (Z:Bool->Prop) (h:iL aP Z):aA prog 3 [.agg [.list false (aP.map J.cells)]] (fun r=>∃ y:Bool,Z y/\r=bool y):=by
 unfold iL at h;have M:Sep bc 0 [] []:=Sep.nil (by simp);refine aA.of func3 rfl ntmps3 (by simp) fun Q hQ=>?_
 refine I.cut (fun O H n=>O 0 = .agg [.list false (aP.map J.cells)]/\Sep H n [] []) (by refine⟨by simp[J.cells],M⟩) ?_;rintro O H U ⟨E,M⟩;refine zE fun k' V=>?_
 simp[E,J.cells];apply V;refine I.cut (fun O H n=>(O 1=pA U 1/\H (U,1)=some ⟨1,[[.list false (aP.map J.cells)]]⟩)/\Sep H n [] [(U,1)]) (by refine⟨by simp[E,J.cells],M.var⟩) ?_;clear E;rintro O H n3 ⟨⟨E,a⟩,M⟩;refine zE fun k' V=>?_
 simp[E,a,J.cells];apply V;refine zE fun k' V=>?_
 obtain⟨hb4,h⟩:=h;obtain⟨r5,er5,h⟩:=aF h;simp[E,a,J.cells];refine zA (szT_ok aP 1048576 hb4.1.1 hb4.1.2 hb4.2) e4 (.cons (az.agg (.cons (az.bt (fr:=false) (els:=aP.map J.cells) (by simp[J.cells])) .nil)) (.cons (.v _ _ _) .nil)) (by simp[E,a,J.cells]) ?_;rintro _ rfl;rw[<- er5];simp[E,a,J.cells];apply V;refine zS fun k' V=>?_
 obtain⟨c6,ec6,h⟩:=aF h;have f7:=bF (k:=.i64) ec6;simp[E,a,f7,J.cells,-ax];apply V;refine I.ite (b:=c6) (by simp[E,a,J.cells]) (fun dc6=>?_) (fun dc6=>?_)
 ·replace h:=h.1 dc6;refine zE fun k' V=>?_
  simp[E,a,dc6,J.cells];apply V;exact I.b9 (v:=bool true) func3 results3 (by simp[E,a,dc6,J.cells]) (hQ _ _ _ _ (.of (.v _)) ⟨true,h,rfl⟩)
 replace h:=h.2 dc6;apply I.skip;refine zE fun k' V=>?_
 obtain⟨hb8,h⟩:=h;obtain⟨r9,er9,h⟩:=aF h;simp[E,a,dc6,J.cells];refine zW (dE aP hb8) e6 (.cons (az.agg (.cons (az.bt (fr:=false) (els:=aP.map J.cells) (by simp[J.cells])) .nil)) .nil) M (by simp[E,a,dc6,J.cells]) ?_;rintro v10 g1 g2 _ M rfl g3 be;rw[<- er9] at M;have a:=(be _ (by simp)).trans a;replace M:=Sep.unpack M;obtain⟨L17,hv,bi,M⟩:=M;subst hv;obtain⟨g4,hv⟩:=kT (by simpa using bi);subst hv;simp only[dM,List.cons_append,List.nil_append] at M;replace M:=Sep.sM M;try simp only[List.append_eq,List.cons_append,List.nil_append,List.append_assoc] at M
 obtain⟨bk,h⟩:=h;obtain⟨e,bs,h⟩:=aF h;simp[E,a,dc6,J.cells];refine zA (kU r9 bk) e5 (.cons (az.agg (.cons (Sep.cH M (bZ (by simp[J.cells]))) .nil)) .nil) (by simp[E,a,dc6,J.cells]) ?_;rintro _ rfl;rw[<- bs];simp[E,a,dc6,J.cells];apply V;refine I.cut (fun O H n=>((O 1=pA U 1/\O 4 = .list true (e.1.map (av true))/\O 5=bool e.2)/\H (U,1)=some ⟨1,[[.list false (aP.map J.cells)]]⟩)/\Sep H n [] [(U,1)]) (by refine⟨by simp[E,a,dc6,J.cells],M.dr⟩) ?_;clear E a;rintro O H n22 ⟨⟨E,a⟩,M⟩;refine zE fun k' V=>?_
 obtain⟨bv,h⟩:=h;obtain⟨G,b0,h⟩:=aF h;simp[E,a,J.cells];refine zW (dE aP bv) e6 (.cons (az.agg (.cons (az.bt (fr:=false) (els:=aP.map J.cells) (by simp[J.cells])) .nil)) .nil) M (by simp[E,a,J.cells]) ?_;rintro v25 g5 n27 _ M rfl g6 b1;rw[<- b0] at M;have a:=(b1 _ (by simp)).trans a;replace M:=Sep.unpack M;obtain⟨L32,hv,b2,M⟩:=M;subst hv;obtain⟨v31,hv⟩:=kT (by simpa using b2);subst hv;simp only[dM,List.cons_append,List.nil_append] at M;replace M:=Sep.sM M;try simp only[List.append_eq,List.cons_append,List.nil_append,List.append_assoc] at M
 have f36:=Sep.oc M;simp[E,a,f36,J.cells,-aJ,-aL,fx,cX];apply V;refine I.cut (fun O H n=>∃ (v37:ao),((O 1=pA U 1/\O 4 = .list true (e.1.map (av true))/\O 5=bool e.2/\O 6=pA n27 6)/\H (U,1)=some ⟨1,[[.list false (aP.map J.cells)]]⟩/\H (n27,6)=some ⟨1,[[v37]]⟩)/\Sep H n [oE [.c,.c,.c] J.cells v37 G] [(n27,6),(U,1)]) (by refine⟨v31,by simp[E,a,f36,J.cells,-aJ,-aL,fx,cX],M.var⟩) ?_;clear E a;rintro O H n38 ⟨v37,⟨E,a,d⟩,M⟩;refine zE fun k' V=>?_
 obtain⟨b3,h⟩:=h;obtain⟨o,b8,h⟩:=aF h;simp[E,a,d,J.cells];refine zW (iT G b3) e7 (.cons (az.agg (.cons (Sep.cH M (bZ (by simp[J.cells]))) .nil)) .nil) M (by simp[E,a,d,J.cells]) ?_;rintro g7 g8 n43 _ M rfl g9 a0;rw[<- b8] at M;have a:=(a0 _ (by simp)).trans a;have d:=(a0 _ (by simp)).trans d;replace M:=Sep.kR M;obtain⟨L49,hv,cc,M⟩:=M;subst hv;obtain⟨ce,ha,hv⟩:=gV (by simpa using cc);subst hv;simp only[dM,List.cons_append,List.nil_append] at M;replace M:=Sep.sM M;replace M:=Sep.scalar M;obtain⟨hv,M⟩:=M;subst hv;simp[E,a,d,J.cells];apply V;refine I.cut (fun O H n=>∃ (N v53:ao),((O 1=pA U 1/\O 4 = .list true (e.1.map (av true))/\O 5=bool e.2/\O 6=pA n27 6/\O 7=v53/\O 8=bool o.2)/\H (U,1)=some ⟨1,[[.list false (aP.map J.cells)]]⟩/\H (n27,6)=some ⟨1,[[N]]⟩)/\Sep H n [oE [.c,.c,.c] J.cells N G,oE [.s [.c,.c,.c]] (av true) v53 o.1] [(n27,6),(U,1)]) (by refine⟨v37,ce,by simp[E,a,d,J.cells],M⟩) ?_;clear E a d;rintro O H hb ⟨N,v53,⟨E,a,d⟩,M⟩;refine zS fun k' V=>?_
 obtain⟨ci,cj,cl⟩:=h;have a1:∀ (sJ:Bool) (O:Env) (H:au) (n:Nat),ci sJ->(match sJ with | X=>∃ (v59 R:ao),((O 1=pA U 1/\O 4 = .list true (e.1.map (av true))/\O 5=bool e.2/\O 6=pA n27 6/\O 7=R/\O 8=bool o.2/\O 40=bool X)/\H (U,1)=some ⟨1,[[.list false (aP.map J.cells)]]⟩/\H (n27,6)=some ⟨1,[[v59]]⟩)/\Sep H n [oE [.c,.c,.c] J.cells v59 G,oE [.s [.c,.c,.c]] (av true) R o.1] [(n27,6),(U,1)])->I prog 3 96 k' O H n Q:=by
  rintro X O H n62 h ⟨v59,R,⟨E,a,d⟩,M⟩;replace h:=cl _ h;apply V;refine I.ite (b:=X) (by simp[E,a,d,J.cells]) (fun i=>?_) (fun i=>?_)
  ·replace h:=h.1 i;refine zE fun k' V=>?_
   simp[E,a,d,i,J.cells];apply V;exact I.b9 (v:=bool false) func3 results3 (by simp[E,a,d,i,J.cells]) (hQ _ _ _ _ (.of (.v _)) ⟨false,h,rfl⟩)
  replace h:=h.2 i;apply zK;refine I.gY aB aD cf (by decide) (by kernel_rfl) fun k' V=>?_
  obtain⟨co,h⟩:=h;obtain⟨a2,cs,h⟩:=aF h;simp[E,a,d,i,J.cells];refine bw.c8 aB aD ((dE aP co).pure) e6 (.cons (az.agg (.cons (az.bt (fr:=false) (els:=aP.map J.cells) (by simp[J.cells])) .nil)) .nil) (by decide) rfl (by simp[E,a,d,i,J.cells]) ?_;rw[<- cs];obtain⟨c0,h⟩:=h;obtain⟨Y,c1,h⟩:=aF h;simp[E,a,d,i,J.cells];refine bw.c8 aB aD (jN G a2 c0) e9 (.cons (az.agg (.cons (Sep.cH M (bZ (by simp[J.cells]))) .nil)) (.cons (az.agg (.cons (az.bt (fr:=true) (els:=a2.map J.cells) (by simp[J.cells])) .nil)) .nil)) (by decide) rfl (by simp[E,a,d,i,J.cells]) ?_;rw[<- c1];simp[E,a,d,i,J.cells];apply V;refine I.ite (b:=(!Y)) (by simp[E,a,d,i,J.cells]) (fun l=>?_) (fun l=>?_)
  ·have l:Y=false:=by simpa using l
   replace h:=h.2 l;refine zE fun k' V=>?_
   simp[E,a,d,i,l,J.cells];apply V;exact I.b9 (v:=bool false) func3 results3 (by simp[E,a,d,i,l,J.cells]) (hQ _ _ _ _ (.of (.v _)) ⟨false,h,rfl⟩)
  have l:Y=true:=by simpa using l
  replace h:=h.1 l;apply I.skip;refine zE fun k' V=>?_
  simp[E,a,d,i,l,J.cells];apply V;refine zE fun k' V=>?_
  obtain⟨c2,h⟩:=h;obtain⟨a3,a4,h⟩:=aF h;have f69:=Sep.oc M;simp[E,a,d,f69,i,l,J.cells,-aJ,-aL,fx,cX];refine bg.mQ (v:=.agg [v59]) aB (lO G 1 c2) e10 (Sep.pack (aX.own aX.nil) M) (by decide) (by decide) rfl (by simp[E,a,d,f69,i,l,J.cells,-aJ,-aL,fx,cX]) ?_;rintro _ c3 da _ ⟨rfl,rfl⟩ M hc a5;rw[<- a4] at M;rw[<- a4];replace M:=Sep.unpack M;obtain⟨L74,hv,hd,M⟩:=M;cases hv;simp only[dM,List.cons_append,List.nil_append] at M;replace M:=Sep.sM M;try simp only[List.append_eq,List.cons_append,List.nil_append,List.append_assoc] at M
  replace M:Sep c3 da [oE [.s [.c,.c,.c]] (av true) R o.1,oE [.c,.c,.c] J.cells v59 a3.1] [(n27,6),(U,1)]:=M;have a:=(a5 _ (by simp)).trans a;have d:=(a5 _ (by simp)).trans d;simp[E,a,d,f69,i,l,J.cells,-aJ,-aL,fx,cX];apply V;refine I.cut (fun O H n=>∃ (K:ao),((O 1=pA U 1/\O 4 = .list true (e.1.map (av true))/\O 5=bool e.2/\O 7=K/\O 8=bool o.2/\O 9=int a3.2)/\H (U,1)=some ⟨1,[[.list false (aP.map J.cells)]]⟩)/\Sep H n [oE [.s [.c,.c,.c]] (av true) K o.1] [(U,1)]) (by refine⟨R,by simp[E,a,d,f69,i,l,J.cells,-aJ,-aL,fx,cX],(Sep.sub M.f1.dr (by simp +contextual))⟩) ?_;clear E a d;rintro O H he ⟨K,⟨E,a⟩,M⟩;refine zS fun k' V=>?_
  obtain⟨dc,dl,ds⟩:=h;have ac:∀ (sJ:Bool) (O:Env) (H:au) (n:Nat),dc sJ->(match sJ with | ad=>∃ (L:ao),((O 1=pA U 1/\O 4 = .list true (e.1.map (av true))/\O 5=bool e.2/\O 7=L/\O 61=bool ad)/\H (U,1)=some ⟨1,[[.list false (aP.map J.cells)]]⟩)/\Sep H n [oE [.s [.c,.c,.c]] (av true) L o.1] [(U,1)])->I prog 3 96 k' O H n Q:=by
   rintro ad O H hf h ⟨L,⟨E,a⟩,M⟩;replace h:=ds _ h;apply V;refine I.ite (b:=ad) (by simp[E,a,J.cells]) (fun A=>?_) (fun A=>?_)
   ·replace h:=h.1 A;refine zE fun k' V=>?_
    simp[E,a,A,J.cells];apply V;exact I.b9 (v:=bool false) func3 results3 (by simp[E,a,A,J.cells]) (hQ _ _ _ _ (.of (.v _)) ⟨false,h,rfl⟩)
   replace h:=h.2 A;apply I.skip;refine zE fun k' V=>?_
   simp[E,a,A,J.cells];apply V;refine zE fun k' V=>?_
   obtain⟨d0,h⟩:=h;obtain⟨p,a9,h⟩:=aF h;have f88:=Sep.oc M;simp[E,a,f88,A,J.cells,-aJ,-aL,fx,cX];refine bg.mQ (v:=L) aB (th o.1 1 d0) e11 M (by decide) (by decide) rfl (by simp[E,a,f88,A,J.cells,-aJ,-aL,fx,cX]) ?_;rintro _ d1 d2 _ ⟨rfl,rfl⟩ M hg d3;rw[<- a9] at M;rw[<- a9];replace M:Sep d1 d2 [oE [.s [.c,.c,.c]] (av true) L p.1] [(U,1)]:=M;have a:=(d3 _ (by simp)).trans a;simp[E,a,f88,A,J.cells,-aJ,-aL,fx,cX];apply V;refine I.cut (fun O H n=>∃ (T:ao),((O 1=pA U 1/\O 4 = .list true (e.1.map (av true))/\O 5=bool e.2/\O 7=T/\O 10=int p.2)/\H (U,1)=some ⟨1,[[.list false (aP.map J.cells)]]⟩)/\Sep H n [oE [.s [.c,.c,.c]] (av true) T p.1] [(U,1)]) (by refine⟨L,by simp[E,a,f88,A,J.cells,-aJ,-aL,fx,cX],M⟩) ?_;clear E a;rintro O H hi ⟨T,⟨E,a⟩,M⟩;refine zE fun k' V=>?_
   simp[E,a,J.cells];apply V;refine zE fun k' V=>?_
   obtain⟨d4,h⟩:=h;obtain⟨hj,d5,h⟩:=aF h;simp[E,a,J.cells];refine zA (mT p.1 1 d4) e12 (.cons (Sep.cH M (b4 true p.1)) (.cons (.v _ _ _) .nil)) (by simp[E,a,J.cells]) ?_;rintro _ rfl;rw[<- d5];simp[E,a,J.cells];apply V;refine zS fun k' V=>?_
   obtain⟨d6,d7,h⟩:=aF h;have f99:=bF (k:=.i64) d7;simp[E,a,f99,J.cells,-ax];apply V;refine I.ite (b:=d6) (by simp[E,a,J.cells]) (fun j=>?_) (fun j=>?_)
   ·replace h:=h.1 j;refine zE fun k' V=>?_
    simp[E,a,j,J.cells];apply V;exact I.b9 (v:=bool false) func3 results3 (by simp[E,a,j,J.cells]) (hQ _ _ _ _ (.of (.v _)) ⟨false,h,rfl⟩)
   replace h:=h.2 j;apply I.skip;refine zS fun k' V=>?_
   obtain⟨d8,d9,h⟩:=aF h;have f101:=eg (k:=.i64) d9;simp[E,a,f101,j,J.cells,-ax];apply V;refine I.ite (b:=d8) (by simp[E,a,j,J.cells]) (fun q=>?_) (fun q=>?_)
   ·replace h:=h.1 q;refine zE fun k' V=>?_
    simp[E,a,j,q,J.cells];apply V;exact I.b9 (v:=bool false) func3 results3 (by simp[E,a,j,q,J.cells]) (hQ _ _ _ _ (.of (.v _)) ⟨false,h,rfl⟩)
   replace h:=h.2 q;apply I.skip;refine zE fun k' V=>?_
   obtain⟨el,h⟩:=h;obtain⟨em,er,h⟩:=aF h;simp[E,a,j,q,J.cells];refine zW (dE aP el) e6 (.cons (az.agg (.cons (az.bt (fr:=false) (els:=aP.map J.cells) (by simp[J.cells])) .nil)) .nil) M (by simp[E,a,j,q,J.cells]) ?_;rintro hk hl n106 _ M rfl hm es;rw[<- er] at M;have a:=(es _ (by simp)).trans a;replace M:=Sep.unpack M;obtain⟨L111,hv,ev,M⟩:=M;subst hv;obtain⟨hn,hv⟩:=kT (by simpa using ev);subst hv;simp only[dM,List.cons_append,List.nil_append] at M;replace M:=Sep.sM M;try simp only[List.append_eq,List.cons_append,List.nil_append,List.append_assoc] at M
   obtain⟨ex,h⟩:=h;obtain⟨W,ey,h⟩:=aF h;simp[E,a,j,q,J.cells];refine zW (iT em ex) e7 (.cons (az.agg (.cons (Sep.cH M.f1 (bZ (by simp[J.cells]))) .nil)) .nil) M (by simp[E,a,j,q,J.cells]) ?_;rintro ho hp n118 _ M rfl hq e0;rw[<- ey] at M;have a:=(e0 _ (by simp)).trans a;replace M:=Sep.kR M;obtain⟨L124,hv,e1,M⟩:=M;subst hv;obtain⟨e2,hr,hv⟩:=gV (by simpa using e1);subst hv;simp only[dM,List.cons_append,List.nil_append] at M;replace M:=Sep.sM M;replace M:=Sep.scalar M;obtain⟨hv,M⟩:=M;subst hv;simp[E,a,j,q,J.cells];apply V;refine I.cut (fun O H n=>∃ (v127 af:ao),(O 4 = .list true (e.1.map (av true))/\O 5=bool e.2/\O 7=v127/\O 10=int p.2/\O 12=af/\O 13=bool W.2)/\Sep H n [oE [.s [.c,.c,.c]] (av true) v127 p.1,oE [.s [.c,.c,.c]] (av true) af W.1] []) (by refine⟨T,e2,by simp[E,a,j,q,J.cells],(Sep.sub M.f1.dr (by simp +contextual))⟩) ?_;clear E a;rintro O H n129 ⟨v127,af,E,M⟩;refine zS fun k' V=>?_
   obtain⟨e3,fd,fl⟩:=h;have bd:∀ (sJ:Bool) (O:Env) (H:au) (n:Nat),e3 sJ->(match sJ with | am=>∃ (ap:ao),(O 7=ap/\O 10=int p.2/\O 87=bool am)/\Sep H n [oE [.s [.c,.c,.c]] (av true) ap p.1] [])->I prog 3 96 k' O H n Q:=by
    rintro am O H n136 h ⟨ap,E,M⟩;replace h:=fl _ h;apply V;refine I.ite (b:=am) (by simp[E,J.cells]) (fun g=>?_) (fun g=>?_)
    ·replace h:=h.1 g;refine zE fun k' V=>?_
     simp[E,g,J.cells];apply V;exact I.b9 (v:=bool false) func3 results3 (by simp[E,g,J.cells]) (hQ _ _ _ _ (.of (.v _)) ⟨false,h,rfl⟩)
    replace h:=h.2 g;apply I.skip;refine zE fun k' V=>?_
    simp[E,g,J.cells];apply V;refine zE fun k' V=>?_
    obtain⟨fn,h⟩:=h;obtain⟨hs,fo,h⟩:=aF h;simp[E,g,J.cells];refine zA (mT p.1 1 fn) e12 (.cons (Sep.cH M (b4 true p.1)) (.cons (.v _ _ _) .nil)) (by simp[E,g,J.cells]) ?_;rintro _ rfl;rw[<- fo];simp[E,g,J.cells];apply V;refine zS fun k' V=>?_
    obtain⟨fs,fz,h⟩:=aF h;have f140:=bF (k:=.i64) fz;simp[E,f140,g,J.cells,-ax];apply V;refine I.ite (b:=fs) (by simp[E,g,J.cells]) (fun t=>?_) (fun t=>?_)
    ·replace h:=h.1 t;refine zE fun k' V=>?_
     simp[E,g,t,J.cells];apply V;exact I.b9 (v:=bool false) func3 results3 (by simp[E,g,t,J.cells]) (hQ _ _ _ _ (.of (.v _)) ⟨false,h,rfl⟩)
    replace h:=h.2 t;apply I.skip;refine zS fun k' V=>?_
    obtain⟨f0,f2,h⟩:=aF h;have f142:=eg (k:=.i64) f2;simp[E,f142,g,t,J.cells,-ax];apply V;refine I.ite (b:=f0) (by simp[E,g,t,J.cells]) (fun B=>?_) (fun B=>?_)
    ·replace h:=h.1 B;refine zE fun k' V=>?_
     simp[E,g,t,B,J.cells];apply V;exact I.b9 (v:=bool false) func3 results3 (by simp[E,g,t,B,J.cells]) (hQ _ _ _ _ (.of (.v _)) ⟨false,h,rfl⟩)
    replace h:=h.2 B;apply I.skip;refine zE fun k' V=>?_
    simp[E,g,t,B,J.cells];apply V;exact I.b9 (v:=bool true) func3 results3 (by simp[E,g,t,B,J.cells]) (hQ _ _ _ _ (.of (.v _)) ⟨true,h,rfl⟩)
   replace h:=fd;obtain⟨f3,h⟩:=h;obtain⟨f4,f5,h⟩:=aF h;simp[E,J.cells,av];refine zA (nz W.1 e.1 f3) e8 (.cons (Sep.cH M.f1 (b4 true W.1)) (.cons (az.fY true e.1) .nil)) (by simp[E,J.cells,av]) ?_;rintro _ rfl;rw[<- f5];rcases Bool.eq_false_or_eq_true f4 with C | C
   ·replace h:=h.1 C;obtain⟨f6,f8,h⟩:=aF h;have f146:=qS f8;simp[E,f146,C,J.cells,av,-dU];exact bd (f6) _ _ _ h (by refine⟨v127,by simp[E,f146,C,J.cells,av,-dU],M.f1.dr⟩)
   replace h:=h.2 C;simp[E,C,J.cells,av];exact bd (true) _ _ _ h (by refine⟨v127,by simp[E,C,J.cells,av],M.f1.dr⟩)
  replace h:=dl;obtain⟨f9,gc,h⟩:=aF h;have f148:=bF (k:=.i64) gc;rcases Bool.eq_false_or_eq_true f9 with u | u
  ·replace h:=h.1 u;simp[E,a,f148,u,J.cells,av,-ax];exact ac (true) _ _ _ h (by refine⟨K,by simp[E,a,f148,u,J.cells,av,-ax],M⟩)
  replace h:=h.2 u;obtain⟨gd,h⟩:=h;obtain⟨gg,gi,h⟩:=aF h;simp[E,a,f148,u,J.cells,av,-ax];refine zA (nz o.1 e.1 gd) e8 (.cons (Sep.cH M (b4 true o.1)) (.cons (az.fY true e.1) .nil)) (by simp[E,a,f148,u,J.cells,av,-ax]) ?_;rintro _ rfl;rw[<- gi];rcases Bool.eq_false_or_eq_true gg with D | D
  ·replace h:=h.1 D;obtain⟨gj,go,h⟩:=aF h;have f152:=qS go;simp[E,a,f148,f152,u,D,J.cells,av,-dU,-ax];exact ac (gj) _ _ _ h (by refine⟨K,by simp[E,a,f148,f152,u,D,J.cells,av,-dU,-ax],M⟩)
  replace h:=h.2 D;simp[E,a,f148,u,D,J.cells,av,-ax];exact ac (true) _ _ _ h (by refine⟨K,by simp[E,a,f148,u,D,J.cells,av,-ax],M⟩)
 replace h:=cj;obtain⟨gs,h⟩:=h;obtain⟨gu,gv,h⟩:=aF h;simp[E,a,d,J.cells,av];refine zA (nz o.1 e.1 gs) e8 (.cons (Sep.cH M.f1 (b4 true o.1)) (.cons (az.fY true e.1) .nil)) (by simp[E,a,d,J.cells,av]) ?_;rintro _ rfl;rw[<- gv];rcases Bool.eq_false_or_eq_true gu with F | F
 ·replace h:=h.1 F;obtain⟨gw,g0,h⟩:=aF h;have f156:=qS g0;simp[E,a,d,f156,F,J.cells,av,-dU];exact a1 (gw) _ _ _ h (by refine⟨N,v53,by simp[E,a,d,f156,F,J.cells,av,-dU],M⟩)
 replace h:=h.2 F;simp[E,a,d,F,J.cells,av];exact a1 (true) _ _ _ h (by refine⟨N,v53,by simp[E,a,d,F,J.cells,av],M⟩)
theorem tm (aP:aw) (hp:lk aP):aA prog 3 [.agg [.list false (aP.map J.cells)]] (fun r=>r=bool (tP aP)):=(o5 aP _ (su aP hp)).mono (by rintro _ ⟨_,rfl,rfl⟩;rfl)
end Go.Ab.Vg
namespace Go.Ab
open Go.Proofs
theorem jl (a0:aw) (h0:Small a0):aA prog 3 [bq false a0] (fun r=>r=bool true):=Vg.tm a0 h0
end Go.Ab
