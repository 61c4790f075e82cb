/- Merged texts (15 of 16) of the proof that ends in Kyy: Kww Kyz. -/
import Derived.Test.YtkgmflihalaheaaGreatDoorAbQky14
open Go.Proofs.Tryz
set_option linter.unusedSimpArgs false
set_option linter.unusedVariables false
namespace Go.Ab.Vg
open Go.Proofs
set_option maxRecDepth 100000
attribute [local simp] Control.cells ay.cells aN.cells au jm a7 bC pA
theorem Cy (n:Int) (h:bu n):aC prog 111 [int n] (fun r=>r=str (dn n)):=by
  intro c xs hH hn g r;obtain⟨x,rfl,hx⟩:=r.aF;rw[hx.cn];have ht:Lib.TabIs prog c.w fa .u64 Lib.pow10Tab:=cD.AL (g:=(Tryz.prog.globalNamed fa).get (by kernel_rfl)) (by kernel_rfl) g.tab;refine (Tryz.strconv_Itoa n (by have:=h.1;omega) (by have:=h.2;omega) c.w ht).mono ?_;rintro e w' ⟨he,k,os,rfl⟩;obtain⟨hk,hg⟩:=du g (Sort.grow (c.w.drewN k) os) ⟨rfl,rfl,rfl⟩ (by show c.w.heap.size<=(c.w.heap++os).size;simp) (fun j hj=>by show (c.w.heap++os)[j]?=_;rw[Array.getElem?_append_left hj]);exact⟨_,str (dn n),{ c with w:=Sort.grow (c.w.drewN k) os },he,rfl,⟨_,.of (ic.fresh (.v _)),rfl⟩,.v _,hg,hk⟩
theorem e111:aZ prog 111:=aZ.of func111 (by kernel_rfl) rfl
theorem e81:aZ prog 81:=aZ.of func81 (by kernel_rfl) rfl
theorem zP (n_:Int) (Z:bc->Prop) (h:ov n_ Z):aC prog 81 [int n_] (fun r=>∃ y:bc,Z y/\r=str y):=by
 unfold ov at h;refine aC.of func81 rfl ntmps81 (by simp) fun Q hQ=>?_
 refine J.cut (fun O H n=>O 0=int n_) (by simp[]) ?_;rintro O H U E;refine zE fun _ V=>?_
 simp[E];apply V;refine zE fun _ V=>?_
 obtain⟨hb2,h⟩:=h;obtain⟨r3,er3,h⟩:=aH h;simp[E];refine zA (Cy n_ hb2) e111 (.cons (.v _ _ _) .nil) (by simp[E]) ?_;rintro _ rfl;rw[<- er3];simp[E];apply V;exact J.bX (v:=str r3) func81 results81 (by simp[E]) (hQ _ _ _ _ (.of (.v _)) ⟨r3,h,rfl⟩)
theorem lH (n_:Int) (hp:dC n_):aC prog 81 [int n_] (fun r=>r=str (sI n_)):=(zP n_ _ (Eg n_ hp)).mono (by rintro _ ⟨_,rfl,rfl⟩;rfl)
theorem e82:aZ prog 82:=aZ.of func82 (by kernel_rfl) rfl
theorem wq (word:bc) (l:List Int) (Z:bc->Prop) (h:mc word l Z):aC prog 82 [str word,.list false (l.map au)] (fun r=>∃ y:bc,Z y/\r=str y):=by
 unfold mc at h;refine aC.of func82 rfl ntmps82 (by simp) fun Q hQ=>?_
 refine J.cut (fun O H n=>(O 0=str word/\O 1 = .list false (l.map au))) (by simp) ?_;rintro O H U E;refine zE fun _ V=>?_
 simp[E];apply V;refine zS fun _ V=>?_
 obtain⟨bI,elen2,h⟩:=aH h;have f3:=fun H=>aQ (H:=H) (fr:=false) (f:=au) aO elen2
 simp[E,f3,-aJ];apply V;apply J.block;refine J.aL h (fun (sJ:bc × Int) O H n=>match sJ with | (word7,v8)=>(O 0=str word7/\O 7 = .list false (l.map au)/\O 8=int bI/\O 9=int v8)) (by simp[E]) ?_;clear E;rintro⟨word7,v8⟩ O H n9 K h E c;refine zE fun _ V=>?_
 obtain⟨d,e,h⟩:=aH h;have f13:=bg (k:=.i64) e;simp[E,f13,-aw];apply V;apply J.seq;refine J.ite (b:=d) (by simp[E]) (fun a=>?_) (fun a=>?_)
 ·replace h:=h.1 a;apply zK;apply J.block;refine zE fun _ V=>?_
  obtain⟨g,h⟩:=h;obtain⟨i,j,h⟩:=aH h;have f16:=fun H=>aR (H:=H) (fr:=false) (f:=au) (k:=.i64) aO (fun _=>rfl) g j
  simp[E,f16,a,-ar];apply V;refine zF fun _ V=>?_
  obtain⟨o,h⟩:=h;obtain⟨D,p,h⟩:=aH h;simp[E,a];refine zA (lH i o) e81 (.cons (.v _ _ _) .nil) (by simp[E,a]) ?_;rintro _ rfl;rw[<- p];obtain⟨q,h⟩:=h;obtain⟨v20,t,h⟩:=aH h;have f21:=ca q t;obtain⟨u,h⟩:=h;obtain⟨v23,A,h⟩:=aH h;have f24:=ca u A;simp[E,f21,f24,a,-bJ];apply V;refine zI fun _ V=>?_
  obtain⟨B,h⟩:=h;obtain⟨v26,C,h⟩:=aH h;have f27:=aV B C;simp[E,f27,a,-aw];apply V;refine c (v23,v26) _ _ _ h (by simp[E,a])
 replace h:=h.2 a;refine J.exit rfl ?_;refine zE fun _ V=>?_
 simp[E,a];apply V;exact J.bX (v:=str word7) func82 results82 (by simp[E,a]) (hQ _ _ _ _ (.of (.v _)) ⟨word7,h,rfl⟩)
theorem uf (word:bc) (l:List Int) (hp:kr word l):aC prog 82 [str word,.list false (l.map au)] (fun r=>r=str (jh word l)):=(wq word l _ (CI word l hp)).mono (by rintro _ ⟨_,rfl,rfl⟩;rfl)
theorem e80:aZ prog 80:=aZ.of func80 (by kernel_rfl) rfl
theorem Ax (s:bc) (Z:Int->Prop) (h:oM s Z):aC prog 80 [str s] (fun r=>∃ y:Int,Z y/\r=int y):=by
 unfold oM at h;refine aC.of func80 rfl ntmps80 (by simp) fun Q hQ=>?_
 refine J.cut (fun O H n=>O 0=str s) (by simp[]) ?_;rintro O H U E;refine zE fun _ V=>?_
 simp[E];apply V;refine zE fun _ V=>?_
 simp[E];apply V;refine zS fun _ V=>?_
 obtain⟨bI,elen2,h⟩:=aH h;have f3:=fun H=>sE (H:=H) ue elen2
 simp[E,f3,-aJ];apply V;apply J.block;refine J.aL h (fun (sJ:Int × Int) O H n=>match sJ with | (h7,v8)=>(O 0=str s/\O 3=int h7/\O 6=int bI/\O 7=int v8)) (by simp[E]) ?_;clear E;rintro⟨h7,v8⟩ O H n9 K h E e;refine zE fun _ V=>?_
 obtain⟨g,i,h⟩:=aH h;have f13:=bg (k:=.i64) i;simp[E,f13,-aw];apply V;apply J.seq;refine J.ite (b:=g) (by simp[E]) (fun a=>?_) (fun a=>?_)
 ·replace h:=h.1 a;apply zK;apply J.block;refine zE fun _ V=>?_
  simp[E,a];apply V;refine zF fun _ V=>?_
  obtain⟨j,h⟩:=h;obtain⟨L,l,h⟩:=aH h;have f16:=BA j l;obtain⟨o,h⟩:=h;obtain⟨N,p,h⟩:=aH h;have f19:=BG (k:=.i64) ue o p;obtain⟨q,h⟩:=h;have f21:=Es (k:=.u8) Ty_5 kd_3 q;obtain⟨t,h⟩:=h;obtain⟨v23,u,h⟩:=aH h;have f24:=aV t u;obtain⟨A,h⟩:=h;obtain⟨v26,B,h⟩:=aH h;have f27:=aV A B;obtain⟨C,h⟩:=h;obtain⟨c,D,h⟩:=aH h;have f30:=sY C  D;simp[E,f16,f19,f21,f24,f27,f30,a,-nS,-jv,-aw];apply V;refine zI fun _ V=>?_
  obtain⟨F,h⟩:=h;obtain⟨d,G,h⟩:=aH h;have f33:=aV F G;simp[E,f33,a,-aw];apply V;refine J.cut (fun O H n=>(O 0=str s/\O 3=int c/\O 6=int bI/\O 7=int d)) (by simp[E,f33,a,-aw]) ?_;clear E;rintro O H n34 E;refine e (c,d) _ _ _ h (by simp[E])
 replace h:=h.2 a;refine J.exit rfl ?_;refine zE fun _ V=>?_
 simp[E,a];apply V;exact J.bX (v:=int h7) func80 results80 (by simp[E,a]) (hQ _ _ _ _ (.of (.v _)) ⟨h7,h,rfl⟩)
theorem Du (s:bc) (hp:iC s):aC prog 80 [str s] (fun r=>r=int (Cr s)):=(Ax s _ (Di s hp)).mono (by rintro _ ⟨_,rfl,rfl⟩;rfl)
theorem e24:aZ prog 24:=aZ.of func24 (by kernel_rfl) rfl
theorem AP (s:bc) (Z:Int->Prop) (h:oD s Z):aC prog 24 [str s] (fun r=>∃ y:Int,Z y/\r=int y):=by
 unfold oD at h;refine aC.of func24 rfl ntmps24 (by simp) fun Q hQ=>?_
 refine J.cut (fun O H n=>O 0=str s) (by simp[]) ?_;rintro O H U E;refine zE fun _ V=>?_
 simp[E];apply V;refine zE fun _ V=>?_
 simp[E];apply V;refine zS fun _ V=>?_
 simp[E];apply V;apply J.block;refine J.aL h (fun (sJ:Int × Int) O H n=>match sJ with | (n5,i6)=>(O 0=str s/\O 3=int n5/\O 4=int i6)) (by simp[E]) ?_;clear E;rintro⟨n5,i6⟩ O H n7 K h E IH8;refine zS fun _ V=>?_
 obtain⟨ja,e,h⟩:=aH h;have f11:=fun H=>sE (H:=H) ue e
 obtain⟨g,i,h⟩:=aH h;have f13:=bg (k:=.i64) i;simp[E,f11,f13,-aw,-aJ];apply V;refine J.ite (b:=g) (by simp[E]) (fun a=>?_) (fun a=>?_)
 ·replace h:=h.1 a;apply zK;apply J.block;refine zF fun _ V=>?_
  obtain⟨j,h⟩:=h;obtain⟨L,l,h⟩:=aH h;have f16:=BA j l;obtain⟨o,h⟩:=h;obtain⟨N,p,h⟩:=aH h;have f19:=BG (k:=.i64) ue o p;obtain⟨q,h⟩:=h;have f21:=Es (k:=.u8) Ty_5 kd_3 q;obtain⟨t,h⟩:=h;obtain⟨v23,u,h⟩:=aH h;have f24:=aV t u;obtain⟨A,h⟩:=h;obtain⟨v26,B,h⟩:=aH h;have f27:=aV A B;obtain⟨C,h⟩:=h;obtain⟨c,D,h⟩:=aH h;have f30:=sY C  D;simp[E,f16,f19,f21,f24,f27,f30,a,-nS,-jv,-aw];apply V;refine zI fun _ V=>?_
  obtain⟨F,h⟩:=h;obtain⟨d,G,h⟩:=aH h;have f33:=aV F G;simp[E,f33,a,-aw];apply V;refine J.cut (fun O H n=>(O 0=str s/\O 3=int c/\O 4=int d)) (by simp[E,f33,a,-aw]) ?_;clear E;rintro O H n34 E;refine IH8 (c,d) _ _ _ h (by simp[E])
 replace h:=h.2 a;refine J.exit rfl ?_;refine zE fun _ V=>?_
 simp[E,a];apply V;exact J.bX (v:=int n5) func24 results24 (by simp[E,a]) (hQ _ _ _ _ (.of (.v _)) ⟨n5,h,rfl⟩)
theorem Dg (s:bc) (hp:ll s):aC prog 24 [str s] (fun r=>r=int (sumL s)):=(AP s _ (DK s hp)).mono (by rintro _ ⟨_,rfl,rfl⟩;rfl)
theorem e33:aZ prog 33:=aZ.of func33 (by kernel_rfl) rfl
theorem wZ (s:bc) (Z:(Int × Bool)->Prop) (h:lZ s Z):aC prog 33 [str s] (fun r=>∃ y:Int × Bool,Z y/\r = .tup [int y.1,bool y.2]):=by
 unfold lZ at h;refine aC.of func33 rfl ntmps33 (by simp) fun Q hQ=>?_
 refine J.cut (fun O H n=>O 0=str s) (by simp[]) ?_;rintro O H U E;refine zE fun _ V=>?_
 simp[E];apply V;refine zS fun _ V=>?_
 obtain⟨bI,elen2,h⟩:=aH h;have f3:=fun H=>sE (H:=H) ue elen2
 obtain⟨c4,ec4,h⟩:=aH h;have f5:=C3 (k:=.i64) ec4;simp[E,f3,f5,-aw,-aJ];apply V;refine J.ite (b:=c4) (by simp[E]) (fun dc4=>?_) (fun dc4=>?_)
 ·replace h:=h.1 dc4;refine zE fun _ V=>?_
  simp[E,dc4];apply V;exact J.oo (v:=int 0) (w:=bool false) func33 results33 (by simp[E,dc4]) (by simp[E,dc4]) (hQ _ _ _ _ (.of (.AQ (.cons (.v _) (.cons (.v _) .nil)))) ⟨(0,false),h,rfl⟩)
 replace h:=h.2 dc4;apply J.skip;refine zE fun _ V=>?_
 obtain⟨hb6,h⟩:=h;obtain⟨r7,er7,h⟩:=aH h;simp[E,dc4];refine zA (Du s hb6) e80 (.cons (.v _ _ _) .nil) (by simp[E,dc4]) ?_;rintro _ rfl;rw[<- er7];simp[E,dc4];apply V;exact J.oo (v:=int r7) (w:=bool true) func33 results33 (by simp[E,dc4]) (by simp[E,dc4]) (hQ _ _ _ _ (.of (.AQ (.cons (.v _) (.cons (.v _) .nil)))) ⟨(r7,true),h,rfl⟩)
theorem Bw (s:bc) (hp:mU s):aC prog 33 [str s] (fun r=>r = .tup [int ((nU s).1),bool ((nU s).2)]):=(wZ s _ (B2 s hp)).mono (by rintro _ ⟨_,rfl,rfl⟩;rfl)
theorem vt (l:List bc) (sep:bc) (h:ns l sep):aC prog 83 [.list false (l.map fun s=>[str s]),str sep] (fun r=>r=str (Lib.join l sep)):=Dk l sep (by have:=h.1;omega) h.2
theorem e83:aZ prog 83:=aZ.of func83 (by kernel_rfl) rfl
theorem e34:aZ prog 34:=aZ.of func34 (by kernel_rfl) rfl
theorem wA (sig:List Control) (b:aG) (Z:bc->Prop) (h:mF sig b Z):aC prog 34 [.list false (sig.map Control.cells),.agg (bC false b)] (fun r=>∃ y:bc,Z y/\r=str y):=by
 unfold mF at h;have M:Sep bp 0 [] []:=Sep.nil (by simp);refine aC.of func34 rfl ntmps34 (by simp) fun Q hQ=>?_
 refine J.cut (fun O H n=>(O 0 = .list false (sig.map Control.cells)/\O 1 = .agg (bC false b))/\Sep H n [] []) (by refine⟨by simp ,M⟩) ?_;rintro O H U ⟨E,M⟩;refine zE fun _ V=>?_
 simp[E];apply V;refine J.cut (fun O H n=>((O 0 = .list false (sig.map Control.cells)/\O 3=pA U 3)/\H (U,3)=some ⟨6,[bC false b]⟩)/\Sep H n [] [(U,3)]) (by refine⟨by simp[E],M.var⟩) ?_;clear E;rintro O H n3 ⟨⟨E,a⟩,M⟩;refine J.seqK av (by decide) fun _ V=>?_
 refine bw.jg (v:=(pA U 3)) av (by decide) rfl (by simp[E,a]) ?_;refine bw.jg (v:=(int b.roots)) av (by decide) rfl (by simp[E,a]) ?_;obtain⟨hb4,h⟩:=h;obtain⟨r5,er5,h⟩:=aH h;refine bw.callA2 (xs1:=[int b.roots]) av (lH b.roots hb4) e81 (.cons (.v _ _ _) .nil) (by decide) rfl (by simp[E,a]) ?_;rintro _ rfl;rw[<- er5];obtain⟨l6,el6,h⟩:=aH h;refine bw.xG (l':=[.c]) (cs:=[str r5]) av (([r5]:List bc).map a7) M (by decide) (by decide) (by simp) dp (by simp) (by simp) (by simp[E,a,ec,List.replicate,dt]) (by simp[chunks,List.range_succ]) (by simp) (by simp) ?_;rintro id7 H8 n9 M ao fn;replace M:Sep H8 n9 [oS (.arr id7 1 0 1) l6] [(U,3)]:=by rw[el6];exact M
 have a:=(ao _ (by simp)).trans a;simp[E,a];apply V;refine J.cut (fun O H n=>∃ (q:I),((O 0 = .list false (sig.map Control.cells)/\O 3=pA U 3/\O 5=q)/\H (U,3)=some ⟨6,[bC false b]⟩)/\Sep H n [oS q l6] [(U,3)]) (by refine⟨.arr id7 1 0 1,by simp[E,a],M⟩) ?_;clear E a;rintro O H n15 ⟨q,⟨E,a⟩,M⟩;refine zS fun _ V=>?_
 obtain⟨F,aB,h⟩:=aH h;have f17:=fun H=>aQ (H:=H) (fr:=false) (f:=(ay.cells false)) cJ aB
 simp[E,a,f17,-aJ];apply V;apply J.block;refine J.aL h (fun (sJ:Int × (List bc)) O H n=>match sJ with | (v25,i)=>∃ (o:I),((O 0 = .list false (sig.map Control.cells)/\O 3=pA U 3/\O 5=o/\O 16 = .list false (b.nodes.map (ay.cells false))/\O 17=int F/\O 18=int v25)/\H (U,3)=some ⟨6,[bC false b]⟩)/\Sep H n [oS o i] [(U,3)]) (by refine⟨q,by simp[E,a],M⟩) ?_;clear E a;rintro⟨v25,i⟩ O H n28 K h ⟨o,⟨E,a⟩,M⟩ a0;refine zE fun _ V=>?_
 obtain⟨a1,a2,h⟩:=aH h;have f32:=bg (k:=.i64) a2;simp[E,a,f32,-aw];apply V;apply J.seq;refine J.ite (b:=a1) (by simp[E,a]) (fun j=>?_) (fun j=>?_)
 ·replace h:=h.1 j;apply zK;apply J.block;refine zE fun _ V=>?_
  obtain⟨a3,h⟩:=h;obtain⟨l,a4,h⟩:=aH h;have f35:=fun H=>aR (H:=H) (fr:=false) (f:=(ay.cells false)) (k:=.i64) cJ (fun _=>rfl) a3 a4
  simp[E,a,f35,j,-ar];apply V;refine J.cut (fun O H n=>∃ (v37:I),((O 0 = .list false (sig.map Control.cells)/\O 3=pA U 3/\O 5=v37/\O 7=pA n28 7/\O 16 = .list false (b.nodes.map (ay.cells false))/\O 17=int F/\O 18=int v25)/\H (U,3)=some ⟨6,[bC false b]⟩/\H (n28,7)=some ⟨3,[[int l.control,int l.parent,.list false (l.links.map au)]]⟩)/\Sep H n [oS v37 i] [(n28,7),(U,3)]) (by refine⟨o,by simp[E,a,f35,j,-ar],M.var⟩) ?_;clear E a;rintro O H n38 ⟨v37,⟨E,a,d⟩,M⟩;refine J.ee av aE bL (by decide) (by kernel_rfl) fun _ V=>?_
  obtain⟨a5,h⟩:=h;obtain⟨fo,a9,h⟩:=aH h;have f41:=fun H=>aR (H:=H) (fr:=false) (f:=Control.cells) (k:=.i64) yg (fun _=>rfl) a5 a9
  obtain⟨bd,h⟩:=h;obtain⟨fs,be,h⟩:=aH h;have f44:=ca bd be;obtain⟨bi,h⟩:=h;obtain⟨fx,bk,h⟩:=aH h;simp[E,a,d,f41,f44,-ar,-bJ];refine bh.b7 av aE (lH l.parent bi) e81 (.cons (.v _ _ _) .nil) (by decide) rfl (by simp[E,a,d,f41,f44,-ar,-bJ]) ?_;rw[<- bk];obtain⟨br,h⟩:=h;obtain⟨bs,bv,h⟩:=aH h;have f49:=ca br bv;obtain⟨b0,h⟩:=h;obtain⟨Y,b1,h⟩:=aH h;simp[E,a,d,f41,f44,f49,-ar,-bJ];refine bh.b7 av aE (uf bs l.links b0) e82 (.cons (.v _ _ _) (.cons (db false l.links) .nil)) (by decide) rfl (by simp[E,a,d,f41,f44,f49,-ar,-bJ]) ?_;rw[<- b1];obtain⟨b2,h⟩:=h;obtain⟨G,cc,h⟩:=aH h;simp[E,a,d,f41,f44,f49,-ar,-bJ,-bb];refine cO [] [] [[str Y]] [a7 Y] M dp (by simp) (by simp) (by simp) (by simp[-aF,bl]) (b6 (aY.v _ aY.nil)) (by simp) (by simpa using b2) ?_;rintro ab ce ch M ac fy;replace M:Sep ce ch [oS ab G] [(n28,7),(U,3)]:=Sep.ap cc M;have a:=(ac _ (by simp)).trans a;have d:=(ac _ (by simp)).trans d;simp[E,a,d,f41,f44,f49,-ar,-bJ];apply V;refine J.cut (fun O H n=>∃ (t:I),((O 0 = .list false (sig.map Control.cells)/\O 3=pA U 3/\O 5=t/\O 16 = .list false (b.nodes.map (ay.cells false))/\O 17=int F/\O 18=int v25)/\H (U,3)=some ⟨6,[bC false b]⟩)/\Sep H n [oS t G] [(U,3)]) (by refine⟨ab,by simp[E,a,d,f41,f44,f49,-ar,-bJ],(Sep.sub M (by simp +contextual))⟩) ?_;clear E a d;rintro O H n61 ⟨t,⟨E,a⟩,M⟩;refine zI fun _ V=>?_
  obtain⟨ci,h⟩:=h;obtain⟨cj,cl,h⟩:=aH h;have f64:=aV ci cl;simp[E,a,f64,-aw];apply V;refine a0 (cj,G) _ _ _ h (by refine⟨t,by simp[E,a],M⟩)
 replace h:=h.2 j;refine J.exit rfl ?_;refine J.cut (fun O H n=>∃ (g:I),((O 3=pA U 3/\O 5=g)/\H (U,3)=some ⟨6,[bC false b]⟩)/\Sep H n [oS g i] [(U,3)]) (by refine⟨o,by simp[E,a,j],M⟩) ?_;clear E a;rintro O H fz ⟨g,⟨E,a⟩,M⟩;obtain⟨co,h⟩:=h;obtain⟨u,cv,h⟩:=aH h;obtain⟨c0,h⟩:=h;obtain⟨A,c1,h⟩:=aH h;obtain⟨c2,c3,h⟩:=aH h;obtain⟨c4,h⟩:=h;obtain⟨L,c6,h⟩:=aH h;obtain⟨da,h⟩:=h;obtain⟨N,dc,h⟩:=aH h;obtain⟨dd,h⟩:=h;obtain⟨B,dg,h⟩:=aH h;refine J.xc (fun H n=>H (U,3)=some ⟨6,[bC false b]⟩/\Sep H n [oS g i] [(U,3)]) [7,10,11,12,13,14] (.free 0 (.free 1 (.free 2 (.free 3 (.free 4 (.free 5 (.free 6 (.free 8 (.free 9 (.aP 7 (.aP 10 (.aP 11 (.aP 12 (.aP 13 (.aP 14 (.fin) (.stop)) (.stop)) (.stop)) (.stop)) (.stop)) (.stop))))))))))) (fun O H n=>∃ (C:I),((O 3=pA U 3/\O 5=C)/\H (U,3)=some ⟨6,[bC false b]⟩)/\Sep H n [oS C B] [(U,3)]) bL (by decide) (by kernel_rfl) ?_ ?_
 ·refine RunT.free g rfl rfl ⟨a,M⟩ (fun H n hS=>by obtain⟨a,M⟩:=hS;exact (by exact aA av (by rw[ax];simp[E,a,List.range_succ]))) ?_;refine RunT.free (.ptr (U,3) 1 0 2) rfl rfl ⟨a,M⟩ (fun H n hS=>by obtain⟨a,M⟩:=hS;exact (by exact aA av (by rw[ax];simp[E,a,List.range_succ]))) ?_;refine RunT.free (.list false (b.sites.map au)) rfl rfl ⟨a,M⟩ (fun H n hS=>by obtain⟨a,M⟩:=hS;exact (by exact aA av (by rw[ax];simp[E,a,List.range_succ]))) ?_;refine RunT.free (str u) rfl rfl ⟨a,M⟩ (fun H n hS=>by obtain⟨a,M⟩:=hS;exact (by rw[cv];exact aI.By (xs:=[str [115,105,116,101,115],.list false (b.sites.map au)]) (uf [115,105,116,101,115] b.sites co) e82 (.cons (.v _ _ _) (.cons (db false b.sites) .nil)) (by simp[E,a,List.range_succ]) (by simp[E,a,List.range_succ]))) ?_;refine RunT.free (.ptr (U,3) 1 0 3) rfl rfl ⟨a,M⟩ (fun H n hS=>by obtain⟨a,M⟩:=hS;exact (by exact aA av (by rw[ax];simp[E,a,List.range_succ]))) ?_;refine RunT.free (int b.edges) rfl rfl ⟨a,M⟩ (fun H n hS=>by obtain⟨a,M⟩:=hS;exact (by exact aA av (by rw[ax];simp[E,a,List.range_succ]))) ?_;refine RunT.free (str A) rfl rfl ⟨a,M⟩ (fun H n hS=>by obtain⟨a,M⟩:=hS;exact (by rw[c1];exact aI.By (xs:=[int b.edges]) (lH b.edges c0) e81 (.cons (.v _ _ _) .nil) (by simp[E,a,List.range_succ]) (by simp[E,a,List.range_succ]))) ?_;refine RunT.free (.ptr (U,3) 1 0 4) rfl rfl ⟨a,M⟩ (fun H n hS=>by obtain⟨a,M⟩:=hS;exact (by exact aA av (by rw[ax];simp[E,a,List.range_succ]))) ?_;refine RunT.free (.list false (b.outer.map a7)) rfl rfl ⟨a,M⟩ (fun H n hS=>by obtain⟨a,M⟩:=hS;exact (by exact aA av (by rw[ax];simp[E,a,List.range_succ]))) ?_;refine⟨?_,trivial⟩;refine RunT.xG (l':=[.c]) (cs:=[str [111,117,116,101,114]]) av (([[111,117,116,101,114]]:List bc).map a7) rfl rfl M (by simp) dp (by simp) (by simp) (by simp[E,a,ec,List.replicate,dt,List.range_succ]) (by simp[chunks,List.range_succ,List.range_succ]) (by simp) (by simp[List.range_succ]) ?_;rintro ad dl ds M d0 f0;replace M:Sep dl ds [oS (.arr ad 1 0 1) c2,oS g i] [(U,3)]:=by rw[c3];exact M
  have a:=(d0 _ (by simp)).trans a;refine⟨(fun _=>⟨a,M.dr⟩),?_⟩;refine⟨?_,trivial⟩;refine RunT.cX (v:=(.arr ad 1 0 1)) (xv:=(.list false (b.outer.map a7))) av (b.outer.map a7) rfl rfl (by simp[E,a,List.range_succ]) (by simp[E,a,List.range_succ]) M (by simp) dp (by simp) (by simp) (by simp[cb]) (by simp[-aF,bl,List.range_succ]) (by simpa using c4) ?_;rintro v93 d1 d2 M d3 f2;replace M:Sep d1 d2 [oS v93 L,oS g i] [(U,3)]:=by refine Sep.ap c6 ?_;exact M
  have a:=(d3 _ (by simp)).trans a;refine⟨(fun _=>⟨a,M.dr⟩),?_⟩;refine⟨?_,trivial⟩;refine RunT.b7 (as1:=[v93,str [32]]) rfl rfl (vt L [32] da) e83 (.cons (Sep.cz M (bx (by simp))) (.cons (.v _ _ _) .nil)) (by simp[E,a,List.range_succ]) (by simp[E,a,List.range_succ]) (fun _=>⟨a,M.dr⟩) ?_;rw[<- dc];refine⟨?_,trivial⟩;refine RunT.same (v:=(.list true ([u,A,N].map a7))) av rfl rfl (by simp[E,a,List.range_succ]) (fun _=>⟨a,M.dr⟩) ?_;refine⟨?_,trivial⟩;refine RunT.cX (v:=g) (xv:=(.list true ([u,A,N].map a7))) av (([u,A,N]:List bc).map a7) rfl rfl (by simp[E,a,List.range_succ]) (by simp[E,a,List.range_succ]) M.f1 (by simp) dp (by simp) (by simp) (by simp[cb]) (by simp[-aF,bl,List.range_succ]) (by simpa using dd) ?_;rintro R d4 n109 M d5 f3;replace M:Sep d4 n109 [oS R B,oS v93 L] [(U,3)]:=by refine Sep.ap dg ?_;exact M
  have a:=(d5 _ (by simp)).trans a;refine⟨(fun hl=>absurd (hl.symm.trans (show ba _ _ _=true by kernel_rfl)) (by decide)),?_⟩;refine⟨?_,trivial⟩;have f121:=Sep.oc M;refine RunT.same (v:=R) av rfl rfl (by simp[E,a,f121,List.range_succ,-az,-aF,bR,bl]) (fun hl=>absurd (hl.symm.trans (show ba _ _ _=true by kernel_rfl)) (by decide)) ?_;refine RunT.fin (by refine⟨R,by simp[E,a,f121,List.range_succ,-az,-aF,bR,bl],M.f1.dr⟩)
 clear E a;rintro O H f4 ⟨C,⟨E,a⟩,M⟩;refine zE fun _ V=>?_
 simp[E,a,List.range_succ];apply V;refine zS fun _ V=>?_
 obtain⟨af,d6,h⟩:=aH h;have f123:=fun H=>aQ (H:=H) (fr:=false) (f:=aN.cells) eN d6
 simp[E,a,f123,List.range_succ,-aJ];apply V;apply J.block;refine J.aL h (fun (sJ:bc × Int) O H n=>match sJ with | (inner128,T)=>∃ (v130:I),(O 5=v130/\O 8=str inner128/\O 55 = .list false (b.inner.map aN.cells)/\O 56=int af/\O 57=int T)/\Sep H n [oS v130 B] []) (by refine⟨C,by simp[E,a,List.range_succ],(Sep.sub M (by simp +contextual))⟩) ?_;clear E a;rintro⟨inner128,T⟩ O H n131 K h ⟨v130,E,M⟩ d7;refine zE fun _ V=>?_
 obtain⟨d8,d9,h⟩:=aH h;have f135:=bg (k:=.i64) d9;simp[E,f135,List.range_succ,-aw];apply V;apply J.seq;refine J.ite (b:=d8) (by simp[E,List.range_succ]) (fun e=>?_) (fun e=>?_)
 ·replace h:=h.1 e;apply zK;apply J.block;refine zE fun _ V=>?_
  obtain⟨eb,h⟩:=h;obtain⟨W,ed,h⟩:=aH h;have f138:=fun H=>aR (H:=H) (fr:=false) (f:=aN.cells) (k:=.i64) eN (fun _=>rfl) eb ed
  simp[E,f138,e,List.range_succ,-ar];apply V;refine J.cut (fun O H n=>∃ (D:I),((O 5=D/\O 8=str inner128/\O 10=pA n131 10/\O 55 = .list false (b.inner.map aN.cells)/\O 56=int af/\O 57=int T)/\H (n131,10)=some ⟨2,[[str W.name,int W.link]]⟩)/\Sep H n [oS D B] [(n131,10)]) (by refine⟨v130,by simp[E,f138,e,List.range_succ,-ar],M.var⟩) ?_;clear E;rintro O H n141 ⟨D,⟨E,p⟩,M⟩;refine J.ee av aE bL (by decide) (by kernel_rfl) fun _ V=>?_
  obtain⟨el,h⟩:=h;obtain⟨v143,em,h⟩:=aH h;have f144:=ca el em;obtain⟨es,h⟩:=h;obtain⟨v146,ev,h⟩:=aH h;have f147:=ca es ev;obtain⟨ex,h⟩:=h;obtain⟨f5,ey,h⟩:=aH h;simp[E,p,f144,f147,List.range_succ,-bJ];refine bh.b7 av aE (lH W.link ex) e81 (.cons (.v _ _ _) .nil) (by decide) rfl (by simp[E,p,f144,f147,List.range_succ,-bJ]) ?_;rw[<- ey];obtain⟨e0,h⟩:=h;obtain⟨f6,e1,h⟩:=aH h;have f152:=ca e0 e1;obtain⟨e2,h⟩:=h;obtain⟨v154,e3,h⟩:=aH h;have f155:=ca e2 e3;simp[E,p,f144,f147,f152,f155,List.range_succ,-bJ];apply V;refine zI fun _ V=>?_
  obtain⟨e4,h⟩:=h;obtain⟨v157,e5,h⟩:=aH h;have f158:=aV e4 e5;simp[E,p,f158,List.range_succ,-aw];apply V;refine d7 (v154,v157) _ _ _ h (by refine⟨D,by simp[E,p,List.range_succ],(Sep.sub M (by simp +contextual))⟩)
 replace h:=h.2 e;refine J.exit rfl ?_;refine zE fun _ V=>?_
 obtain⟨e6,h⟩:=h;obtain⟨am,e7,h⟩:=aH h;simp[E,e,List.range_succ,-bb];refine cC [] [] [[str inner128]] [a7 inner128] M dp (by simp) (by simp) (by simp[List.range_succ]) (by simp[-aF,bl]) (b6 (aY.v _ aY.nil)) (by simp) (by simpa using e6) ?_;rintro e8 e9 n163 M f7 f8;replace M:Sep e9 n163 [oS e8 am] []:=Sep.ap e7 M;obtain⟨fd,h⟩:=h;obtain⟨X,fl,h⟩:=aH h;simp[E,e,List.range_succ];refine zA (vt am [59,32] fd) e83 (.cons (Sep.cz M (bx (by simp))) (.cons (.v _ _ _) .nil)) (by simp[E,e,List.range_succ]) ?_;rintro _ rfl;rw[<- fl];simp[E,e,List.range_succ];apply V;refine J.cut (fun O H n=>O 4=str X/\Sep H n [] []) (by refine⟨by simp[E,e,List.range_succ],M.dr⟩) ?_;clear E;rintro O H n169 ⟨E,M⟩;exact J.bX (v:=str X) func34 results34 (by simp[E,List.range_succ]) (hQ _ _ _ _ (.of (.v _)) ⟨X,h,rfl⟩)
theorem Cc (sig:List Control) (b:aG) (hp:mJ sig b):aC prog 34 [.list false (sig.map Control.cells),.agg (bC false b)] (fun r=>r=str (kI sig b)):=(wA sig b _ (CH sig b hp)).mono (by rintro _ ⟨_,rfl,rfl⟩;rfl)
theorem e61:aZ prog 61:=aZ.of func61 (by kernel_rfl) rfl
theorem z6 (n_:Int) (Z:bc->Prop) (ih:∀ n_r,dR n_r->fL n_r<fL n_->aC prog 61 [int n_r] (fun r=>r=str (lR n_r))) (h:oT n_ Z):aC prog 61 [int n_] (fun r=>∃ y:bc,Z y/\r=str y):=by
 unfold oT at h;refine aC.of func61 rfl ntmps61 (by simp) fun Q hQ=>?_
 refine J.cut (fun O H n=>O 0=int n_) (by simp[]) ?_;rintro O H U E;refine zE fun _ V=>?_
 simp[E];apply V;refine zS fun _ V=>?_
 obtain⟨c2,ec2,h⟩:=aH h;have f3:=bg (k:=.i64) ec2;simp[E,f3,-aw];apply V;refine J.ite (b:=c2) (by simp[E]) (fun dc2=>?_) (fun dc2=>?_)
 ·replace h:=h.1 dc2;refine zE fun _ V=>?_
  obtain⟨hb4,h⟩:=h;obtain⟨v5,ev5,h⟩:=aH h;have f6:=ub_neg hb4 ev5;obtain⟨hb7,h⟩:=h;obtain⟨r8,er8,h⟩:=aH h;simp[E,f6,dc2,-Dd,sW];refine zA (ih v5 hb7.1 hb7.2) e61 (.cons (.v _ _ _) .nil) (by simp[E,f6,dc2,-Dd,sW]) ?_;rintro _ rfl;rw[<- er8];obtain⟨hb9,h⟩:=h;obtain⟨v10,l,h⟩:=aH h;have f11:=ca hb9 l;simp[E,f6,f11,dc2,-bJ,-Dd,sW];apply V;exact J.bX (v:=str v10) func61 results61 (by simp[E,dc2]) (hQ _ _ _ _ (.of (.v _)) ⟨v10,h,rfl⟩)
 replace h:=h.2 dc2;apply J.skip;refine zS fun _ V=>?_
 obtain⟨o,p,h⟩:=aH h;have f13:=bg (k:=.i64) p;simp[E,f13,dc2,-aw];apply V;refine J.ite (b:=o) (by simp[E,dc2]) (fun c=>?_) (fun c=>?_)
 ·replace h:=h.1 c;refine zE fun _ V=>?_
  obtain⟨q,h⟩:=h;obtain⟨e,t,h⟩:=aH h;have f16:=aV q t;obtain⟨u,h⟩:=h;obtain⟨s18,es18,h⟩:=aH h;have f19:=fun H=>B4 (H:=H) (lo:=some (int n_)) (hi:=some (int e)) (a:=n_) (b:=e) (by simp[cI]) (by simp[cI]) ue u es18
  simp[E,f16,f19,dc2,c,-aw,-fC];apply V;exact J.bX (v:=str s18) func61 results61 (by simp[E,dc2,c]) (hQ _ _ _ _ (.of (.v _)) ⟨s18,h,rfl⟩)
 replace h:=h.2 c;apply J.skip;refine J.fv av aE bL (by decide) (by kernel_rfl) fun _ V=>?_
 obtain⟨A,h⟩:=h;obtain⟨B,h⟩:=h;obtain⟨v22,C,h⟩:=aH h;have f23:=ib_quo A B C;obtain⟨g,h⟩:=h;obtain⟨r25,D,h⟩:=aH h;simp[E,f23,dc2,c,-aw];refine bh.b7 av aE (ih v22 g.1 g.2) e61 (.cons (.v _ _ _) .nil) (by decide) rfl (by simp[E,f23,dc2,c,-aw]) ?_;rw[<- D];obtain⟨F,h⟩:=h;obtain⟨i,d,h⟩:=aH h;have f28:=sY F  d;obtain⟨G,h⟩:=h;obtain⟨v30,K,h⟩:=aH h;have L:=d.trans K.symm;subst L;have f32:=sY G  d;obtain⟨N,h⟩:=h;obtain⟨j,R,h⟩:=aH h;have f35:=aV N R;obtain⟨T,h⟩:=h;obtain⟨s37,es37,h⟩:=aH h;have f38:=fun H=>B4 (H:=H) (lo:=some (int i)) (hi:=some (int j)) (a:=i) (b:=j) (by simp[cI]) (by simp[cI]) ue T es37
 obtain⟨W,h⟩:=h;obtain⟨v40,X,h⟩:=aH h;have f41:=ca W X;simp[E,f23,f28,f32,f35,f38,f41,dc2,c,-aw,-fC,-bJ];apply V;refine J.cut (fun O H n=>O 2=str v40) (by simp[E,f23,f28,f32,f35,f38,f41,dc2,c,-aw,-fC,-bJ]) ?_;clear E;rintro O H n42 E;exact J.bX (v:=str v40) func61 results61 (by simp[E]) (hQ _ _ _ _ (.of (.v _)) ⟨v40,h,rfl⟩)
theorem CB (mq:Nat):∀ (n_:Int),fL n_=mq->dR n_->aC prog 61 [int n_] (fun r=>r=str (lR n_)):=by
 induction mq using Nat.strongRecOn with
 | _ mq ih=>
  rintro n_ rfl hp;exact (z6 n_ _ (fun n_r hp' hl=>ih _ hl n_r rfl hp') (Dh n_ hp)).mono (by rintro _ ⟨_,rfl,rfl⟩;rfl)
theorem mw (n_:Int) (hp:dR n_):aC prog 61 [int n_] (fun r=>r=str (lR n_)):=CB _ n_ rfl hp
theorem e62:aZ prog 62:=aZ.of func62 (by kernel_rfl) rfl
theorem tX (list:List Int) (Z:bc->Prop) (h:kb list Z):aC prog 62 [.list false (list.map au)] (fun r=>∃ y:bc,Z y/\r=str y):=by
 unfold kb at h;refine aC.of func62 rfl ntmps62 (by simp) fun Q hQ=>?_
 refine J.cut (fun O H n=>O 0 = .list false (list.map au)) (by simp) ?_;rintro O H U E;refine zE fun _ V=>?_
 simp[E];apply V;refine zE fun _ V=>?_
 simp[E];apply V;refine zS fun _ V=>?_
 simp[E];apply V;apply J.block;refine J.aL h (fun (sJ:bc × Int) O H n=>match sJ with | (s5,i6)=>(O 0 = .list false (list.map au)/\O 3=str s5/\O 4=int i6)) (by simp[E]) ?_;clear E;rintro⟨s5,i6⟩ O H n7 K h E IH8;refine zS fun _ V=>?_
 obtain⟨ja,c,h⟩:=aH h;have f11:=fun H=>aQ (H:=H) (fr:=false) (f:=au) aO c
 obtain⟨d,e,h⟩:=aH h;have f13:=bg (k:=.i64) e;simp[E,f11,f13,-aw,-aJ];apply V;refine J.ite (b:=d) (by simp[E]) (fun a=>?_) (fun a=>?_)
 ·replace h:=h.1 a;apply zK;apply J.block;refine zF fun _ V=>?_
  obtain⟨g,h⟩:=h;obtain⟨C,i,h⟩:=aH h;have f16:=ca g i;obtain⟨j,h⟩:=h;obtain⟨l,o,h⟩:=aH h;have f19:=fun H=>aR (H:=H) (fr:=false) (f:=au) (k:=.i64) aO (fun _=>rfl) j o
  obtain⟨p,h⟩:=h;obtain⟨D,q,h⟩:=aH h;simp[E,f16,f19,a,-ar,-bJ];refine zA (mw l p) e61 (.cons (.v _ _ _) .nil) (by simp[E,f16,f19,a,-ar,-bJ]) ?_;rintro _ rfl;rw[<- q];obtain⟨t,h⟩:=h;obtain⟨v23,u,h⟩:=aH h;have f24:=ca t u;simp[E,f16,f19,f24,a,-ar,-bJ];apply V;refine zI fun _ V=>?_
  obtain⟨A,h⟩:=h;obtain⟨v26,B,h⟩:=aH h;have f27:=aV A B;simp[E,f27,a,-aw];apply V;refine J.cut (fun O H n=>(O 0 = .list false (list.map au)/\O 3=str v23/\O 4=int v26)) (by simp[E,f27,a,-aw]) ?_;clear E;rintro O H n28 E;refine IH8 (v23,v26) _ _ _ h (by simp[E])
 replace h:=h.2 a;refine J.exit rfl ?_;refine zE fun _ V=>?_
 simp[E,a];apply V;exact J.bX (v:=str s5) func62 results62 (by simp[E,a]) (hQ _ _ _ _ (.of (.v _)) ⟨s5,h,rfl⟩)
theorem rv (list:List Int) (hp:iG list):aC prog 62 [.list false (list.map au)] (fun r=>r=str (dV list)):=(tX list _ (za list hp)).mono (by rintro _ ⟨_,rfl,rfl⟩;rfl)
theorem e25:aZ prog 25:=aZ.of func25 (by kernel_rfl) rfl
theorem vK (sig:List Control) (b:aG) (Z:bc->Prop) (h:lE sig b Z):aC prog 25 [.list false (sig.map Control.cells),.agg (bC false b)] (fun r=>∃ y:bc,Z y/\r=str y):=by
 unfold lE at h;refine aC.of func25 rfl ntmps25 (by simp) fun Q hQ=>?_
 refine J.cut (fun O H n=>(O 0 = .list false (sig.map Control.cells)/\O 1 = .agg (bC false b))) (by simp) ?_;rintro O H U E;refine zE fun _ V=>?_
 simp[E];apply V;refine J.cut (fun O H n=>(O 0 = .list false (sig.map Control.cells)/\O 3=pA U 3)/\H (U,3)=some ⟨6,[bC false b]⟩) (by refine⟨?_,?_⟩<;>simp[E]) ?_;clear E;rintro O H n3 ⟨E,a⟩;refine zE fun _ V=>?_
 obtain⟨hb4,h⟩:=h;obtain⟨r5,er5,h⟩:=aH h;simp[E,a];refine zA (mw b.roots hb4) e61 (.cons (.v _ _ _) .nil) (by simp[E,a]) ?_;rintro _ rfl;rw[<- er5];obtain⟨hb6,h⟩:=h;obtain⟨v7,ev7,h⟩:=aH h;have f8:=ca hb6 ev7;simp[E,a,f8,-bJ];apply V;refine zS fun _ V=>?_
 simp[E,a];apply V;apply J.block;refine J.aL h (fun (sJ:bc × Int) O H n=>match sJ with | (s12,i13)=>(O 0 = .list false (sig.map Control.cells)/\O 3=pA U 3/\O 5=str s12/\O 6=int i13)/\H (U,3)=some ⟨6,[bC false b]⟩) (by refine⟨?_,?_⟩<;>simp[E,a]) ?_;clear E a;rintro⟨s12,i13⟩ O H l K h ⟨E,a⟩ p;refine zS fun _ V=>?_
 obtain⟨el,q,h⟩:=aH h;have f18:=fun H=>aQ (H:=H) (fr:=false) (f:=(ay.cells false)) cJ q
 obtain⟨t,u,h⟩:=aH h;have f20:=bg (k:=.i64) u;simp[E,a,f18,f20,-aw,-aJ];apply V;refine J.ite (b:=t) (by simp[E,a]) (fun c=>?_) (fun c=>?_)
 ·replace h:=h.1 c;apply zK;apply J.block;refine zE fun _ V=>?_
  obtain⟨A,h⟩:=h;obtain⟨i,B,h⟩:=aH h;have f23:=fun H=>aR (H:=H) (fr:=false) (f:=(ay.cells false)) (k:=.i64) cJ (fun _=>rfl) A B
  simp[E,a,f23,c,-ar];apply V;refine J.cut (fun O H n=>(O 0 = .list false (sig.map Control.cells)/\O 3=pA U 3/\O 5=str s12/\O 6=int i13/\O 7=pA l 7)/\H (U,3)=some ⟨6,[bC false b]⟩/\H (l,7)=some ⟨3,[[int i.control,int i.parent,.list false (i.links.map au)]]⟩) (by refine⟨?_,?_,?_⟩<;>simp[E,a,f23,c,-ar]) ?_;clear E a;rintro O H n25 ⟨E,a,g⟩;refine J.ee av aE bL (by decide) (by kernel_rfl) fun _ V=>?_
  obtain⟨C,h⟩:=h;obtain⟨em,D,h⟩:=aH h;have f28:=fun H=>aR (H:=H) (fr:=false) (f:=Control.cells) (k:=.i64) yg (fun _=>rfl) C D
  obtain⟨F,h⟩:=h;obtain⟨v30,G,h⟩:=aH h;have f31:=ca F G;obtain⟨L,h⟩:=h;obtain⟨es,N,h⟩:=aH h;have f34:=ca L N;obtain⟨R,h⟩:=h;obtain⟨r36,T,h⟩:=aH h;simp[E,a,g,f28,f31,f34,-ar,-bJ];refine bh.b7 av aE (mw i.parent R) e61 (.cons (.v _ _ _) .nil) (by decide) rfl (by simp[E,a,g,f28,f31,f34,-ar,-bJ]) ?_;rw[<- T];obtain⟨W,h⟩:=h;obtain⟨ev,X,h⟩:=aH h;have f39:=ca W X;obtain⟨Y,h⟩:=h;obtain⟨ex,ab,h⟩:=aH h;simp[E,a,g,f28,f31,f34,f39,-ar,-bJ];refine bh.b7 av aE (rv i.links Y) e62 (.cons (db false i.links) .nil) (by decide) rfl (by simp[E,a,g,f28,f31,f34,f39,-ar,-bJ]) ?_;rw[<- ab];obtain⟨ac,h⟩:=h;obtain⟨ey,ad,h⟩:=aH h;have f44:=ca ac ad;obtain⟨af,h⟩:=h;obtain⟨v46,am,h⟩:=aH h;have f47:=ca af am;simp[E,a,g,f28,f31,f34,f39,f44,f47,-ar,-bJ];apply V;refine J.cut (fun O H n=>(O 0 = .list false (sig.map Control.cells)/\O 3=pA U 3/\O 5=str v46/\O 6=int i13)/\H (U,3)=some ⟨6,[bC false b]⟩) (by refine⟨?_,?_⟩<;>simp[E,a,g,f28,f31,f34,f39,f44,f47,-ar,-bJ]) ?_;clear E a g;rintro O H e0 ⟨E,a⟩;refine zI fun _ V=>?_
  obtain⟨ao,h⟩:=h;obtain⟨ap,aB,h⟩:=aH h;have f51:=aV ao aB;simp[E,a,f51,-aw];apply V;refine p (v46,ap) _ _ _ h (by refine⟨?_,?_⟩<;>simp[E,a])
 replace h:=h.2 c;refine J.exit rfl ?_;refine J.fv av aE bL (by decide) (by kernel_rfl) fun _ V=>?_
 obtain⟨a0,h⟩:=h;obtain⟨v53,a1,h⟩:=aH h;have f54:=ca a0 a1;obtain⟨a2,h⟩:=h;obtain⟨e1,a3,h⟩:=aH h;simp[E,a,f54,c,-bJ];refine bh.b7 av aE (rv b.sites a2) e62 (.cons (db false b.sites) .nil) (by decide) rfl (by simp[E,a,f54,c,-bJ]) ?_;rw[<- a3];obtain⟨a4,h⟩:=h;obtain⟨e2,a5,h⟩:=aH h;have f59:=ca a4 a5;obtain⟨a9,h⟩:=h;obtain⟨e3,bd,h⟩:=aH h;have f62:=ca a9 bd;obtain⟨be,h⟩:=h;obtain⟨e4,bi,h⟩:=aH h;simp[E,a,f54,f59,f62,c,-bJ];refine bh.b7 av aE (mw b.edges be) e61 (.cons (.v _ _ _) .nil) (by decide) rfl (by simp[E,a,f54,f59,f62,c,-bJ]) ?_;rw[<- bi];obtain⟨bk,h⟩:=h;obtain⟨e5,br,h⟩:=aH h;have f67:=ca bk br;obtain⟨bs,h⟩:=h;obtain⟨bv,b0,h⟩:=aH h;have f70:=ca bs b0;simp[E,a,f54,f59,f62,f67,f70,c,-bJ];apply V;refine J.cut (fun O H n=>(O 3=pA U 3/\O 5=str bv)/\H (U,3)=some ⟨6,[bC false b]⟩) (by refine⟨?_,?_⟩<;>simp[E,a,f54,f59,f62,f67,f70,c,-bJ]) ?_;clear E a;rintro O H e6 ⟨E,a⟩;refine zS fun _ V=>?_
 simp[E,a];apply V;apply J.block;refine J.aL h (fun (sJ:bc × Int) O H n=>match sJ with | (s75,i76)=>(O 3=pA U 3/\O 5=str s75/\O 8=int i76)/\H (U,3)=some ⟨6,[bC false b]⟩) (by refine⟨?_,?_⟩<;>simp[E,a]) ?_;clear E a;rintro⟨s75,i76⟩ O H e7 K h ⟨E,a⟩ b1;refine zS fun _ V=>?_
 obtain⟨e8,b2,h⟩:=aH h;have f81:=fun H=>aQ (H:=H) (fr:=false) (f:=a7) dp b2
 obtain⟨cc,ce,h⟩:=aH h;have f83:=bg (k:=.i64) ce;simp[E,a,f81,f83,-aw,-aJ];apply V;refine J.ite (b:=cc) (by simp[E,a]) (fun d=>?_) (fun d=>?_)
 ·replace h:=h.1 d;apply zK;apply J.block;refine zF fun _ V=>?_
  obtain⟨ch,h⟩:=h;obtain⟨v85,ci,h⟩:=aH h;have f86:=ca ch ci;obtain⟨cj,h⟩:=h;obtain⟨e9,cl,h⟩:=aH h;have f89:=fun H=>aR (H:=H) (fr:=false) (f:=a7) (k:=.i64) dp (fun _=>rfl) cj cl
  obtain⟨co,h⟩:=h;obtain⟨v91,cs,h⟩:=aH h;have f92:=ca co cs;simp[E,a,f86,f89,f92,d,-ar,-bJ];apply V;refine zI fun _ V=>?_
  obtain⟨cv,h⟩:=h;obtain⟨o,c0,h⟩:=aH h;have f95:=aV cv c0;simp[E,a,f95,d,-aw];apply V;refine J.cut (fun O H n=>(O 3=pA U 3/\O 5=str v91/\O 8=int o)/\H (U,3)=some ⟨6,[bC false b]⟩) (by refine⟨?_,?_⟩<;>simp[E,a,f95,d,-aw]) ?_;clear E a;rintro O H fd ⟨E,a⟩;refine b1 (v91,o) _ _ _ h (by refine⟨?_,?_⟩<;>simp[E,a])
 replace h:=h.2 d;refine J.exit rfl ?_;refine zE fun _ V=>?_
 obtain⟨c1,h⟩:=h;obtain⟨fl,c2,h⟩:=aH h;have f99:=ca c1 c2;simp[E,a,f99,d,-bJ];apply V;refine zS fun _ V=>?_
 simp[E,a,d];apply V;apply J.block;refine J.aL h (fun (sJ:bc × Int) O H n=>match sJ with | (s103,i104)=>(O 3=pA U 3/\O 5=str s103/\O 9=int i104)/\H (U,3)=some ⟨6,[bC false b]⟩) (by refine⟨?_,?_⟩<;>simp[E,a,d]) ?_;clear E a;rintro⟨s103,i104⟩ O H n105 K h ⟨E,a⟩ c3;refine zS fun _ V=>?_
 obtain⟨fn,c4,h⟩:=aH h;have f109:=fun H=>aQ (H:=H) (fr:=false) (f:=aN.cells) eN c4
 obtain⟨c6,da,h⟩:=aH h;have f111:=bg (k:=.i64) da;simp[E,a,f109,f111,-aw,-aJ];apply V;refine J.ite (b:=c6) (by simp[E,a]) (fun e=>?_) (fun e=>?_)
 ·replace h:=h.1 e;apply zK;apply J.block;refine J.ee av aE bL (by decide) (by kernel_rfl) fun _ V=>?_
  obtain⟨dc,h⟩:=h;obtain⟨fo,dd,h⟩:=aH h;have f114:=ca dc dd;obtain⟨dg,h⟩:=h;obtain⟨dl,j,h⟩:=aH h;have f117:=fun H=>aR (H:=H) (fr:=false) (f:=aN.cells) (k:=.i64) eN (fun _=>rfl) dg j
  obtain⟨dr,h⟩:=h;obtain⟨fs,ds,h⟩:=aH h;have f120:=ca dr ds;obtain⟨d0,h⟩:=h;obtain⟨fx,d1,h⟩:=aH h;have f123:=ca d0 d1;obtain⟨d2,h⟩:=h;obtain⟨fy,d3,h⟩:=aH h;have d4:=j.trans d3.symm;subst d4;have f127:=fun H=>aR (H:=H) (fr:=false) (f:=aN.cells) (k:=.i64) eN (fun _=>rfl) d2 j
  obtain⟨d5,h⟩:=h;obtain⟨fz,d6,h⟩:=aH h;simp[E,a,f114,f117,f120,f123,f127,e,-ar,-bJ];refine bh.b7 av aE (mw dl.link d5) e61 (.cons (.v _ _ _) .nil) (by decide) rfl (by simp[E,a,f114,f117,f120,f123,f127,e,-ar,-bJ]) ?_;rw[<- d6];obtain⟨d7,h⟩:=h;obtain⟨v131,d8,h⟩:=aH h;have f132:=ca d7 d8;simp[E,a,f114,f117,f120,f123,f127,f132,e,-ar,-bJ];apply V;refine J.cut (fun O H n=>(O 3=pA U 3/\O 5=str v131/\O 9=int i104)/\H (U,3)=some ⟨6,[bC false b]⟩) (by refine⟨?_,?_⟩<;>simp[E,a,f114,f117,f120,f123,f127,f132,e,-ar,-bJ]) ?_;clear E a;rintro O H n133 ⟨E,a⟩;refine zI fun _ V=>?_
  obtain⟨d9,h⟩:=h;obtain⟨eb,ed,h⟩:=aH h;have f136:=aV d9 ed;simp[E,a,f136,-aw];apply V;refine c3 (v131,eb) _ _ _ h (by refine⟨?_,?_⟩<;>simp[E,a])
 replace h:=h.2 e;refine J.exit rfl ?_;refine zE fun _ V=>?_
 simp[E,a,e];apply V;exact J.bX (v:=str s103) func25 results25 (by simp[E,a,e]) (hQ _ _ _ _ (.of (.v _)) ⟨s103,h,rfl⟩)
theorem CQ (sig:List Control) (b:aG) (hp:nb sig b):aC prog 25 [.list false (sig.map Control.cells),.agg (bC false b)] (fun r=>r=str (uU sig b)):=(vK sig b _ (CN sig b hp)).mono (by rintro _ ⟨_,rfl,rfl⟩;rfl)
theorem e10:aZ prog 10:=aZ.of func10 (by kernel_rfl) rfl
theorem wU (sig:List Control) (b:aG) (Z:(Int × Bool)->Prop) (h:lv sig b Z):aC prog 10 [.list false (sig.map Control.cells),.agg (bC false b)] (fun r=>∃ y:Int × Bool,Z y/\r = .tup [int y.1,bool y.2]):=by
 unfold lv at h;have M:Sep bp 0 [] []:=Sep.nil (by simp);refine aC.of func10 rfl ntmps10 (by simp) fun Q hQ=>?_
 refine J.cut (fun O H n=>(O 0 = .list false (sig.map Control.cells)/\O 1 = .agg (bC false b))/\Sep H n [] []) (by refine⟨by simp ,M⟩) ?_;rintro O H U ⟨E,M⟩;refine zE fun _ V=>?_
 simp[E];apply V;refine J.cut (fun O H n=>((O 0 = .list false (sig.map Control.cells)/\O 3=pA U 3)/\H (U,3)=some ⟨6,[bC false b]⟩)/\Sep H n [] [(U,3)]) (by refine⟨by simp[E],M.var⟩) ?_;clear E;rintro O H n3 ⟨⟨E,a⟩,M⟩;refine zS fun _ V=>?_
 obtain⟨hb4,h⟩:=h;obtain⟨r5,er5,h⟩:=aH h;simp[E,a];refine zA (sH sig b hb4) e32 (.cons (oq false sig) (.cons (dT false b) .nil)) (by simp[E,a]) ?_;rintro _ rfl;rw[<- er5];simp[E,a];apply V;refine J.ite (b:=(!r5)) (by simp[E,a]) (fun dr5=>?_) (fun dr5=>?_)
 ·have dr5:r5=false:=by simpa using dr5
  replace h:=h.2 dr5;refine zE fun _ V=>?_
  simp[E,a,dr5];apply V;exact J.oo (v:=int 0) (w:=bool false) func10 results10 (by simp[E,a,dr5]) (by simp[E,a,dr5]) (hQ _ _ _ _ (.of (.AQ (.cons (.v _) (.cons (.v _) .nil)))) ⟨(0,false),h,rfl⟩)
 have dr5:r5=true:=by simpa using dr5
 replace h:=h.1 dr5;apply J.skip;refine zE fun _ V=>?_
 obtain⟨hb6,h⟩:=h;obtain⟨r7,er7,h⟩:=aH h;simp[E,a,dr5];refine zW (yW b hb6) e35 (.cons (dT false b) .nil) M (by simp[E,a,dr5]) ?_;rintro v8 H9 o _ M rfl p c;rw[<- er7] at M;have a:=(c _ (by simp)).trans a;replace M:=Sep.unpack M;obtain⟨L20,hv,d,M⟩:=M;subst hv;obtain⟨q,t,u,A,B,C,hv⟩:=aW (by simpa using d);subst hv;simp only[fP,List.cons_append,List.nil_append] at M;replace M:=Sep.scalar M;obtain⟨hv,M⟩:=M;subst hv;replace M:=Sep.nw M;replace M:=Sep.nw M;replace M:=Sep.scalar M;obtain⟨hv,M⟩:=M;subst hv;replace M:=Sep.nw M;replace M:=Sep.nw M;try simp only[List.append_eq,List.cons_append,List.nil_append,List.append_assoc] at M
 obtain⟨e,h⟩:=h;obtain⟨g,i,h⟩:=aH h;simp[E,a,dr5];refine zA (Cc sig r7 e) e34 (.cons (oq false sig) (.cons (aM.agg (.cons (.v _ _ _) (.cons (Sep.cz M (qM true r7.nodes)) (.cons (Sep.cz M.f1 (bx (by simp))) (.cons (.v _ _ _) (.cons (Sep.cz M.f2 (bx (by simp))) (.cons (Sep.cz M.f3 (bx (by simp))) .nil))))))) .nil)) (by simp[E,a,dr5]) ?_;rintro _ rfl;rw[<- i];obtain⟨j,h⟩:=h;obtain⟨r29,l,h⟩:=aH h;simp[E,a,dr5];refine zA (Bw g j) e33 (.cons (.v _ _ _) .nil) (by simp[E,a,dr5]) ?_;rintro _ rfl;rw[<- l];simp[E,a,dr5];apply V;refine J.cut (fun O H n=>(O 4=int r29.1/\O 5=bool r29.2)/\Sep H n [] []) (by refine⟨by simp[E,a,dr5],(Sep.sub M.dr.dr.dr.dr (by simp +contextual))⟩) ?_;clear E a;rintro O H n30 ⟨E,M⟩;exact J.oo (v:=int r29.1) (w:=bool r29.2) func10 results10 (by simp[E]) (by simp[E]) (hQ _ _ _ _ (.of (.AQ (.cons (.v _) (.cons (.v _) .nil)))) ⟨(r29.1,r29.2),h,rfl⟩)
theorem CG (sig:List Control) (b:aG) (hp:mT sig b):aC prog 10 [.list false (sig.map Control.cells),.agg (bC false b)] (fun r=>r = .tup [int ((kH sig b).1),bool ((kH sig b).2)]):=(wU sig b _ (Ck sig b hp)).mono (by rintro _ ⟨_,rfl,rfl⟩;rfl)
theorem e7:aZ prog 7:=aZ.of func7 (by kernel_rfl) rfl
theorem ux (sig:List Control) (b:aG) (Z:(Int × Bool)->Prop) (h:ks sig b Z):aC prog 7 [.list false (sig.map Control.cells),.agg (bC false b)] (fun r=>∃ y:Int × Bool,Z y/\r = .tup [int y.1,bool y.2]):=by
 unfold ks at h;have M:Sep bp 0 [] []:=Sep.nil (by simp);refine aC.of func7 rfl ntmps7 (by simp) fun Q hQ=>?_
 refine J.cut (fun O H n=>(O 0 = .list false (sig.map Control.cells)/\O 1 = .agg (bC false b))/\Sep H n [] []) (by refine⟨by simp ,M⟩) ?_;rintro O H U ⟨E,M⟩;refine zE fun _ V=>?_
 simp[E];apply V;refine J.cut (fun O H n=>((O 0 = .list false (sig.map Control.cells)/\O 3=pA U 3)/\H (U,3)=some ⟨6,[bC false b]⟩)/\Sep H n [] [(U,3)]) (by refine⟨by simp[E],M.var⟩) ?_;clear E;rintro O H n3 ⟨⟨E,a⟩,M⟩;refine zS fun _ V=>?_
 obtain⟨hb4,h⟩:=h;obtain⟨r5,er5,h⟩:=aH h;simp[E,a];refine zA (yT sig b hb4) e23 (.cons (oq false sig) (.cons (dT false b) .nil)) (by simp[E,a]) ?_;rintro _ rfl;rw[<- er5];simp[E,a];apply V;refine J.ite (b:=(!r5)) (by simp[E,a]) (fun dr5=>?_) (fun dr5=>?_)
 ·have dr5:r5=false:=by simpa using dr5
  replace h:=h.2 dr5;refine zE fun _ V=>?_
  simp[E,a,dr5];apply V;exact J.oo (v:=int 0) (w:=bool false) func7 results7 (by simp[E,a,dr5]) (by simp[E,a,dr5]) (hQ _ _ _ _ (.of (.AQ (.cons (.v _) (.cons (.v _) .nil)))) ⟨(0,false),h,rfl⟩)
 have dr5:r5=true:=by simpa using dr5
 replace h:=h.1 dr5;apply J.skip;refine zE fun _ V=>?_
 obtain⟨hb6,h⟩:=h;obtain⟨r7,er7,h⟩:=aH h;simp[E,a,dr5];refine zA (Az b hb6) e26 (.cons (dT false b) .nil) (by simp[E,a,dr5]) ?_;rintro _ rfl;rw[<- er7];obtain⟨hb8,h⟩:=h;obtain⟨r9,er9,h⟩:=aH h;simp[E,a,dr5];refine zA (CQ sig r7 hb8) e25 (.cons (oq false sig) (.cons (dT true r7) .nil)) (by simp[E,a,dr5]) ?_;rintro _ rfl;rw[<- er9];obtain⟨d,h⟩:=h;obtain⟨c,e,h⟩:=aH h;simp[E,a,dr5];refine zA (Dg r9 d) e24 (.cons (.v _ _ _) .nil) (by simp[E,a,dr5]) ?_;rintro _ rfl;rw[<- e];simp[E,a,dr5];apply V;exact J.oo (v:=int c) (w:=bool true) func7 results7 (by simp[E,a,dr5]) (by simp[E,a,dr5]) (hQ _ _ _ _ (.of (.AQ (.cons (.v _) (.cons (.v _) .nil)))) ⟨(c,true),h,rfl⟩)
theorem Ay (sig:List Control) (b:aG) (hp:kN sig b):aC prog 7 [.list false (sig.map Control.cells),.agg (bC false b)] (fun r=>r = .tup [int ((kU sig b).1),bool ((kU sig b).2)]):=(ux sig b _ (zt sig b hp)).mono (by rintro _ ⟨_,rfl,rfl⟩;rfl)
theorem e3:aZ prog 3:=aZ.of func3 (by kernel_rfl) rfl
set_option maxHeartbeats 4000000 in
theorem uk (eG:List Control) (aB:aG) (Z:Bool->Prop) (h:jX eG aB Z):aC prog 3 [.list false (eG.map Control.cells),.agg (bC false aB)] (fun r=>∃ y:Bool,Z y/\r=bool y):=by
 unfold jX at h;refine aC.of func3 rfl ntmps3 (by simp) fun Q hQ=>?_
 refine J.cut (fun O H n=>(O 0 = .list false (eG.map Control.cells)/\O 1 = .agg (bC false aB))) (by simp) ?_;rintro O H U E;refine zE fun k' V=>?_
 simp[E];apply V;refine J.cut (fun O H n=>(O 0 = .list false (eG.map Control.cells)/\O 3=pA U 3)/\H (U,3)=some ⟨6,[bC false aB]⟩) (by refine⟨?_,?_⟩<;>simp[E]) ?_;clear E;rintro O H n3 ⟨E,a⟩;refine zE fun k' V=>?_
 simp[E,a];apply V;refine zE fun k' V=>?_
 obtain⟨hb4,h⟩:=h;obtain⟨r5,er5,h⟩:=aH h;simp[E,a];refine zA (qQ eG 1048576 hb4.1.1 hb4.1.2 hb4.2.len hb4.2.names) e5 (.cons (oq false eG) (.cons (.v _ _ _) .nil)) (by simp[E,a]) ?_;rintro _ rfl;rw[<- er5];simp[E,a];apply V;refine zS fun k' V=>?_
 obtain⟨c6,ec6,h⟩:=aH h;have f7:=bg (k:=.i64) ec6;simp[E,a,f7,-aw];apply V;refine J.ite (b:=c6) (by simp[E,a]) (fun dc6=>?_) (fun dc6=>?_)
 ·replace h:=h.1 dc6;refine zE fun k' V=>?_
  simp[E,a,dc6];apply V;exact J.bX (v:=bool true) func3 results3 (by simp[E,a,dc6]) (hQ _ _ _ _ (.of (.v _)) ⟨true,h,rfl⟩)
 replace h:=h.2 dc6;apply J.skip;refine zE fun k' V=>?_
 obtain⟨hb8,h⟩:=h;obtain⟨r9,er9,h⟩:=aH h;simp[E,a,dc6];refine zA (ss aB r5 hb8.1.1 hb8.1.2 hb8.2) e6 (.cons (dT false aB) (.cons (.v _ _ _) .nil)) (by simp[E,a,dc6]) ?_;rintro _ rfl;rw[<- er9];simp[E,a,dc6];apply V;refine zS fun k' V=>?_
 obtain⟨D,F,h⟩:=aH h;have f11:=bg (k:=.i64) F;simp[E,a,f11,dc6,-aw];apply V;refine J.ite (b:=D) (by simp[E,a,dc6]) (fun g=>?_) (fun g=>?_)
 ·replace h:=h.1 g;refine zE fun k' V=>?_
  simp[E,a,dc6,g];apply V;exact J.bX (v:=bool true) func3 results3 (by simp[E,a,dc6,g]) (hQ _ _ _ _ (.of (.v _)) ⟨true,h,rfl⟩)
 replace h:=h.2 g;apply J.skip;refine J.fv av aE bL (by decide) (by kernel_rfl) fun k' V=>?_
 obtain⟨G,h⟩:=h;obtain⟨u,K,h⟩:=aH h;simp[E,a,dc6,g];refine bh.b7 av aE ((eX eG G).pure) e8 (.cons (oq false eG) .nil) (by decide) rfl (by simp[E,a,dc6,g]) ?_;rw[<- K];obtain⟨L,h⟩:=h;obtain⟨A,N,h⟩:=aH h;simp[E,a,dc6,g];refine bh.b7 av aE ((fN aB L).pure) e9 (.cons (dT false aB) .nil) (by decide) rfl (by simp[E,a,dc6,g]) ?_;rw[<- N];obtain⟨R,h⟩:=h;obtain⟨p,T,h⟩:=aH h;simp[E,a,dc6,g];refine bh.b7 av aE (Ay u A R) e7 (.cons (oq true u) (.cons (dT true A) .nil)) (by decide) rfl (by simp[E,a,dc6,g]) ?_;rw[<- T];simp[E,a,dc6,g];apply V;refine J.cut (fun O H n=>(O 0 = .list false (eG.map Control.cells)/\O 3=pA U 3/\O 6=int p.1/\O 7=bool p.2)/\H (U,3)=some ⟨6,[bC false aB]⟩) (by refine⟨?_,?_⟩<;>simp[E,a,dc6,g]) ?_;clear E a;rintro O H n18 ⟨E,a⟩;refine zE fun k' V=>?_
 obtain⟨W,h⟩:=h;obtain⟨l,X,h⟩:=aH h;simp[E,a];refine zA ((eX eG W).pure) e8 (.cons (oq false eG) .nil) (by simp[E,a]) ?_;rintro _ rfl;rw[<- X];simp[E,a];apply V;refine zE fun k' V=>?_
 obtain⟨Y,h⟩:=h;obtain⟨o,ab,h⟩:=aH h;simp[E,a];refine zA ((fN aB Y).pure) e9 (.cons (dT false aB) .nil) (by simp[E,a]) ?_;rintro _ rfl;rw[<- ab];simp[E,a];apply V;refine J.cut (fun O H n=>(O 0 = .list false (eG.map Control.cells)/\O 3=pA U 3/\O 6=int p.1/\O 7=bool p.2/\O 8 = .list true (l.map Control.cells)/\O 9=pA n18 9)/\H (U,3)=some ⟨6,[bC false aB]⟩/\H (n18,9)=some ⟨6,[bC true o]⟩) (by refine⟨?_,?_,?_⟩<;>simp[E,a]) ?_;clear E a;rintro O H n24 ⟨E,a,c⟩;refine zE fun k' V=>?_
 obtain⟨ac,h⟩:=h;obtain⟨br,ad,h⟩:=aH h;simp[E,a,c];refine zA (CG l o ac) e10 (.cons (oq true l) (.cons (dT true o) .nil)) (by simp[E,a,c]) ?_;rintro _ rfl;rw[<- ad];simp[E,a,c];apply V;refine zS fun k' V=>?_
 obtain⟨af,am,ao⟩:=h;have B:∀ (sJ:Bool) (O:Env) (H:Heap) (n:Nat),af sJ->(match sJ with | q=>(O 0 = .list false (eG.map Control.cells)/\O 3=pA U 3/\O 8 = .list true (l.map Control.cells)/\O 9=pA n18 9/\O 47=bool q)/\H (U,3)=some ⟨6,[bC false aB]⟩/\H (n18,9)=some ⟨6,[bC true o]⟩)->J prog 3 58 k' O H n Q:=by
  rintro q O H n32 h ⟨E,a,c⟩;replace h:=ao _ h;apply V;refine J.ite (b:=q) (by simp[E,a,c]) (fun d=>?_) (fun d=>?_)
  ·replace h:=h.1 d;refine zE fun k' V=>?_
   simp[E,a,c,d];apply V;exact J.bX (v:=bool false) func3 results3 (by simp[E,a,c,d]) (hQ _ _ _ _ (.of (.v _)) ⟨false,h,rfl⟩)
  replace h:=h.2 d;apply J.skip;refine zS fun k' V=>?_
  obtain⟨ap,h⟩:=h;obtain⟨C,a0,h⟩:=aH h;simp[E,a,c,d];refine zA ((eX eG ap).pure) e8 (.cons (oq false eG) .nil) (by simp[E,a,c,d]) ?_;rintro _ rfl;rw[<- a0];obtain⟨a1,h⟩:=h;obtain⟨r36,a2,h⟩:=aH h;simp[E,a,c,d];refine zA (qX l C a1) e11 (.cons (oq true l) (.cons (oq true C) .nil)) (by simp[E,a,c,d]) ?_;rintro _ rfl;rw[<- a2];simp[E,a,c,d];apply V;refine J.ite (b:=(!r36)) (by simp[E,a,c,d]) (fun e=>?_) (fun e=>?_)
  ·have e:r36=false:=by simpa using e
   replace h:=h.2 e;refine zE fun k' V=>?_
   simp[E,a,c,d,e];apply V;exact J.bX (v:=bool false) func3 results3 (by simp[E,a,c,d,e]) (hQ _ _ _ _ (.of (.v _)) ⟨false,h,rfl⟩)
  have e:r36=true:=by simpa using e
  replace h:=h.1 e;apply zK;refine J.fv av aE bL (by decide) (by kernel_rfl) fun k' V=>?_
  obtain⟨a3,h⟩:=h;obtain⟨r38,a4,h⟩:=aH h;simp[E,a,c,d,e];refine bh.b7 av aE ((fN aB a3).pure) e9 (.cons (dT false aB) .nil) (by decide) rfl (by simp[E,a,c,d,e]) ?_;rw[<- a4];obtain⟨a5,h⟩:=h;obtain⟨t,a9,h⟩:=aH h;simp[E,a,c,d,e];refine bh.b7 av aE (rW o r38 a5) e12 (.cons (dT true o) (.cons (dT true r38) .nil)) (by decide) rfl (by simp[E,a,c,d,e]) ?_;rw[<- a9];simp[E,a,c,d,e];apply V;refine J.ite (b:=(!t)) (by simp[E,a,c,d,e]) (fun i=>?_) (fun i=>?_)
  ·have i:t=false:=by simpa using i
   replace h:=h.2 i;refine zE fun k' V=>?_
   simp[E,a,c,d,e,i];apply V;exact J.bX (v:=bool false) func3 results3 (by simp[E,a,c,d,e,i]) (hQ _ _ _ _ (.of (.v _)) ⟨false,h,rfl⟩)
  have i:t=true:=by simpa using i
  replace h:=h.1 i;apply J.skip;refine zE fun k' V=>?_
  simp[E,a,c,d,e,i];apply V;exact J.bX (v:=bool true) func3 results3 (by simp[E,a,c,d,e,i]) (hQ _ _ _ _ (.of (.v _)) ⟨true,h,rfl⟩)
 replace h:=am;obtain⟨bd,be,h⟩:=aH h;have f42:=jy (k:=.i64) be;rcases Bool.eq_false_or_eq_true bd with j | j
 ·replace h:=h.1 j;simp[E,a,c,f42,j,-aw];exact B (true) _ _ _ h (by refine⟨?_,?_,?_⟩<;>simp[E,a,c,f42,j,-aw])
 replace h:=h.2 j;obtain⟨bi,bk,h⟩:=aH h;have f44:=bb_neq bk;simp[E,a,c,f42,f44,j,-kq,-aw];exact B (bi) _ _ _ h (by refine⟨?_,?_,?_⟩<;>simp[E,a,c,f42,f44,j,-kq,-aw])
theorem yJ (eG:List Control) (aB:aG) (hp:pq eG aB):aC prog 3 [.list false (eG.map Control.cells),.agg (bC false aB)] (fun r=>r=bool (B9 eG aB)):=(uk eG aB _ (Ae eG aB hp)).mono (by rintro _ ⟨_,rfl,rfl⟩;rfl)
end Go.Ab.Vg
namespace Go.Ab
open Go.Proofs
theorem qZ (a0:cV) (a1:aG) (h0:xK a0) (h1:og a1):aC prog 3 [bt false a0,cG false a1] (fun r=>r=bool true):=Vg.yJ a0 a1 ⟨h0,h1⟩
end Go.Ab
