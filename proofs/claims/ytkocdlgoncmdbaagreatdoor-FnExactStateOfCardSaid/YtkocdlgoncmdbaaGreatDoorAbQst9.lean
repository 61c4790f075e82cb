/- Merged texts (9 of 18) of the proof that ends in Sty: Kp Ma Mb Mc Uj Uk Lm Nm Gm Gn. -/
import Derived.Test.YtkocdlgoncmdbaaGreatDoorAbQst8
import Derived.Laws.BytesString
open Go.Proofs.Tryz
set_option linter.unusedSimpArgs false
set_option linter.unusedVariables false
namespace Go.Ab.Vg
open Go.Proofs
section
variable {P:Program} {f:FuncId} {N:Nat} {k:List Item} {Q:au->ax->Nat->Prop} {Ty:Types} {l:List Oper} {O:Env} {H:ax} {n:Nat}
theorem bz.callS2 {ops:Array Oper} {d:Option Tmp} {g:Operand} {args:Array Operand} {ats:Array TypeId} {ty:TypeId} {pos:String} {af:Array Edge} {post:au->ax->Nat->Prop} {f':FuncId} {as1:List au}
  (h:bE P f' as1 H n post) (c9:a8 P f') (hd:dC N d=true) (hg:O.ev g = .fn (.func f') [] []) (has:args.toList.map O.ev=as1)
  (hk:∀ v H1 U,post v H1 U->bz P f N k Q ops l (O.put d v) H1 U):bz P f N k Q ops (⟨d,.call ⟨.value g,args,ats⟩,ty,pos,af,none⟩::l) O H n:=by
 refine fA.op rfl hd ((aN.call (first:=[]) (captured:=[]) hg c9 (by rw[has,List.nil_append,List.append_nil];exact h)).mono ?_);exact hk
end
theorem qg {b:I} {φ:au->au} (hφ:∀ a,fY a->φ a=a) (p:dx):(bQ b p).map φ=bQ b (p.1,φ p.2):=by
 rw[bQ,AT hφ (Da _) (.inr trivial),hφ _ (Da _),Option.map_some,hφ _ (Da _)];rfl
theorem DB {b:I} {a:fZ} {v w:au} (h:Sub v w):jK (bQ b (a,v)) (bQ b (a,w)):=
 jK.append (.refl _) (jK.append (.refl _) (.cons (.refl _) (.cons (.refl _) (.cons h .nil))))
def eB (b:I) (a:fZ):List au:=bQ b (a,.list true (a.code.map av))
def jU (b:I) (a:fZ) (j:Nat):List fZ:=(((List.range j).map fun i:Nat=>(i:Int)).filter (dj b a.s.pl)).map fun k=>⟨a.order++[k],bJ b a.s k,a.code++(bt b a.s k).1⟩
theorem BC (b:I) (a:fZ):jU b a b.nodes.length=fL b a:=rfl
theorem Bk {b:I} {a:fZ} {j:Nat} (h:dj b a.s.pl (j:Int)=true):jU b a (j+1)=jU b a j++[⟨a.order++[(j:Int)],bJ b a.s j,a.code++(bt b a.s j).1⟩]:=by simp[jU,List.range_succ,h]
theorem xw {b:I} {a:fZ} {j:Nat} (h:dj b a.s.pl (j:Int)=false):jU b a (j+1)=jU b a j:=by simp[jU,List.range_succ,h]
structure Df (b:I) (C L ai X:Id) (m i j len qlen:Nat) (rows qrows:List (List au)) (xrow:List au) (O:Env) (H:ax):Prop where
 r1:O 1 = .ptr (0,1) 1 0 0
 r3:O 3 = .ptr C 1 0 0
 r5:O 5=int m
 r6:O 6 = .arr ai qlen 0 qlen
 r8:O 8 = .ptr X 1 0 0
 r24:O 24=int b.nodes.length
 r25:O 25=int m
 r29:O 29 = .arr L len 0 len
 r30:O 30=int len
 r31:O 31=int i
 r36:O 36 = .list false (b.nodes.map (az.cells false))
 r37:O 37=int b.nodes.length
 r38:O 38=int j
 mB:H (0,1)=some ⟨6,[I.cells false b]⟩
 mC:∃ cs,H C=some ⟨9,[cs]⟩/\cs.length=9
 mL:H L=some ⟨10,rows⟩
 mM:H ai=some ⟨10,qrows⟩
 mX:H X=some ⟨10,[xrow]⟩
theorem Df.keep {b:I} {C L ai X:Id} {m i j len qlen:Nat} {rows qrows:List (List au)} {xrow:List au} {O ρ':Env} {H H':ax} (h:Df b C L ai X m i j len qlen rows qrows xrow O H)
  (hr:∀ t ∈ [1,3,5,6,8,24,25,29,30,31,36,37,38],ρ' t=O t) (hH:∀ k ∈ [X,ai,L,C,(0,1)],H' k=H k):Df b C L ai X m i j len qlen rows qrows xrow ρ' H' where
 r1:=(hr 1 (by simp)).trans h.r1
 r3:=(hr 3 (by simp)).trans h.r3
 r5:=(hr 5 (by simp)).trans h.r5
 r6:=(hr 6 (by simp)).trans h.r6
 r8:=(hr 8 (by simp)).trans h.r8
 r24:=(hr 24 (by simp)).trans h.r24
 r25:=(hr 25 (by simp)).trans h.r25
 r29:=(hr 29 (by simp)).trans h.r29
 r30:=(hr 30 (by simp)).trans h.r30
 r31:=(hr 31 (by simp)).trans h.r31
 r36:=(hr 36 (by simp)).trans h.r36
 r37:=(hr 37 (by simp)).trans h.r37
 r38:=(hr 38 (by simp)).trans h.r38
 mB:=(hH _ (by simp)).trans h.mB
 mC:=by obtain⟨cs,h1,h2⟩:=h.mC;exact⟨cs,(hH _ (by simp)).trans h1,h2⟩
 mL:=(hH _ (by simp)).trans h.mL
 mM:=(hH _ (by simp)).trans h.mM
 mX:=(hH _ (by simp)).trans h.mX
theorem vl {qs:List dx} {i:Nat} {p:dx} (h:i<qs.length):ez (qs.set i p)=ez (qs.take i)++oI p.2 p.1.code::ez (qs.drop (i+1)):=by
 rw[List.set_eq_take_append_cons_drop,if_pos h];simp only[ez,List.map_append,List.map_cons]
theorem yX {qs:List dx} {i:Nat} (h:i<qs.length):ez qs=ez (qs.take i)++oI qs[i].2 qs[i].1.code::ez (qs.drop (i+1)):=by
 have h1:=vl (p:=qs[i]) h;rw[List.set_getElem_self] at h1;exact h1
theorem Df.fz {b:I} {C L ai X:Id} {m i j len qlen:Nat} {rows qrows:List (List au)} {xrow:List au} {O:Env} {H H':ax} {φ:au->au} {ids:List Id} (h:Df b C L ai X m i j len qlen rows qrows xrow O H)
  (hin:∀ k ∈ [X,ai,L,C,(0,1)],k ∈ ids) (hH:∀ k ∈ ids,H' k=(H k).map fun o=>⟨o.size,o.els.map fun e=>e.map φ⟩) (hφ:∀ a,fY a->φ a=a) (hp:∀ i ∈ ids,∀ g x y,φ (.ptr i g x y) = .ptr i g x y/\φ (.arr i g x y) = .arr i g x y)
  (h1:rows.map (fun e=>e.map φ)=rows) (h2:qrows.map (fun e=>e.map φ)=qrows) (h3:xrow.map φ=xrow):Df b C L ai X m i j len qlen rows qrows xrow (fun t=>φ (O t)) H' where
 r1:=by show φ (O 1)=_;rw[h.r1];exact (hp _ (hin _ (by simp)) _ _ _).1
 r3:=by show φ (O 3)=_;rw[h.r3];exact (hp _ (hin _ (by simp)) _ _ _).1
 r5:=by show φ (O 5)=_;rw[h.r5];exact hφ _ (.v _)
 r6:=by show φ (O 6)=_;rw[h.r6];exact (hp _ (hin _ (by simp)) _ _ _).2
 r8:=by show φ (O 8)=_;rw[h.r8];exact (hp _ (hin _ (by simp)) _ _ _).1
 r24:=by show φ (O 24)=_;rw[h.r24];exact hφ _ (.v _)
 r25:=by show φ (O 25)=_;rw[h.r25];exact hφ _ (.v _)
 r29:=by show φ (O 29)=_;rw[h.r29];exact (hp _ (hin _ (by simp)) _ _ _).2
 r30:=by show φ (O 30)=_;rw[h.r30];exact hφ _ (.v _)
 r31:=by show φ (O 31)=_;rw[h.r31];exact hφ _ (.v _)
 r36:=by show φ (O 36)=_;rw[h.r36];exact hφ _ (mN false b _ (by simp[I.cells,aB]))
 r37:=by show φ (O 37)=_;rw[h.r37];exact hφ _ (.v _)
 r38:=by show φ (O 38)=_;rw[h.r38];exact hφ _ (.v _)
 mB:=by
  have hBm:(I.cells false b).map φ=I.cells false b:=by
   conv=>rhs;rw[<- List.map_id (I.cells false b)]
   exact List.map_congr_left fun a ha=>hφ a (mN false b a ha)
  rw[hH _ (hin _ (by simp)),h.mB];simp[hBm]
 mC:=by obtain⟨cs,q1,q2⟩:=h.mC;exact⟨cs.map φ,by rw[hH _ (hin _ (by simp)),q1];simp,by simp[q2]⟩
 mL:=by rw[hH _ (hin _ (by simp)),h.mL];simp[h1]
 mM:=by rw[hH _ (hin _ (by simp)),h.mM];simp[h2]
 mX:=by rw[hH _ (hin _ (by simp)),h.mX];simp[h3]
section
theorem e144:a8 prog 144:=a8.of func144 (by kernel_rfl) rfl
theorem eG.pts {H:ax} {n:Nat} {as1 bs:List au} (hl:as1.length=bs.length) (h:∀ (i:Nat) (a c:au),as1[i]?=some a->bs[i]?=some c->eG H n a c):eG H n (.agg as1) (.agg bs)/\eG H n (.tup as1) (.tup bs):=by
 constructor
 ·intro c x hH hn g r c' hw hm hB;cases r with
  | agg _ vs hl' hr=>
  refine .agg _ vs (by omega) fun i a x ha hx=>?_
  obtain⟨a0,ha0⟩:=bk (l:=as1) (i:=i) (by rw[hl];exact (List.getElem?_eq_some_iff.1 ha).1);exact h i a0 a ha0 ha c x hH hn g (hr i a0 x ha0 hx) c' hw hm hB
 ·intro c x hH hn g r c' hw hm hB;cases r with
  | tup _ vs hl' hr=>
  refine .tup _ vs (by omega) fun i a x ha hx=>?_
  obtain⟨a0,ha0⟩:=bk (l:=as1) (i:=i) (by rw[hl];exact (List.getElem?_eq_some_iff.1 ha).1);exact h i a0 a ha0 ha c x hH hn g (hr i a0 x ha0 hx) c' hw hm hB
theorem eG.ints (H:ax) (n:Nat) (l:List Int):eG H n (.list true (l.map av)) (.list true (l.map av)):=.of (jk.fresh (by
 rw[yn];intro e he a ha;obtain⟨x,_,rfl⟩:=List.mem_map.1 he;simp only[av,List.mem_singleton] at ha;subst ha;exact .v _))
def m9 (b:I):List fZ:=fw ((bR b b.nodes.length).map (cX b))
instance:Inhabited fZ:=⟨⟨[],⟨[],[],0⟩,[]⟩⟩
def a6 (b:I):fZ:=c5 (m9 b) (at' (m9 b) 0)
def fQ (d:dx) (l:List dx):dx:=l.foldl (fun best x=>if cmpL x.1.order best.1.order<0 then x else best) d
theorem CE (d:dx) (l:List dx):(fQ d l).1=c5 (l.map (·.1)) d.1:=by
 induction l generalizing d with
 | nil=>rfl
 | cons x l ih=>
  have h1:fQ d (x::l)=fQ (if cmpL x.1.order d.1.order<0 then x else d) l:=rfl;have h2:c5 ((x::l).map (·.1)) d.1=c5 (l.map (·.1)) (if cmpL x.1.order d.1.order<0 then x.1 else d.1):=rfl;rw[h1,h2,ih]
  congr 1
  split<;>rfl
theorem Cx (d:dx) (l:List dx):fQ d l=d\/fQ d l ∈ l:=by
 induction l generalizing d with
 | nil=>exact .inl rfl
 | cons x l ih=>
  have h1:fQ d (x::l)=fQ (if cmpL x.1.order d.1.order<0 then x else d) l:=rfl;rw[h1];rcases ih (if cmpL x.1.order d.1.order<0 then x else d) with h | h
  ·rw[h]
   split
   ·exact .inr (by simp)
   ·exact .inl rfl
  ·exact .inr (by simp[h])
set_option maxRecDepth 100000 in
theorem nZ {sig:cZ} {b:I} (hv:bA sig b) (he:nJ b) (hdn:fh b):bE prog 105 [.agg (I.cells false b)] bw 0 (fun v _ _=>∃ q,Ab.aM q=true/\v = .tup [.list true ((a6 b).order.map av),.agg (cD none b (.list true ((a6 b).s.es.map av)) (.list true ((a6 b).s.pl.map av)) q)]):=by
 have hn8:=hv.len;refine bE.of func105 rfl ntmps105 (by simp) fun Q hQ=>?_
 have M:Sep bw 0 [] []:=Sep.nil (by simp);refine zE fun _ V=>?_
 simp[I.cells];apply V;refine J.cut (fun O H n=>∃ C:Id,O 1 = .ptr (0,1) 1 0 0/\O 3 = .ptr C 1 0 0/\C ≠ (0,1)/\H (0,1)=some ⟨6,[I.cells false b]⟩/\(∃ cs,H C=some ⟨9,[cs]⟩/\cs.length=9)/\Sep H n [] [C,(0,1)]) ⟨(1,3),by simp,by simp,by simp,by simp[I.cells],⟨_,by simp;rfl,rfl⟩,Sep.var (Sep.var M)⟩ ?_;clear V M;rintro O H n ⟨C,r1,r3,hCB,mB,⟨cs,mC,hcs⟩,M⟩;refine J.seqK ay (by decide) fun _ V=>?_
 refine bz.lF (v:=.agg (I.cells false b)) ay (by decide) rfl (by simp[r1,mB,I.cells]) ?_;refine bz.callS2 (xX (b:=b) (by omega) M) e141 (by decide) rfl (by simp) ?_;rintro _ H1 U ⟨X,rfl,hX0,mX,sp2,fr2,hn1⟩;refine bz.lF (v:=.ptr X 1 0 0) ay (by decide) rfl (by simp[mX]) ?_;refine bz.lF (v:=.agg (cD none b (.v (.slice none 0 0)) (.list true ((List.replicate b.nodes.length (-1:Int)).map av)) (.v (.slice none 0 0)))) ay (by decide) rfl (by simp[mX,cD,I.cells]) ?_;refine bz.lF (v:=.agg (cD (some (.v (.slice none 0 0))) b (.v (.slice none 0 0)) (.list true ((List.replicate b.nodes.length (-1:Int)).map av)) (.v (.slice none 0 0)))) ay (by decide) rfl (by simp[cD,I.cells]) ?_;refine bz.op ay (by decide) (by decide) rfl (oe (v:=.arr (U,21) 1 0 1) (H':=H1.set (U,21) ⟨10,[cD (some (.v (.slice none 0 0))) b (.v (.slice none 0 0)) (.list true ((List.replicate b.nodes.length (-1:Int)).map av)) (.v (.slice none 0 0))]⟩) (n':=U+1) ay (by simp[jd,cD,I.cells,List.range_succ])).1 ?_;rintro _ _ _ ⟨rfl,rfl,rfl⟩;simp;apply V;refine J.subX (X:=(U,21)) (rows':=[bQ b (⟨[],jj b,[]⟩,.v (.slice none 0 0))]) (ax.bl _ _ _) rfl (fun i e e' he he'=>?_) ?_
 ·match i with
  | 0=>
   simp only[List.getElem?_cons_zero,Option.some.injEq] at he he';subst he he';exact .cons (Sub.nil true) (@jK.append (I.cells false b) (I.cells false b) _ _ (.refl _) (.cons (Sub.nil true) (.cons (by simp only[jj,List.map_replicate];exact Sub.refl _) (.refl _))))
  | i+1=>simp at he
 rw[ax.set_set];have hNi:∀ i ∈ [C,(0,1)],i ≠ (U,21):=fun i hi h=>by have:=sp2.1 i (List.mem_cons_of_mem _ hi);rw[h] at this;simp at this
 have mB1:(H1.set (U,21) ⟨10,[bQ b (⟨[],jj b,[]⟩,.v (.slice none 0 0))]⟩) (0,1)=some ⟨6,[I.cells false b]⟩:=by rw[ax.aG _ _ (hNi _ (by simp)),fr2 _ (by simp)];exact mB
 have mC1:(H1.set (U,21) ⟨10,[bQ b (⟨[],jj b,[]⟩,.v (.slice none 0 0))]⟩) C=some ⟨9,[cs]⟩:=by rw[ax.aG _ _ (hNi _ (by simp)),fr2 _ (by simp)];exact mC
 have sp3:=Sep.ju (l:=[.c]) (Sep.sub (dK:=[(U,21),C,(0,1)]) (Sep.var (d:=21) (o:=⟨10,[bQ b (⟨[],jj b,[]⟩,.v (.slice none 0 0))]⟩) sp2) (by simp +contextual));have mL1:=ax.bl H1 (U,21) ⟨10,[bQ b (⟨[],jj b,[]⟩,.v (.slice none 0 0))]⟩;generalize H1.set (U,21) ⟨10,[bQ b (⟨[],jj b,[]⟩,.v (.slice none 0 0))]⟩=H2 at mB1 mC1 sp3 mL1;refine zS fun _ V=>?_
 have f1:=fun H=>aI (H:=H) (fr:=false) (f:=az.cells false) (l:=b.nodes) b9 rfl
 simp[r1,mB1,I.cells,aB,f1,-aL];apply V;refine J.block (J.bO b.nodes.length (fun m O H n=>∃ (L:Id) (ps:List dx),O 1 = .ptr (0,1) 1 0 0/\O 3 = .ptr C 1 0 0/\O 4 = .arr L ps.length 0 ps.length/\O 24=int b.nodes.length/\O 25=int m/\H (0,1)=some ⟨6,[I.cells false b]⟩/\(∃ cs,H C=some ⟨9,[cs]⟩/\cs.length=9) /\
   H L=some ⟨10,ps.map (bQ b)⟩/\L ∉ [C,(0,1)]/\ps.map (·.1)=bR b m/\Sep H n (ez ps) [L,C,(0,1)])
  ⟨(U,21),[(⟨[],jj b,[]⟩,.v (.slice none 0 0))],by simp[r1],by simp[r3],by simp,by simp,by simp,mB1,⟨_,mC1,hcs⟩,mL1,fun h=>hNi _ h rfl,rfl,sp3⟩ ?_)
 clear V f1 mB1 mC1 sp3 mL1 hNi hn1 fr2 sp2 mX hX0 r1 r3 mB mC M;rintro m O H n hm ⟨L,ps,r1,r3,r4,r24,r25,mB,mC,mL,hLi,hps,M⟩ IH;refine zE fun _ V=>?_
 simp[r24,r25];apply V;apply J.seq;refine J.ite rfl (fun hc1=>?_) (fun hc1=>?_)
 ·have hc1:m<b.nodes.length:=by simpa using hc1
  have hok:=nw hv m hm;apply zK;apply J.block;refine J.cut (fun O H n=>O 1 = .ptr (0,1) 1 0 0/\O 3 = .ptr C 1 0 0/\O 4 = .arr L ps.length 0 ps.length/\O 24=int b.nodes.length/\O 25=int m/\H (0,1)=some ⟨6,[I.cells false b]⟩/\(∃ cs,H C=some ⟨9,[cs]⟩/\cs.length=9)/\H L=some ⟨10,ps.map (bQ b)⟩/\Sep H n (ez ps) [L,C,(0,1)]) ⟨by simp[r1],by simp[r3],by simp[r4],by simp[r24],by simp[r25],mB,mC,mL,M⟩ ?_;clear V r1 r3 r4 r24 r25 mB mC mL M;rintro O H n ⟨r1,r3,r4,r24,r25,mB,mC,mL,M⟩;have spE:Sep H n ((ps.map fun p=>(p.2,p.1.code)).map fun e=>oI e.1 e.2) [L,C,(0,1)]:=by simpa[ez,List.map_map,Function.comp_def] using M
  refine J.Hf _ spE fun H1 φ sp1 fr1 hφ hsub hptr=>?_
  have mB1:=fr1 (0,1) (by simp);have mL1:=fr1 L (by simp);obtain⟨cs,mC,hcs⟩:=mC;have mC1:=fr1 C (by simp);have hBm:(I.cells false b).map φ=I.cells false b:=by
   conv=>rhs;rw[<- List.map_id (I.cells false b)]
   exact List.map_congr_left fun a ha=>hφ a (mN false b a ha)
  rw[mB] at mB1;rw[mL] at mL1;rw[mC] at mC1;simp only[Option.map_some,List.map_cons,List.map_nil,hBm] at mB1 mC1;simp only[Option.map_some,List.map_map,Function.comp_def,qg hφ] at mL1;refine J.subX (X:=L) (rows':=(ps.map (·.1)).map (eB b)) mL1 (by simp) (fun i e e' he he'=>?_) ?_
  ·rw[List.getElem?_map] at he;rw[List.map_map,List.getElem?_map] at he';cases hpi:ps[i]? with
   | none=>rw[hpi] at he;cases he
   | some p=>
    rw[hpi] at he he';simp only[Option.map_some,Option.some.injEq,Function.comp] at he he';subst he he';exact DB (hsub (p.2,p.1.code) (List.mem_map.2 ⟨p,List.mem_of_getElem? hpi,rfl⟩))
  have hLn:∀ i ∈ [C,(0,1)],i ≠ L:=fun i hi h=>hLi (h ▸ hi)
  refine J.cut (fun O H n=>O 1 = .ptr (0,1) 1 0 0/\O 3 = .ptr C 1 0 0/\O 4 = .arr L ps.length 0 ps.length/\O 24=int b.nodes.length/\O 25=int m/\H (0,1)=some ⟨6,[I.cells false b]⟩/\(∃ cs,H C=some ⟨9,[cs]⟩/\cs.length=9)/\H L=some ⟨10,(bR b m).map (eB b)⟩/\Sep H n [] [L,C,(0,1)])
   ⟨by simp only[r1];exact (hptr _ (by simp) _ _ _).1,by simp only[r3];exact (hptr _ (by simp) _ _ _).1,by simp only[r4];exact (hptr _ (by simp) _ _ _).2,by simp only[r24];exact hφ _ (.v _),by simp only[r25];exact hφ _ (.v _),by rw[ax.aG _ _ (hLn _ (by simp))];exact mB1,⟨cs.map φ,by rw[ax.aG _ _ (hLn _ (by simp))];exact mC1,by simp[hcs]⟩,by rw[ax.bl,hps],Sep.bH sp1 (by simp)⟩ ?_
  have hpl:ps.length=(bR b m).length:=by rw[<- hps];simp
  rw[hpl];clear r1 r3 r4 r24 r25 mB mC mL M mB1 mC1 mL1 sp1 fr1 hsub hptr hφ spE hps hpl hBm;clear ps;rintro O H n ⟨r1,r3,r4,r24,r25,mB,mC,mL,M⟩;refine zE fun _ V=>?_
  simp[r25];apply V;refine zE fun _ V=>?_
  simp;apply V;have hnN:∀ i ∈ [L,C,(0,1)],i ≠ (n,28):=fun i hi h=>by have:=M.1 i hi;rw[h] at this;simp at this
  obtain⟨cs,mC,hcs⟩:=mC;have mN1:=ax.bl H (n,28) ⟨10,[]⟩;have mB1:(H.set (n,28) ⟨10,[]⟩) (0,1)=some ⟨6,[I.cells false b]⟩:=by rw[ax.aG _ _ (hnN _ (by simp))];exact mB
  have mC1:(H.set (n,28) ⟨10,[]⟩) C=some ⟨9,[cs]⟩:=by rw[ax.aG _ _ (hnN _ (by simp))];exact mC
  have mL1:(H.set (n,28) ⟨10,[]⟩) L=some ⟨10,(bR b m).map (eB b)⟩:=by rw[ax.aG _ _ (hnN _ (by simp))];exact mL
  have sp1:=Sep.var (d:=28) (o:=⟨10,[]⟩) M;generalize H.set (n,28) ⟨10,[]⟩=H1 at mN1 mB1 mC1 mL1 sp1;refine zS fun _ V=>?_
  simp[r4,mL1];apply V;refine J.block (J.bO (bR b m).length (fun i O H n=>∃ (ai:Id) (qs:List dx),O 1 = .ptr (0,1) 1 0 0/\O 3 = .ptr C 1 0 0/\O 5=int m/\O 6 = .arr ai qs.length 0 qs.length/\O 24=int b.nodes.length/\O 25=int m/\O 29 = .arr L (bR b m).length 0 (bR b m).length/\O 30=int (bR b m).length/\O 31=int i /\
    H (0,1)=some ⟨6,[I.cells false b]⟩/\(∃ cs,H C=some ⟨9,[cs]⟩/\cs.length=9)/\H L=some ⟨10,(bR b m).map (eB b)⟩/\H ai=some ⟨10,qs.map (bQ b)⟩/\ai ∉ [L,C,(0,1)]/\qs.map (·.1)=((bR b m).take i).flatMap (fL b)/\Sep H n (ez qs) [ai,L,C,(0,1)])
   ⟨(n,28),[],by simp[r1],by simp[r3],by simp,by simp,by simp[r24],by simp[r25],by simp,by simp,by simp,mB1,⟨cs,mC1,hcs⟩,mL1,mN1,fun h=>hnN _ h rfl,by simp,sp1⟩ ?_)
  clear V r1 r3 r4 r24 r25 mB mC mL M mN1 mB1 mC1 mL1 sp1 hnN hcs;clear cs;rintro i O H n hi ⟨ai,qs,r1,r3,r5,r6,r24,r25,r29,r30,r31,mB,mC,mL,mM,hMi,hqs,M⟩ IH1;refine zE fun _ V=>?_
  simp[r30,r31];apply V;apply J.seq;refine J.ite rfl (fun hc2=>?_) (fun hc2=>?_)
  ·have hc2:i<(bR b m).length:=by simpa using hc2
   apply zK;apply J.block;have ha:=hok _ (List.getElem_mem hc2);have htk:((bR b m).take (i+1)).flatMap (fL b)=((bR b m).take i).flatMap (fL b)++fL b (bR b m)[i]:=by rw[<- List.take_append_getElem hc2,List.flatMap_append];simp
   have hrow:((bR b m).map (eB b))[i]?=some (eB b (bR b m)[i]):=by rw[List.getElem?_map,List.getElem?_eq_getElem hc2];rfl
   generalize ham:(bR b m)[i]=a at ha htk hrow;refine zE fun _ V=>?_
   simp[r29,r31,mL,hc2,hrow,ham,eB,bQ,cD,I.cells,aB,encI,encS,aD];apply V;have hnX:∀ i ∈ [ai,L,C,(0,1)],i ≠ (n,8):=fun i hi h=>by have:=M.1 i hi;rw[h] at this;simp at this
   obtain⟨cs,mC,hcs⟩:=mC;refine J.cut (fun O H n'=>O 1 = .ptr (0,1) 1 0 0/\O 3 = .ptr C 1 0 0/\O 5=int m/\O 6 = .arr ai qs.length 0 qs.length/\O 8 = .ptr (n,8) 1 0 0/\O 24=int b.nodes.length/\O 25=int m/\O 29 = .arr L (bR b m).length 0 (bR b m).length/\O 30=int (bR b m).length/\O 31=int i /\
    H (0,1)=some ⟨6,[I.cells false b]⟩/\(∃ cs,H C=some ⟨9,[cs]⟩/\cs.length=9)/\H L=some ⟨10,(bR b m).map (eB b)⟩/\H ai=some ⟨10,qs.map (bQ b)⟩/\H (n,8)=some ⟨10,[eB b a]⟩/\n<n'/\Sep H n' (ez qs) [(n,8),ai,L,C,(0,1)])
    ⟨by simp[r1],by simp[r3],by simp[r5],by simp[r6],by simp,by simp[r24],by simp[r25],by simp[r29],by simp[r30],by simp[r31],by rw[ax.aG _ _ (hnX _ (by simp))];exact mB,⟨cs,by rw[ax.aG _ _ (hnX _ (by simp))];exact mC,hcs⟩,by rw[ax.aG _ _ (hnX _ (by simp))];exact mL,by rw[ax.aG _ _ (hnX _ (by simp))];exact mM,by simp[eB,bQ,cD,I.cells,aB,encI,encS,aD],by omega,Sep.var M⟩ ?_
   clear V r1 r3 r5 r6 r24 r25 r29 r30 r31 mB mC mL mM M hcs;clear cs;generalize hXe:(n,8)=X at hnX;rintro O H n' ⟨r1,r3,r5,r6,r8,r24,r25,r29,r30,r31,mB,mC,mL,mM,mX,hnn,M⟩;refine zE fun _ V=>?_
   have f1:=fun H=>aI (H:=H) (fr:=false) (f:=az.cells false) (l:=b.nodes) b9 rfl
   simp[r1,mB,I.cells,aB,f1,-aL];apply V;refine J.block (J.bO b.nodes.length (fun j O H n=>∃ (ai:Id) (qs:List dx),O 1 = .ptr (0,1) 1 0 0/\O 3 = .ptr C 1 0 0/\O 5=int m/\O 6 = .arr ai qs.length 0 qs.length/\O 8 = .ptr X 1 0 0/\O 24=int b.nodes.length/\O 25=int m/\O 29 = .arr L (bR b m).length 0 (bR b m).length/\O 30=int (bR b m).length/\O 31=int i /\
    O 36 = .list false (b.nodes.map (az.cells false))/\O 37=int b.nodes.length/\O 38=int j /\
    H (0,1)=some ⟨6,[I.cells false b]⟩/\(∃ cs,H C=some ⟨9,[cs]⟩/\cs.length=9)/\H L=some ⟨10,(bR b m).map (eB b)⟩/\H ai=some ⟨10,qs.map (bQ b)⟩/\H X=some ⟨10,[eB b a]⟩/\ai ∉ [L,C,(0,1)]/\X ∉ [ai,L,C,(0,1)]/\qs.map (·.1)=((bR b m).take i).flatMap (fL b)++jU b a j/\Sep H n (ez qs) [X,ai,L,C,(0,1)])
    ⟨ai,qs,by simp[r1],by simp[r3],by simp[r5],by simp[r6],by simp[r8,hXe],by simp[r24],by simp[r25],by simp[r29],by simp[r30],by simp[r31],by simp,by simp,by simp,mB,mC,mL,mM,hXe ▸ mX,hMi,fun h=>hnX _ h rfl,by rw[hqs];simp[jU],hXe ▸ M⟩ ?_)
   clear V f1 r1 r3 r5 r6 r8 r24 r25 r29 r30 r31 mB mC mL mM mX M hqs hMi hnX hXe hnn;clear qs ai;rintro j O H n hj ⟨ai,qs,r1,r3,r5,r6,r8,r24,r25,r29,r30,r31,r36,r37,r38,mB,mC,mL,mM,mX,hMi,hXi,hqs,M⟩ IH2;refine zE fun _ V=>?_
   simp[r37,r38];apply V;apply J.seq;refine J.ite rfl (fun hc3=>?_) (fun hc3=>?_)
   ·have hc3:j<b.nodes.length:=by simpa using hc3
    apply zK;apply J.block;have hjr:0<=(j:Int)/\(j:Int)<b.nodes.length:=⟨by omega,by omega⟩
    refine zE fun _ V=>?_
    have f1:=fun H=>aP (H:=H) (fr:=false) (f:=az.cells false) (k:=.i64) (l:=b.nodes) (i:=(j:Int)) b9 (fun _=>rfl) hjr rfl
    simp[r36,r38,f1,az.cells,encI,-ar];apply V;have hS:Df b C L ai X m i j (bR b m).length qs.length ((bR b m).map (eB b)) (qs.map (bQ b)) (eB b a) O H:=⟨r1,r3,r5,r6,r8,r24,r25,r29,r30,r31,r36,r37,r38,mB,mC,mL,mM,mX⟩
    have hnY:∀ i ∈ [X,ai,L,C,(0,1)],i ≠ (n,10):=fun i hi h=>by have:=M.1 i hi;rw[h] at this;simp at this
    generalize hx:at' b.nodes (j:Int)=x;refine J.cut (fun O H n'=>Df b C L ai X m i j (bR b m).length qs.length ((bR b m).map (eB b)) (qs.map (bQ b)) (eB b a) O H/\O 9=int j/\O 10 = .ptr (n,10) 1 0 0/\H (n,10)=some ⟨3,[az.cells false x]⟩/\Sep H n' (ez qs) [(n,10),X,ai,L,C,(0,1)])
     ⟨hS.keep (by simp) (fun k hk=>ax.aG _ _ (hnY k hk)),by simp,by simp,by simp[az.cells,encI,<- hx],Sep.var M⟩ ?_
    clear V f1 hS r1 r3 r5 r6 r8 r24 r25 r29 r30 r31 r36 r37 r38 mB mC mL mM mX M;generalize hYe:(n,10)=ak at hnY;clear hYe;rintro O H n ⟨hS,r9,N,mY,M⟩;refine J.FQ (fun ρ' H' n'=>Df b C L ai X m i j (bR b m).length qs.length ((bR b m).map (eB b)) (qs.map (bQ b)) (eB b a) ρ' H'/\ρ' 9=int j/\dj b a.s.pl (j:Int)=true/\Sep H' n' (ez qs) [X,ai,L,C,(0,1)]) (fun fin=>?_) ?_
    rotate_left
    ·rintro O H n ⟨hS,r9,hfr,M⟩;have hnZ:∀ i ∈ [X,ai,L,C,(0,1)],i ≠ (n,11):=fun i hi h=>by have:=M.1 i hi;rw[h] at this;simp at this
     have hol:a.order.length+1<=1073741824:=by have:=ha.ord;omega
     refine J.C3 (fun H n=>H X=some ⟨10,[eB b a]⟩) [9,10] (.free 0 (.free 1 (.free 2 (.free 3 (.free 4 (.free 5 (.free 6 (.free 7 (.free 8 (.aV 9 (.aV 10 .fin .stop) .stop))))))))))
      (fun ρ' H' n'=>Df b C L ai X m i j (bR b m).length qs.length ((bR b m).map (eB b)) (qs.map (bQ b)) (eB b a) ρ' H'/\ρ' 9=int j/\ρ' 11 = .ptr (n,11) 1 0 0/\H' (n,11)=some ⟨10,[cD (some (.list true ((a.order++[(j:Int)]).map av))) b (.list true (a.s.es.map av)) (.list true (a.s.pl.map av)) (.list true (a.code.map av))]⟩/\Sep H' n' (ez qs) [(n,11),X,ai,L,C,(0,1)]) bq (by decide) (by kernel_rfl) ?_ ?_
     ·refine RunT.free (.ptr X 1 0 0) rfl rfl hS.mX (fun H n hX=>aH ay (by rw[aF];simp[hS.r8,hX])) ?_;refine RunT.free (.list true (a.order.map av)) rfl rfl hS.mX (fun H n hX=>aH ay (by rw[aF];simp[hX,eB,bQ,cD])) ?_;refine RunT.free (.clip true (a.order.map mR)) rfl rfl hS.mX (fun H n hX=>aN.stillD (qQ true a.order H n) e142 (by simp) (by simp)) ?_;refine RunT.free (int j) rfl rfl hS.mX (fun H n hX=>aH ay (by rw[aF];simp[r9])) ?_;refine RunT.free (.list true [[int j]]) rfl rfl hS.mX (fun H n hX=>aH ay (by rw[aF];simp[List.range_succ])) ?_;refine RunT.free (.list true ((a.order++[(j:Int)]).map av)) rfl rfl hS.mX (fun H n hX=>aN.GH (t':=true) (fr:=true) (l:=a.order) (m:=[(j:Int)]) ay aS ⟨rfl,rfl,by decide⟩ (by simp) (by simp[av]) (by simp) (by simpa using hol)) ?_;refine RunT.free (.ptr X 1 0 1) rfl rfl hS.mX (fun H n hX=>aH ay (by rw[aF];simp[hS.r8,hX])) ?_;refine RunT.free (.agg (cD none b (.list true (a.s.es.map av)) (.list true (a.s.pl.map av)) (.list true (a.code.map av)))) rfl rfl hS.mX (fun H n hX=>aH ay (by rw[aF];simp[hX,eB,bQ,cD,I.cells])) ?_;refine RunT.free (.agg (cD (some (.list true ((a.order++[(j:Int)]).map av))) b (.list true (a.s.es.map av)) (.list true (a.s.pl.map av)) (.list true (a.code.map av)))) rfl rfl hS.mX (fun H n hX=>aH ay (by rw[aF];simp[cD,I.cells,aB,encI,encS,aD])) ?_;refine⟨?_,trivial⟩;refine RunT.step (v:=.ptr (n,11) 1 0 0) (H':=H.set (n,11) ⟨10,[[.v (.slice none 0 0),int 0,.v (.slice none 0 0),.v (.slice none 0 0),int 0,.v (.slice none 0 0),.v (.slice none 0 0),.v (.slice none 0 0),.v (.slice none 0 0),.v (.slice none 0 0)]]⟩) (n':=n+1) ay rfl rfl (by simp) (fun _=>by rw[ax.aG _ _ (hnZ X (by simp))];exact hS.mX) ?_;refine⟨?_,trivial⟩;refine RunT.step (v:=.undef) (H':=H.set (n,11) ⟨10,[cD (some (.list true ((a.order++[(j:Int)]).map av))) b (.list true (a.s.es.map av)) (.list true (a.s.pl.map av)) (.list true (a.code.map av))]⟩) (n':=n+1) ay rfl rfl ?_ (fun hl=>absurd (hl.symm.trans (show bn _ _ _=true by kernel_rfl)) (by decide)) ?_
      ·simp[cD,I.cells,aB,encI,encS,aD]
      exact RunT.fin ⟨hS.keep (by simp) (fun k hk=>ax.aG _ _ (hnZ k hk)),by simp[r9],by simp,ax.bl _ _ _,Sep.var M⟩
     ·generalize hZe:(n,11)=Z at hnZ;clear hZe hS M;rintro O H n ⟨hS,r9,u,mZ,M⟩;refine zE fun _ V=>?_
      simp[hS.r5,r9,u,mZ];have hE:=ha.s.es;have hcl:=ha.code;have h3:=hv.ga hjr;have hZi:Z ∉ [X,ai,L,C,(0,1)]:=fun h=>hnZ _ h rfl
      refine bz.vN ay (node_c (o:=some (.list true ((a.order++[(j:Int)]).map av))) (g:=1) (idx:=0) (k:=(j:Int)) (num:=(m:Int)) (code:=a.code) mZ rfl rfl (Sub.refl _) hjr (by rw[ha.s.pl];omega) (by rw[ha.s.pl];have:=(hv.lN hjr).2;omega) (hv.i64par hjr) (fun h0=>ha.s.at ⟨h0,by rw[ha.s.pl];have:=(hv.lN hjr).2;omega⟩) (hv.i64lnk hjr) (by omega) (by omega) (by rw[ha.s.pl];omega) hZi M) e143 (by decide) (by decide) rfl (by simp[dk]) ?_;rintro v1 H1 U ⟨vp,vc1,mZ1,sp1,fr1,hn1⟩;simp;apply V;have hpe:a.s.pl.set (j:Int).toNat (m:Int)=(bJ b a.s j).pl:=by simp[bJ,ha.s.num]
      rw[hpe] at sp1;generalize hat:(⟨a.order++[(j:Int)],bJ b a.s j,a.code++(bt b a.s j).1⟩:fZ)=at2;have mZ2:H1 Z=some ⟨10,[cD (some (.list true (at2.order.map av))) b (.list true (at2.s.es.map av)) vp vc1]⟩:=by rw[<- hat];exact mZ1
      have sp2:Sep H1 U (oI vp at2.s.pl::oI vc1 at2.code::ez qs) [Z,X,ai,L,C,(0,1)]:=by rw[<- hat];exact sp1
      refine J.cut (fun ρ' H' n'=>Df b C L ai X m i j (bR b m).length qs.length ((bR b m).map (eB b)) (qs.map (bQ b)) (eB b a) ρ' H'/\ρ' 11 = .ptr Z 1 0 0/\H' Z=some ⟨10,[cD (some (.list true (at2.order.map av))) b (.list true (at2.s.es.map av)) vp vc1]⟩/\Sep H' n' (oI vp at2.s.pl::oI vc1 at2.code::ez qs) [Z,X,ai,L,C,(0,1)])
       ⟨hS.keep (by simp) fr1,by simp[u],mZ2,sp2⟩ ?_
      clear V hS r9 u mZ M mZ1 mZ2 sp1 sp2 fr1 hn1;rintro O H n ⟨hS,u,mZ,M⟩;have hAI:F3 (oI vc1 at2.code::ez qs):=by
       intro e he;rcases List.mem_cons.1 he with rfl | he
       ·exact⟨_,_,rfl⟩
       ·obtain⟨q,_,rfl⟩:=List.mem_map.1 he;exact⟨_,_,rfl⟩
      refine J.fzS M hAI fun H1 φ sp1 fr1 hφ hkv hptr hsub=>?_
      have hvc:φ vc1=vc1:=hkv (oI vc1 at2.code) (by simp);have hvq:∀ q ∈ qs,φ q.2=q.2:=fun q hq=>hkv (oI q.2 q.1.code) (List.mem_cons_of_mem _ (List.mem_map.2 ⟨q,hq,rfl⟩))
      have hrl:∀ a:fZ,(eB b a).map φ=eB b a:=fun a=>by rw[eB,qg hφ,hφ _ (Da _)]
      have hS1:=hS.fz (by simp) fr1 hφ hptr (by rw[List.map_map];exact List.map_congr_left fun a _=>hrl a) (by rw[List.map_map];exact List.map_congr_left fun q hq=>by rw[Function.comp,qg hφ,hvq q hq]) (hrl a);have mZ1:=fr1 Z (by simp);rw[mZ] at mZ1;simp only[Option.map_some,List.map_cons,List.map_nil,AT hφ (Da _) (.inr trivial),hφ _ (Da _),hvc] at mZ1;refine J.subX (X:=Z) (rows':=[bQ b (at2,vc1)]) mZ1 rfl (fun i e e' he he'=>?_) ?_
      ·match i with
       | 0=>
        simp only[List.getElem?_cons_zero,Option.some.injEq] at he he';subst he he';exact jK.append (.refl _) (jK.append (.refl _) (.cons (.refl _) (.cons hsub (.refl _))))
       | i+1=>simp at he
      refine J.cut (fun ρ' H' n'=>Df b C L ai X m i j (bR b m).length qs.length ((bR b m).map (eB b)) (qs.map (bQ b)) (eB b a) ρ' H'/\ρ' 11 = .ptr Z 1 0 0/\H' Z=some ⟨10,[bQ b (at2,vc1)]⟩/\Sep H' n' (oI vc1 at2.code::ez qs) [Z,X,ai,L,C,(0,1)])
       ⟨hS1.keep (fun _ _=>rfl) (fun k hk=>ax.aG _ _ (show k ≠ Z from fun h=>hZi (h ▸ hk))),by simp only[u];exact (hptr _ (by simp) _ _ _).1,ax.bl _ _ _,Sep.bH sp1 (by simp)⟩ ?_
      clear hS u mZ M hS1 mZ1 sp1 fr1 hkv hsub hvc hvq hrl hptr hφ hAI;rintro O H n ⟨hS,u,mZ,M⟩;have hoc:=Sep.oc M;have hbig:qs.length+1<=1073741824:=by
       have e1:qs.length=(((bR b m).take i).flatMap (fL b)++jU b a j).length:=by rw[<- hqs];simp
       have e2:=np hn8 ((bR b m).take i);have e3:=ku hn8 m;have e4:(jU b a j).length<=j:=by
        have:=List.length_filter_le (dj b a.s.pl) ((List.range j).map fun i:Nat=>(i:Int));simpa[jU] using this
       have e5:8 ^ m<=8 ^ 8:=Nat.pow_le_pow_right (by omega) (by omega);have e6:(8:Nat) ^ 8=16777216:=by decide
       have e7:((bR b m).take i).length<=(bR b m).length:=by simp;omega
       rw[List.length_append] at e1;omega
      refine zF fun _ V=>?_
      simp[hS.r6,u,mZ,hS.mM,bQ,cD,I.cells,aB,encI,encS,aD,hoc,List.range_succ,hbig,-aE,-aM,bT,bu];apply V;refine zI fun _ V=>?_
      have f2:=aU (show bB ((j:Int)+1) by simp only[bB];omega) (show ((j+1:Nat):Int)=(j:Int)+1 by omega);simp[hS.r38,f2,-aw];apply V;have hMn:∀ k ∈ [L,C,(0,1)],k ≠ ai:=fun k hk h=>hMi (h ▸ hk)
      have hXM:X ≠ ai:=fun h=>hXi (by simp[h])
      obtain⟨cs,mC,hcs⟩:=hS.mC;refine IH2 hc3 _ _ _ ⟨ai,qs++[(at2,vc1)],by simp[hS.r1],by simp[hS.r3],by simp[hS.r5],by simp,by simp[hS.r8],by simp[hS.r24],by simp[hS.r25],by simp[hS.r29],by simp[hS.r30],by simp[hS.r31],by simp[hS.r36],by simp[hS.r37],by simp,by rw[ax.aG _ _ (hMn _ (by simp))];exact hS.mB,⟨cs,by rw[ax.aG _ _ (hMn _ (by simp))];exact mC,hcs⟩,by rw[ax.aG _ _ (hMn _ (by simp))];exact hS.mL,by simp[bQ,cD,I.cells,aB,encI,encS,aD],by rw[ax.aG _ _ hXM];exact hS.mX,hMi,hXi,by rw[List.map_append,hqs,Bk hfr,hat];simp,?_⟩;have:=Sep.sub (dK:=[X,ai,L,C,(0,1)]) (Sep.bH (w:=ai) (o:=⟨10,qs.map (bQ b)++[bQ b (at2,vc1)]⟩) (Sep.oo M) (by simp)) (by simp +contextual);simpa[ez,bQ,cD,I.cells,aB,encI,encS,aD] using this
    refine zE fun _ V=>?_
    have hol:a.order.length<=1048576:=by have:=ha.ord;omega
    have hcon:∀ y:Int,aC prog 107 [.list false (a.order.map av),int y] (fun r=>r=bool (decide (y ∈ a.order))):=fun y=>by
     have:=py a.order y hol;have e:(a.order.any fun z=>y == z)=decide (y ∈ a.order):=by
      rw[Bool.eq_iff_iff];simp
     rw[e] at this;exact this
    have hfree:dj b a.s.pl (j:Int)=(decide ((j:Int) ∉ a.order) && (decide (x.parent<0) || decide (x.parent ∈ a.order))):=by
     have h1:=ha.mem j hjr;rw[dj,hx];have e1:decide (at' a.s.pl (j:Int)<0)=decide ((j:Int) ∉ a.order):=by
      rw[Bool.eq_iff_iff];simp only[decide_eq_true_eq];rw[h1];omega
     rw[e1]
     by_cases h2:x.parent<0
     ·simp[h2]
     ·have h3:=hv.lN hjr;rw[hx] at h3;have h4:=ha.mem x.parent ⟨by omega,by omega⟩;have e2:decide (0<=at' a.s.pl x.parent)=decide (x.parent ∈ a.order):=by
       rw[Bool.eq_iff_iff];simp only[decide_eq_true_eq];exact h4.symm
      rw[e2]
    simp[hS.r8,hS.mX,eB,bQ,cD,I.cells,r9];refine zA (hcon j) e107 (.cons (aJ.dE (fr:=true) (els:=a.order.map av) (by simp[av])) (.cons (.v _ _ _) .nil)) (by simp) ?_;rintro _ rfl
    by_cases h1:(j:Int) ∈ a.order
    ·have hf:dj b a.s.pl (j:Int)=false:=by rw[hfree];simp[h1]
     simp[h1];apply V;refine J.ite rfl (fun _=>?_) (fun h=>by cases h);refine J.exit rfl ?_;refine zF fun _ V=>?_
     have f2:=aU (show bB ((j:Int)+1) by simp only[bB];omega) (show ((j+1:Nat):Int)=(j:Int)+1 by omega);simp[hS.r38,f2,-aw];apply V;exact IH2 hc3 _ _ _ ⟨ai,qs,by simp[hS.r1],by simp[hS.r3],by simp[hS.r5],by simp[hS.r6],by simp[hS.r8],by simp[hS.r24],by simp[hS.r25],by simp[hS.r29],by simp[hS.r30],by simp[hS.r31],by simp[hS.r36],by simp[hS.r37],by simp,hS.mB,hS.mC,hS.mL,hS.mM,hS.mX,hMi,hXi,by rw[hqs,xw hf],Sep.sub M (by simp +contextual)⟩
    by_cases h2:0<=x.parent
    ·simp[h1,h2,hS.r8,hS.mX,r9,N,mY,az.cells,eB,bQ,cD,I.cells];refine zA (hcon x.parent) e107 (.cons (aJ.dE (fr:=true) (els:=a.order.map av) (by simp[av])) (.cons (.v _ _ _) .nil)) (by simp) ?_;rintro _ rfl
     by_cases h3:x.parent ∈ a.order
     ·simp[h3];apply V;refine J.ite rfl (fun h=>by cases h) (fun _=>?_);apply J.skip;exact fin _ _ _ ⟨hS.keep (by simp) (fun _ _=>rfl),by simp[r9],by rw[hfree];simp[h1,h3],Sep.sub M (by simp +contextual)⟩
     ·have hf:dj b a.s.pl (j:Int)=false:=by rw[hfree];simp[h1,h3];omega
      simp[h3];apply V;refine J.ite rfl (fun _=>?_) (fun h=>by cases h);refine J.exit rfl ?_;refine zF fun _ V=>?_
      have f2:=aU (show bB ((j:Int)+1) by simp only[bB];omega) (show ((j+1:Nat):Int)=(j:Int)+1 by omega);simp[hS.r38,f2,-aw];apply V;exact IH2 hc3 _ _ _ ⟨ai,qs,by simp[hS.r1],by simp[hS.r3],by simp[hS.r5],by simp[hS.r6],by simp[hS.r8],by simp[hS.r24],by simp[hS.r25],by simp[hS.r29],by simp[hS.r30],by simp[hS.r31],by simp[hS.r36],by simp[hS.r37],by simp,hS.mB,hS.mC,hS.mL,hS.mM,hS.mX,hMi,hXi,by rw[hqs,xw hf],Sep.sub M (by simp +contextual)⟩
    ·simp[h1,h2,hS.r8,hS.mX,r9,N,mY,az.cells,eB,bQ,cD,I.cells];apply V;refine J.ite rfl (fun h=>by cases h) (fun _=>?_);apply J.skip;exact fin _ _ _ ⟨hS.keep (by simp) (fun _ _=>rfl),by simp[r9],by rw[hfree];simp[h1];omega,Sep.sub M (by simp +contextual)⟩
   ·have hc4:¬ j<b.nodes.length:=by simpa using hc3
    have hc5:j=b.nodes.length:=by omega
    subst hc5;refine J.exit rfl ?_;refine zI fun _ V=>?_
    have hb8:(bR b m).length<=16777216:=by
     have e3:=ku hn8 m;have e5:8 ^ m<=8 ^ 8:=Nat.pow_le_pow_right (by omega) (by omega);have e6:(8:Nat) ^ 8=16777216:=by decide
     omega
    have f2:=aU (show bB ((i:Int)+1) by simp only[bB];omega) (show ((i+1:Nat):Int)=(i:Int)+1 by omega);simp[r31,f2,-aw];apply V;exact IH1 hc2 _ _ _ ⟨ai,qs,by simp[r1],by simp[r3],by simp[r5],by simp[r6],by simp[r24],by simp[r25],by simp[r29],by simp[r30],by simp,mB,mC,mL,mM,hMi,by rw[hqs,htk,BC],Sep.sub M (by simp +contextual)⟩
  ·have hc4:¬ i<(bR b m).length:=by simpa using hc2
   have hc5:i=(bR b m).length:=by omega
   subst hc5;refine J.exit rfl ?_;rw[List.take_length] at hqs;refine zF fun _ V=>?_
   simp[r6];have hb8:qs.length<=134217728:=by
    have e1:qs.length=((bR b m).flatMap (fL b)).length:=by rw[<- hqs];simp
    have e2:=np hn8 (bR b m);have e3:=ku hn8 m;have e5:8 ^ m<=8 ^ 8:=Nat.pow_le_pow_right (by omega) (by omega);have e6:(8:Nat) ^ 8=16777216:=by decide
    omega
   have hqo:∀ q ∈ qs,wz b (m+1) q.1:=fun q hq=>by
    have h1:q.1 ∈ (bR b m).flatMap (fL b):=by rw[<- hqs];exact List.mem_map.2 ⟨q,hq,rfl⟩
    obtain⟨a,ha,h2⟩:=List.mem_flatMap.1 h1;exact tB hv (by omega) (hok a ha) h2
   have hqn:qs ≠ []:=by
    intro h;have h1:(bR b m).flatMap (fL b)=[]:=by rw[<- hqs,h];rfl
    exact Gk he hdn hc1 h1
   refine bz.vN ay (tn (K:=[]) hqn mM (fun q hq=>by have:=(hqo q hq).code;omega) (by omega) (by simpa using M) hMi) e144 (by decide) (by decide) rfl (by simp) ?_;rintro _ H1 U ⟨ae,rfl,mO,hO,sp1,fr1,hn1⟩;simp;apply V;refine zI fun _ V=>?_
   have f2:=aU (show bB ((m:Int)+1) by simp only[bB];omega) (show ((m+1:Nat):Int)=(m:Int)+1 by omega);simp[r25,f2,-aw];apply V;obtain⟨cs,mC,hcs⟩:=mC;refine IH hc1 _ _ _ ⟨ae,dB qs,by simp[r1],by simp[r3],by simp,by simp[r24],by simp,(fr1 _ (by simp)).trans mB,⟨cs,(fr1 _ (by simp)).trans mC,hcs⟩,mO,fun h=>hO (by simp at h ⊢;rcases h with h | h<;>simp[h]),by rw[rC,hqs];rfl,?_⟩;have h1:=Sep.sublist (List.Sublist.map (fun p:dx=>oI p.2 p.1.code) (iu qs)) [] (by simpa[ez] using sp1);exact Sep.sub h1 (by simp +contextual)
 ·have hc4:¬ m<b.nodes.length:=by simpa using hc1
  have hc5:m=b.nodes.length:=by omega
  subst hc5;have hok:=nw hv b.nodes.length (Nat.le_refl _);refine J.exit rfl ?_;refine zS fun _ V=>?_
  simp[r4,mL];apply V;have hlen:ps.length=(bR b b.nodes.length).length:=by rw[<- hps];simp
  have hb8:ps.length<=16777216:=by
   have e3:=ku hn8 b.nodes.length;have e5:8 ^ b.nodes.length<=8 ^ 8:=Nat.pow_le_pow_right (by omega) (by omega);have e6:(8:Nat) ^ 8=16777216:=by decide
   omega
  refine J.block (J.bO ps.length (fun i O H n=>∃ qs:List dx,O 1 = .ptr (0,1) 1 0 0/\O 3 = .ptr C 1 0 0/\O 4 = .arr L ps.length 0 ps.length/\O 83=int ps.length/\O 84=int i/\H (0,1)=some ⟨6,[I.cells false b]⟩/\(∃ cs,H C=some ⟨9,[cs]⟩/\cs.length=9) /\
    H L=some ⟨10,qs.map (bQ b)⟩/\qs.length=ps.length/\qs.map (·.1)=((bR b b.nodes.length).take i).map (cX b)++(bR b b.nodes.length).drop i/\Sep H n (ez qs) [L,C,(0,1)])
   ⟨ps,by simp[r1],by simp[r3],by simp[r4],by simp,by simp,mB,mC,mL,rfl,by simpa using hps,M⟩ ?_)
  clear V r1 r3 r4 r24 r25 mB mC mL M IH;rintro i O H n hi ⟨qs,r1,r3,r4,G,F,mB,mC,mL,hql,hqs,M⟩ IH;refine zE fun _ V=>?_
  simp[G,F];apply V;apply J.seq;refine J.ite rfl (fun hc2=>?_) (fun hc2=>?_)
  ·have hc2:i<ps.length:=by simpa using hc2
   apply zK;apply J.block;refine zE fun _ V=>?_
   simp[F];apply V;refine zF fun _ V=>?_
   have hiq:i<qs.length:=by omega
   have hrow:(qs.map (bQ b))[i]?=some (bQ b qs[i]):=by rw[List.getElem?_map,List.getElem?_eq_getElem hiq];rfl
   have hil:i<(bR b b.nodes.length).length:=by omega
   have hat:qs[i].1=(bR b b.nodes.length)[i]:=by
    have h1:(qs.map (·.1))[i]?=some qs[i].1:=by rw[List.getElem?_map,List.getElem?_eq_getElem hiq];rfl
    rw[hqs,List.getElem?_append_right (by simp;omega)] at h1;have h2:i - (((bR b b.nodes.length).take i).map (cX b)).length=0:=by simp;omega
    rw[h2,List.getElem?_drop,Nat.add_zero,List.getElem?_eq_getElem hil] at h1
    injection h1 with h1
    exact h1.symm
   have ha:=hok _ (List.getElem_mem hil);rw[<- hat] at ha;have hsplit:=yX hiq;rw[hsplit] at M;simp[r4,mL,hql,hc2,hiq];have hE:=ha.s.es;have hcl:=ha.code;have hs4:=hv.slen;have hi16:=hv.inner;refine bz.vN ay (rest_c (o:=some (.list true (qs[i].1.order.map av))) (g:=ps.length) (idx:=i) (code:=qs[i].1.code) mL (by simp[hql]) hrow (fun p hp=>by
    have h1:=hv.sites p hp;have h2:=hv.roots;exact⟨by rw[ha.s.pl];omega,⟨by omega,by omega⟩,fun h0=>ha.s.at ⟨h0,by rw[ha.s.pl];omega⟩⟩) (fun w hw=>by
    have h1:=hv.wires w hw;have h2:=hv.edges;have h3:=hv.outer;exact⟨by omega,by omega⟩) (by omega) (by omega) hLi (Sep.front M)) e145 (by decide) (by decide) rfl (by simp[dk]) ?_
   rintro v1 H1 U ⟨vc1,mL1,sp1,fr1,hn1⟩;simp;apply V;refine zI fun _ V=>?_
   have f2:=aU (show bB ((i:Int)+1) by simp only[bB];omega) (show ((i+1:Nat):Int)=(i:Int)+1 by omega);simp[F,f2,-aw];apply V;obtain⟨cs,mC,hcs⟩:=mC;refine IH hc2 _ _ _ ⟨qs.set i (cX b qs[i].1,vc1),by simp[r1],by simp[r3],by simp[r4],by simp[G],by simp,(fr1 _ (by simp)).trans mB,⟨cs,(fr1 _ (by simp)).trans mC,hcs⟩,?_,by simp[hql],?_,?_⟩
   ·rw[List.map_set];exact mL1
   ·rw[List.map_set,hqs,List.set_append_right _ _ (by simp;omega)];have h2:i - (((bR b b.nodes.length).take i).map (cX b)).length=0:=by simp;omega
    rw[h2,hat,List.drop_eq_getElem_cons hil,List.set_cons_zero,<- List.take_append_getElem hil,List.map_append];simp
   ·rw[vl hiq];exact Sep.Gi sp1
  ·have hc3:¬ i<ps.length:=by simpa using hc2
   have hc5:i=ps.length:=by omega
   subst hc5;refine J.exit rfl ?_;have hqs2:qs.map (·.1)=(bR b b.nodes.length).map (cX b):=by rw[hqs,hlen,List.take_length,List.drop_length,List.append_nil]
   have hqn:qs ≠ []:=by
    intro h;have h1:(bR b b.nodes.length).map (cX b)=[]:=by rw[<- hqs2,h];rfl
    exact (mH he hdn b.nodes.length (Nat.le_refl _)).2 (List.map_eq_nil_iff.1 h1)
   have hqo:∀ q ∈ qs,q.1.code.length<=1048576/\q.1.order.length<=1048576:=fun q hq=>by
    have h1:q.1 ∈ (bR b b.nodes.length).map (cX b):=by rw[<- hqs2];exact List.mem_map.2 ⟨q,hq,rfl⟩
    obtain⟨a,ha,h2⟩:=List.mem_map.1 h1;have h3:=hok a ha;have h4:=h3.code;have h5:=h3.ord;have h6:=hv.slen;have h7:=hv.inner;have h8:(bL b a.s.es (b.inner.map fun w=>w.link)).1.length=(b.inner.map fun w=>w.link).length:=dJ _ _;simp only[List.length_map] at h8;rw[<- h2];simp only[cX,iy,List.length_append,List.length_map];omega
   refine zE fun _ V=>?_
   rw[<- hql] at r4;simp[r4];refine bz.vN ay (tn (K:=[]) hqn mL (fun q hq=>(hqo q hq).1) (by omega) (by simpa using M) hLi) e144 (by decide) (by decide) rfl (by simp) ?_;rintro _ H1 U ⟨ae,rfl,mO,hO,sp1,fr1,hn1⟩;simp;apply V;have hL2:(dB qs).map (·.1)=fw ((bR b b.nodes.length).map (cX b)):=by rw[rC,hqs2]
   have hmem:∀ q ∈ dB qs,q ∈ qs:=fun q hq=>(iu qs).subset hq
   have hne2:0<(dB qs).length:=by
    have h1:=kS (l:=(bR b b.nodes.length).map (cX b)) (fun h=>hqn (List.map_eq_nil_iff.1 (hqs2.trans h)));rw[<- hL2] at h1;exact List.length_pos_iff.2 (fun h=>h1 (by rw[h];rfl))
   have sp2:=Sep.sublist (List.Sublist.map (fun p:dx=>oI p.2 p.1.code) (iu qs)) [] (by simpa[ez] using sp1);have hle:(dB qs).length<=16777216:=by have:=(iu qs).length_le;omega
   obtain⟨cs,mC,hcs⟩:=mC;refine J.cut (fun O H n=>O 3 = .ptr C 1 0 0/\O 4 = .arr ae (dB qs).length 0 (dB qs).length/\(∃ cs,H C=some ⟨9,[cs]⟩/\cs.length=9)/\H ae=some ⟨10,(dB qs).map (bQ b)⟩/\ae ≠ C/\Sep H n (ez (dB qs)) [ae,C])
    ⟨by simp[r3],by simp,⟨cs,(fr1 _ (by simp)).trans mC,hcs⟩,mO,fun h=>hO (by simp[h]),Sep.sub sp2 (by simp +contextual)⟩ ?_
   clear V r1 r3 r4 G F mB mC mL M sp1 sp2 fr1 mO hO;rintro O H n ⟨r3,r4,mC,mO,hOC,M⟩;have hL3:(dB qs).map (·.1)=m9 b:=hL2;have hco:∀ q ∈ dB qs,q.1.code.length<=1048576/\q.1.order.length<=1048576:=fun q hq=>hqo q (hmem q hq)
   clear hqn hqo hqs2 hqs hql hL2 hmem;generalize dB qs=ws at r4 mO M hne2 hle hL3 hco;have hrow0:(ws.map (bQ b))[0]?=some (bQ b ws[0]):=by rw[List.getElem?_map,List.getElem?_eq_getElem hne2];rfl
   have hoc:∀ q ∈ ws,Ab.aM q.2=true/\aE q.2=some [q.2]:=fun q hq=>by
    have:=Sep.vH M (v:=q.2) (l:=q.1.code) (List.mem_map.2 ⟨_,hq,rfl⟩);exact⟨this.1,this.2.1⟩
   have hoc0:=hoc _ (List.getElem_mem hne2);refine zE fun _ V=>?_
   simp[r4,mO,hne2,bQ,cD,I.cells,aB,encI,encS,aD,hoc0,-aE,-aM,bT,bu];apply V;have hnW:∀ k ∈ [ae,C],k ≠ (n,13):=fun k hk h=>by have:=M.1 k hk;rw[h] at this;simp at this
   obtain⟨cs,mC,hcs⟩:=mC;apply J.seq;refine J.cut (fun ρ' H' n'=>ρ' 3 = .ptr C 1 0 0/\ρ' 4 = .arr ae ws.length 0 ws.length/\ρ' 13 = .ptr (n,13) 1 0 0/\(∃ cs,H' C=some ⟨9,[cs]⟩/\cs.length=9)/\H' ae=some ⟨10,ws.map (bQ b)⟩/\H' (n,13)=some ⟨10,[bQ b ws[0]]⟩/\Sep H' n' (ez ws) [(n,13),ae,C])
    ⟨by simp[r3],by simp[r4],by simp,⟨cs,by rw[ax.aG _ _ (hnW _ (by simp))];exact mC,hcs⟩,by rw[ax.aG _ _ (hnW _ (by simp))];exact mO,by simp[bQ,cD,I.cells,aB,encI,encS,aD],Sep.var M⟩ ?_
   clear V r3 r4 mC mO M hcs;clear cs;generalize hWe:(n,13)=W at hnW;clear hWe;rintro O H n ⟨r3,r4,t,mC,mO,mW,M⟩;refine zE fun _ V=>?_
   simp[r4,mO];apply V;refine J.block (J.bO ws.length (fun i O H n=>O 3 = .ptr C 1 0 0/\O 13 = .ptr W 1 0 0/\O 98 = .arr ae ws.length 0 ws.length/\O 99=int ws.length/\O 100=int i/\(∃ cs,H C=some ⟨9,[cs]⟩/\cs.length=9)/\H ae=some ⟨10,ws.map (bQ b)⟩/\H W=some ⟨10,[bQ b (fQ ws[0] (ws.take i))]⟩/\Sep H n (ez ws) [W,ae,C])
    ⟨by simp[r3],by simp[t],by simp,by simp,by simp,mC,mO,by simpa[fQ] using mW,M⟩ ?_)
   clear V r3 r4 t mC mO mW M;rintro i O H n hi ⟨r3,t,B,D,A,mC,mO,mW,M⟩ IH;have hbm:fQ ws[0] (ws.take i) ∈ ws:=by
    rcases Cx ws[0] (ws.take i) with h | h
    ·rw[h];exact List.getElem_mem hne2
    ·exact List.mem_of_mem_take h
   refine zE fun _ V=>?_
   simp[D,A];apply V;apply J.seq;refine J.ite rfl (fun hc2=>?_) (fun hc2=>?_)
   ·have hc2:i<ws.length:=by simpa using hc2
    apply zK;apply J.block;have htk:fQ ws[0] (ws.take (i+1))=if cmpL ws[i].1.order (fQ ws[0] (ws.take i)).1.order<0 then ws[i] else fQ ws[0] (ws.take i):=by
     rw[<- List.take_append_getElem hc2,fQ,List.foldl_append];rfl
    have hrow:(ws.map (bQ b))[i]?=some (bQ b ws[i]):=by rw[List.getElem?_map,List.getElem?_eq_getElem hc2];rfl
    have hci:=hco _ (List.getElem_mem hc2);have hcb:=hco _ hbm;have hoi:=hoc _ (List.getElem_mem hc2);generalize hwi:ws[i]=w at htk hrow hci hoi;generalize fQ ws[0] (ws.take i)=q at htk hcb mW hbm;have hnV:∀ k ∈ [W,ae,C],k ≠ (n,15):=fun k hk h=>by have:=M.1 k hk;rw[h] at this;simp at this
    refine zE fun _ V=>?_
    simp[B,A,mO,hc2,hwi,bQ,cD,I.cells,aB,encI,encS,aD,hoi,-aE,-aM,bT,bu];apply V;obtain⟨cs,mC,hcs⟩:=mC;refine J.cut (fun ρ' H' n'=>ρ' 3 = .ptr C 1 0 0/\ρ' 13 = .ptr W 1 0 0/\ρ' 15 = .ptr (n,15) 1 0 0/\ρ' 98 = .arr ae ws.length 0 ws.length/\ρ' 99=int ws.length/\ρ' 100=int i/\(∃ cs,H' C=some ⟨9,[cs]⟩/\cs.length=9)/\H' ae=some ⟨10,ws.map (bQ b)⟩/\H' W=some ⟨10,[bQ b q]⟩/\H' (n,15)=some ⟨10,[bQ b w]⟩/\Sep H' n' (ez ws) [(n,15),W,ae,C])
     ⟨by simp[r3],by simp[t],by simp,by simp[B],by simp[D],by simp[A],⟨cs,by rw[ax.aG _ _ (hnV _ (by simp))];exact mC,hcs⟩,by rw[ax.aG _ _ (hnV _ (by simp))];exact mO,by rw[ax.aG _ _ (hnV _ (by simp))];exact mW,by simp[bQ,cD,I.cells,aB,encI,encS,aD],Sep.var M⟩ ?_
    clear V r3 t B D A mC mO mW M hcs;clear cs;generalize hVe:(n,15)=aa at hnV;clear hVe;rintro O H n ⟨r3,t,R,B,D,A,mC,mO,mW,mV,M⟩;refine zE fun _ V=>?_
    simp[t,R,mV,mW,bQ,cD,I.cells];refine zA (Am w.1.order q.1.order ⟨hci.2,hcb.2⟩) e146 (.cons (aJ.dE (fr:=true) (els:=w.1.order.map av) (by simp[av])) (.cons (aJ.dE (fr:=true) (els:=q.1.order.map av) (by simp[av])) .nil)) (by simp) ?_;rintro _ rfl;simp;apply V;have hVW:W ≠ aa:=hnV W (by simp);have hCW:C ≠ W:=fun h=>hnW C (by simp) h
    have hOW:ae ≠ W:=fun h=>hnW ae (by simp) h
    refine J.ite rfl (fun hc4=>?_) (fun hc4=>?_)
    ·have hc4:cmpL w.1.order q.1.order<0:=by simpa using hc4
     rw[if_pos hc4] at htk;refine zF fun _ V=>?_
     simp[t,R,mV,mW,bQ,cD,I.cells,aB,encI,encS,aD,hoi,-aE,-aM,bT,bu];apply V;refine zI fun _ V=>?_
     have f2:=aU (show bB ((i:Int)+1) by simp only[bB];omega) (show ((i+1:Nat):Int)=(i:Int)+1 by omega);simp[A,f2,-aw];apply V;obtain⟨cs,mC,hcs⟩:=mC;refine IH hc2 _ _ _ ⟨by simp[r3],by simp[t],by simp[B],by simp[D],by simp,⟨cs,by rw[ax.aG _ _ hCW];exact mC,hcs⟩,by rw[ax.aG _ _ hOW];exact mO,by rw[htk];simp[bQ,cD,I.cells,aB,encI,encS,aD],?_⟩;exact Sep.sub (Sep.bH M (by simp)) (by simp +contextual)
    ·have hc4:¬ cmpL w.1.order q.1.order<0:=by simpa using hc4
     rw[if_neg hc4] at htk;apply J.skip;refine zI fun _ V=>?_
     have f2:=aU (show bB ((i:Int)+1) by simp only[bB];omega) (show ((i+1:Nat):Int)=(i:Int)+1 by omega);simp[A,f2,-aw];apply V;exact IH hc2 _ _ _ ⟨by simp[r3],by simp[t],by simp[B],by simp[D],by simp,mC,mO,by rw[htk];exact mW,Sep.sub M (by simp +contextual)⟩
   ·have hc3:¬ i<ws.length:=by simpa using hc2
    have hc5:i=ws.length:=by omega
    subst hc5;refine J.exit rfl ?_;rw[List.take_length] at mW hbm;have hbest:(fQ ws[0] ws).1=a6 b:=by
     rw[CE,hL3,a6]
     congr 1
     have h1:0<(m9 b).length:=by rw[<- hL3];simpa using hne2
     rw[show ((0:Int))=((0:Nat):Int) from rfl,bp h1];simp only[<- hL3,List.getElem_map]
    generalize fQ ws[0] ws=q at mW hbm hbest;refine J.cO ay aA bq (by decide) (by kernel_rfl) fun _ V=>?_
    have hoq:=hoc _ hbm;obtain⟨cs,mC,hcs⟩:=mC;have hCW:C ≠ W:=fun h=>hnW C (by simp) h
    simp[r3,t,mW,mC,hcs,bQ,cD,I.cells,aB,encI,encS,aD,hoq,hCW,-aE,-aM,bT,bu];apply V;have hdr:List.drop 9 cs=[]:=List.drop_of_length_le (by omega);refine J.res2 ay (v:=.list true (q.1.order.map av)) (w:=.agg (cD none b (.list true (q.1.s.es.map av)) (.list true (q.1.s.pl.map av)) q.2)) func105 results105 (by simp[iT]) (by simp[iT,r3,hdr,cD,I.cells,aB,encI,encS,aD]) (hQ _ _ _ ⟨q.2,hoq.1,by rw[<- hbest]⟩)
theorem oG {sig:cZ} {b:I} (hv:bA sig b) (he:nJ b) (hdn:fh b):aC prog 105 [.agg (I.cells false b)] (fun r=>∃ y0 y1 y2 y3 y4 y5 y6:Value,(one y0=true/\one y1=true/\one y2=true/\one y3=true/\one y4=true/\one y5=true/\one y6=true) /\
  r = .tup [.list true ((a6 b).order.map av),.agg [.v y0,.v y1,.v y2,.v y3,.v y4,.v y5,.list true ((a6 b).s.es.map av),.list true ((a6 b).s.pl.map av),.v y6]]):=by
 intro c xs hH hn g r;refine (nZ hv he hdn c xs hH hn g r).mono ?_;rintro e w' ⟨x,v,c',he,hw,⟨q,hq,rfl⟩,hrep,hg,hk⟩;cases hrep with
 | tup _ vs hl h=>
  obtain⟨v0,v1,rfl⟩:∃ v0 v1,vs=[v0,v1]:=by
   match vs,hl with
   | [v0,v1],_=>exact⟨v0,v1,rfl⟩
  have h0:=h 0 _ v0 rfl rfl;have h1:=h 1 _ v1 rfl rfl;cases h1 with
  | agg _ us hl1 h1=>
   obtain⟨u0,u1,u2,u3,u4,u5,u6,u7,u8,rfl⟩:∃ u0 u1 u2 u3 u4 u5 u6 u7 u8,us=[u0,u1,u2,u3,u4,u5,u6,u7,u8]:=by
    match us,hl1 with
    | [u0,u1,u2,u3,u4,u5,u6,u7,u8],_=>exact⟨u0,u1,u2,u3,u4,u5,u6,u7,u8,rfl⟩
   have o:∀ (i:Nat) (a:au) (u:Value),(cD none b (.list true ((a6 b).s.es.map av)) (.list true ((a6 b).s.pl.map av)) q)[i]?=some a->[u0,u1,u2,u3,u4,u5,u6,u7,u8][i]?=some u->Ab.aM a=true->one u=true:=fun i a u ha hu h=>uy (h1 i a u ha hu) h
   have o8:=uy (h1 8 q u8 rfl rfl) hq;have o0:=o 0 _ u0 rfl rfl rfl;have o1:=o 1 _ u1 rfl rfl rfl;have o2:=o 2 _ u2 rfl rfl rfl;have o3:=o 3 _ u3 rfl rfl rfl;have o4:=o 4 _ u4 rfl rfl rfl;have o5:=o 5 _ u5 rfl rfl rfl;have h6:=h1 6 _ u6 rfl rfl;have h7:=h1 7 _ u7 rfl rfl;refine⟨_,.tup [.list true ((a6 b).order.map av),.agg [.v u0,.v u1,.v u2,.v u3,.v u4,.v u5,.list true ((a6 b).s.es.map av),.list true ((a6 b).s.pl.map av),.v u8]],c',he,hw,⟨_,?_,u0,u1,u2,u3,u4,u5,u8,⟨o0,o1,o2,o3,o4,o5,o8⟩,rfl⟩,?_,hg,hk⟩
   ·refine (eG.pts (by simp) fun i a c ha hc=>?_).2
    match i with
    | 0=>simp only[List.getElem?_cons_zero,Option.some.injEq] at ha hc;subst ha hc;exact eG.ints _ _ _
    | 1=>
     simp only[List.getElem?_cons_succ,List.getElem?_cons_zero,Option.some.injEq] at ha hc;subst ha hc;refine (eG.pts (by simp) fun i a c ha hc=>?_).1
     match i with
     | 0 | 1 | 2 | 3 | 4 | 5 | 8=>simp at ha hc;subst ha hc;exact eG.v _ _ _
     | 6=>simp only[List.getElem?_cons_succ,List.getElem?_cons_zero,Option.some.injEq] at ha hc;subst ha hc;exact eG.ints _ _ _
     | 7=>simp only[List.getElem?_cons_succ,List.getElem?_cons_zero,Option.some.injEq] at ha hc;subst ha hc;exact eG.ints _ _ _
     | i+9=>simp at hc
    | i+2=>simp at hc
   ·refine .tup _ _ (by simp) fun i a x ha hx=>?_
    match i with
    | 0=>simp only[List.getElem?_cons_zero,Option.some.injEq] at ha hx;subst ha hx;exact h0
    | 1=>
     simp only[List.getElem?_cons_succ,List.getElem?_cons_zero,Option.some.injEq] at ha hx;subst ha hx;refine .agg _ _ (by simp) fun i a x ha hx=>?_
     match i with
     | 0 | 1 | 2 | 3 | 4 | 5 | 8=>simp at ha hx;subst ha hx;exact .v _
     | 6=>simp only[List.getElem?_cons_succ,List.getElem?_cons_zero,Option.some.injEq] at ha hx;subst ha hx;exact h6
     | 7=>simp only[List.getElem?_cons_succ,List.getElem?_cons_zero,Option.some.injEq] at ha hx;subst ha hx;exact h7
     | i+9=>simp at hx
    | i+2=>simp at hx
end
end Go.Ab.Vg
namespace Go.Ab.Vg
def rowP (b:I) (l:Int) (i k:Nat):List (Int × Int):=(idxs (at' b.nodes (i:Int)).links (fun x=>decide (x=l)) k).map fun z=>((i:Int),z)
def GV (b:I) (l:Int) (i:Nat):List (Int × Int):=((List.range i).map fun j=>rowP b l j (at' b.nodes (j:Int)).links.length).flatten
def qZ (b:I) (l:Int):List (Int × Int):=GV b l b.nodes.length
def endsB (b:I) (l:Int):List cP:=(b.inner.filter fun w=>decide (w.link=l)).map (·.name)
abbrev l2Idle (b:I) (l:Int):Bool:=decide ((qZ b l).length=0) && decide ((endsB b l).length=0)
abbrev isIdle (b:I) (l:Int):Bool:=l2Idle b l
abbrev eT (b:I):Bool:=decide (b.sites.length=0) && decide (b.inner.length=0)
abbrev iz (b:I):Prop:=b.sites.length<=1048576/\b.inner.length<=1048576
def gx (b:I) (Z:Bool->Prop):Prop:=
 eU (fun (J4:Bool->Prop)=>∀ gk:Int,gk=(b.sites.length:Int)->∀ c12:Bool,c12=decide (gk=0)->((c12=true->∀ len14:Int,len14=(b.inner.length:Int)->∀ c16:Bool,c16=decide (len14=0)->J4 (c16))/\(c12=false->J4 (false)))) (fun b7=>Z b7)
theorem ve (b:I) (h:iz b):gx b (fun y=>y=eT b):=by
 unfold gx;refine⟨fun x=>x=eT b,?_,fun x h=>h⟩;simp only[forall_eq,decide_eq_true_eq,decide_eq_false_iff_not,eT];refine⟨fun h1=>?_,fun h1=>?_⟩
 ·simp[show b.sites.length=0 by omega]
 ·simp[show ¬ b.sites.length=0 by omega]
def dz (sig:cZ) (b:I):Bool:=gU sig b && eT b
abbrev mf (sig:cZ) (b:I):Prop:=dI sig b
def kN (sig:List Control) (b:I) (Z:Bool->Prop):Prop:=
 eU (fun (J4:Bool->Prop)=>(dI sig b)/\∀ r11:Bool,r11=gU sig b->((r11=true->(iz b)/\∀ r13:Bool,r13=eT b->J4 (r13))/\(r11=false->J4 (false)))) (fun b7=>Z b7)
theorem B7 (sig:cZ) (b:I) (h:mf sig b):kN sig b (fun y=>y=dz sig b):=by
 unfold kN;refine⟨fun x=>x=dz sig b,?_,fun x h=>h⟩;simp only[forall_eq];refine⟨h,fun h1=>⟨⟨h.sitesLen,h.innerLen⟩,by rw[dz,h1];rfl⟩,fun h1=>by rw[dz,h1];rfl⟩
abbrev tL (sig:cZ) (b:I):Bool:=dz sig b
abbrev jZ (sig:cZ) (b:I):Prop:=dI sig b
def jz (sig:List Control) (b:I) (Z:Bool->Prop):Prop:=
 eU (fun (J4:Bool->Prop)=>(dI sig b)/\∀ r11:Bool,r11=gU sig b->((r11=true->∀ pk:Int,pk=(b.sites.length:Int)->∀ c14:Bool,c14=decide (pk=0)->((c14=true->∀ len16:Int,len16=(b.inner.length:Int)->∀ c18:Bool,c18=decide (len16=0)->J4 (c18))/\(c14=false->J4 (false))))/\(r11=false->J4 (false)))) (fun b7=>Z b7)
theorem zu (sig:cZ) (b:I) (h:jZ sig b):jz sig b (fun y=>y=tL sig b):=by
 unfold jz;refine⟨fun x=>x=dz sig b,?_,fun x h=>h⟩;simp only[forall_eq,decide_eq_true_eq,decide_eq_false_iff_not];refine⟨h,fun h1=>⟨fun h2=>?_,fun h2=>?_⟩,fun h1=>by rw[dz,h1];rfl⟩
 ·rw[dz,h1,eT];simp[show b.sites.length=0 by omega]
 ·rw[dz,h1,eT];simp[show ¬ b.sites.length=0 by omega]
def GO (b:I) (p:Int):Prop:=¬ ((p<0/\((iv b p).length=0\/0<(ff b p).length))\/1<(ff b p).length)
def RedexP (b:I):Prop:=b.inner.length=0/\b.roots ≠ 0/\(∀ p,-b.roots<=p->p<b.nodes.length->GO b p)/\∀ l,0<=l->l<b.edges+b.outer.length->isIdle b l=false
open Classical in
noncomputable def D0 (b:I):Bool:=decide (RedexP b)
end Go.Ab.Vg
namespace Go.Ab.Vg
def qW (l:List Int) (x:Int):Bool:=l.any fun y=>x == y
theorem vL {l:List Int} {x:Int}:qW l x=true↔x ∈ l:=by simp[qW]
theorem GZ {l:List Int} {x:Int}:qW l x=false↔x ∉ l:=by rw[<- vL];simp
def Dx (b:I) (nodes:List Int):Nat->Int->Bool
 | 0,_=>false
 | m+1,p=>if p<0 then false else if p ∈ nodes then true else Dx b nodes m (at' b.nodes p).parent
def yS (b:I) (nodes:List Int) (p:Int):Bool:=Dx b nodes (p+1).toNat p
def G4 (ba:I) (nodes:List Int) (p:Int × Int):Int:=at' (at' ba.nodes (at' nodes p.1)).links p.2
def GA (ba:I) (nodes:List Int) (l:List (Int × Int)):Int:=match l with | [] => -1 | p::_=>G4 ba nodes p
abbrev z7 (redex ba:I) (nodes:List Int) (l:Int):Int:=GA ba nodes (qZ redex l)
def LinkOk (redex ba:I) (nodes:List Int) (l:Int):Prop:=(∀ p ∈ qZ redex l,G4 ba nodes p=z7 redex ba nodes l)/\(l<redex.edges->z7 redex ba nodes l<ba.edges/\(qZ ba (z7 redex ba nodes l)).length=(qZ redex l).length)
def LinksP (redex ba:I) (nodes:List Int):Prop:=∀ l:Int,0<=l->l<redex.edges+redex.outer.length->LinkOk redex ba nodes l
def Cp (redex:I) (m:Match) (k:Int):Int:=if 0<=(at' redex.nodes k).parent then at' m.nodes (at' redex.nodes k).parent else at' m.roots (-1 - (at' redex.nodes k).parent)
def ImgOk (redex ba:I) (m:Match) (k:Int):Prop:=
 (at' ba.nodes (at' m.nodes k)).control=(at' redex.nodes k).control/\(at' ba.nodes (at' m.nodes k)).parent=Cp redex m k/\((ff redex k).length=0->∀ c ∈ iv ba (at' m.nodes k),c ∈ m.nodes)
def GQ (redex ba:I) (nodes:List Int):Prop:=nodes.length=redex.nodes.length/\∀ i:Nat,i<nodes.length->GX ba (at' nodes (i:Int))=true/\at' nodes (i:Int) ∉ nodes.take i
def GB (redex ba:I) (m:Match):Prop:=(m.roots.length:Int)=redex.roots/\∀ p ∈ m.roots,-ba.roots<=p/\p<ba.nodes.length/\yS ba m.nodes p=false
def MatchP (redex ba:I) (m:Match):Prop:=GQ redex ba m.nodes/\GB redex ba m/\(∀ k:Nat,k<redex.nodes.length->ImgOk redex ba m (k:Int))/\LinksP redex ba m.nodes
open Classical in
noncomputable def matchB (redex ba:I) (m:Match):Bool:=decide (MatchP redex ba m)
end Go.Ab.Vg
namespace Go.Ab.Vg
end Go.Ab.Vg
namespace Go.Ab
end Go.Ab
namespace Go.Ab
open Go.Proofs
end Go.Ab
namespace Go.Ab.Vg
theorem CL {α:Type} [Inhabited α] {a:List α} {k:Nat} (hk:k<a.length):(a.take k++List.replicate (a.length - k) default).set k a[k]=a.take (k+1)++List.replicate (a.length - (k+1)) default:=by
 rw[List.set_append_right _ _ (by simp;omega)];rw[List.take_succ_eq_append_getElem hk,List.append_assoc]
 congr 1
 have h1:a.length - k=(a.length - (k+1))+1:=by omega
 have h2:k - (a.take k).length=0:=by simp;omega
 rw[h1,h2,List.replicate_succ]
 rfl
abbrev filled {α:Type} [Inhabited α] (a:List α) (k:Nat):List α:=a.take k++List.replicate (a.length - k) default
theorem eN {α:Type} [Inhabited α] {a:List α} {k:Nat} (hk:k<=a.length):(filled a k).length=a.length:=by simp[filled];omega
theorem eL {α:Type} [Inhabited α] {a:List α} {k:Nat} (hk:k<a.length):(filled a k).set k (at' a (k:Int))=filled a (k+1):=by rw[bp hk];exact CL hk
theorem eP {α:Type} [Inhabited α] (a:List α):filled a a.length=a:=by simp[filled]
theorem ec {α:Type} [Inhabited α] (a:List α):filled a 0=List.replicate a.length default:=by simp[filled]
abbrev uw (a:List Int):=a
abbrev gQ (a:List Int):Prop:=a.length<=1048576
def kE (a:List Int) (Z:(List Int)->Prop):Prop:=
 ∀ bh:Int,bh=(a.length:Int)->(0<=bh/\bh<=1073741824)/\∀ l5:List Int,l5=List.replicate bh.toNat default->aO (σ:=Int × (List Int)) (fun (i16,l17) K21=>∀ len22:Int,len22=(a.length:Int)->∀ c24:Bool,c24=decide (i16<len22)->((c24=true->(0<=i16/\i16<a.length)/\∀ x27:Int,x27=at' a i16->(0<=i16/\i16<l17.length)/\∀ x34:Int,x34=at' l17 i16->∀ l37:List Int,l37=l17.set i16.toNat x27->(bB (i16+1))/\∀ v44:Int,v44=i16+1->K21 (v44,l37))/\(c24=false->Z l17))) (0,l5)
theorem BO (a:List Int) (h:gQ a):kE a (fun y=>y=uw a):=by
 unfold kE;simp only[gQ] at h;simp only[forall_eq,Int.toNat_natCast];refine⟨by omega,aO.pN a.length (fun k out=>out=filled a k) _ (ec a).symm ?_⟩;rintro k out K hk rfl IH;have hl:=eN hk;simp only[decide_eq_true_eq,decide_eq_false_iff_not,bB,Int.toNat_natCast];refine⟨fun h1=>⟨by omega,by omega,by omega,IH (by omega) _ (eL (by omega))⟩,fun h1=>?_⟩;rw[show k=a.length by omega];exact eP a
abbrev oA (a:List cP):=a
abbrev fJ (a:List cP):Prop:=a.length<=1048576
def gy (a:List cP) (Z:(List cP)->Prop):Prop:=
 ∀ bh:Int,bh=(a.length:Int)->(0<=bh/\bh<=1073741824)/\∀ l5:List cP,l5=List.replicate bh.toNat default->aO (σ:=Int × (List cP)) (fun (i16,l17) K21=>∀ len22:Int,len22=(a.length:Int)->∀ c24:Bool,c24=decide (i16<len22)->((c24=true->(0<=i16/\i16<a.length)/\∀ x27:cP,x27=at' a i16->(0<=i16/\i16<l17.length)/\∀ x34:cP,x34=at' l17 i16->∀ l37:List cP,l37=l17.set i16.toNat x27->(bB (i16+1))/\∀ v44:Int,v44=i16+1->K21 (v44,l37))/\(c24=false->Z l17))) (0,l5)
theorem uT (a:List cP) (h:fJ a):gy a (fun y=>y=oA a):=by
 unfold gy;simp only[fJ] at h;simp only[forall_eq,Int.toNat_natCast];refine⟨by omega,aO.pN a.length (fun k out=>out=filled a k) _ (ec a).symm ?_⟩;rintro k out K hk rfl IH;have hl:=eN hk;simp only[decide_eq_true_eq,decide_eq_false_iff_not,bB,Int.toNat_natCast];refine⟨fun h1=>⟨by omega,by omega,by omega,IH (by omega) _ (eL (by omega))⟩,fun h1=>?_⟩;rw[show k=a.length by omega];exact eP a
abbrev iL (a:Control):=a
def jm (a:Control) (Z:Control->Prop):Prop:=
 Z a
theorem uG (a:Control):jm a (fun y=>y=iL a):=rfl
abbrev fD (a:List Control):=a
abbrev dy (a:List Control):Prop:=a.length<=1048576
def fG (a:List Control) (Z:(List Control)->Prop):Prop:=
 ∀ bh:Int,bh=(a.length:Int)->(0<=bh/\bh<=1073741824)/\∀ l5:List Control,l5=List.replicate bh.toNat default->aO (σ:=Int × (List Control)) (fun (i16,l17) K21=>∀ len22:Int,len22=(a.length:Int)->∀ c24:Bool,c24=decide (i16<len22)->((c24=true->(0<=i16/\i16<a.length)/\∀ x27:Control,x27=at' a i16->∀ r29:Control,r29=iL x27->(0<=i16/\i16<l17.length)/\∀ x35:Control,x35=at' l17 i16->∀ l38:List Control,l38=l17.set i16.toNat r29->(bB (i16+1))/\∀ v45:Int,v45=i16+1->K21 (v45,l38))/\(c24=false->Z l17))) (0,l5)
theorem sL (a:List Control) (h:dy a):fG a (fun y=>y=fD a):=by
 unfold fG;simp only[dy] at h;simp only[forall_eq,Int.toNat_natCast];refine⟨by omega,aO.pN a.length (fun k out=>out=filled a k) _ (ec a).symm ?_⟩;rintro k out K hk rfl IH;have hl:=eN hk;simp only[decide_eq_true_eq,decide_eq_false_iff_not,bB,Int.toNat_natCast];refine⟨fun h1=>⟨by omega,by omega,by omega,IH (by omega) _ (eL (by omega))⟩,fun h1=>?_⟩;rw[show k=a.length by omega];exact eP a
abbrev tU (a:aQ):=a
def oL (a:aQ) (Z:aQ->Prop):Prop:=
 Z a
theorem C8 (a:aQ):oL a (fun y=>y=tU a):=rfl
abbrev uh (a:List aQ):=a
abbrev hZ (a:List aQ):Prop:=a.length<=1048576
def jD (a:List aQ) (Z:(List aQ)->Prop):Prop:=
 ∀ bh:Int,bh=(a.length:Int)->(0<=bh/\bh<=1073741824)/\∀ l5:List aQ,l5=List.replicate bh.toNat default->aO (σ:=Int × (List aQ)) (fun (i16,l17) K21=>∀ len22:Int,len22=(a.length:Int)->∀ c24:Bool,c24=decide (i16<len22)->((c24=true->(0<=i16/\i16<a.length)/\∀ x27:aQ,x27=at' a i16->∀ r29:aQ,r29=tU x27->(0<=i16/\i16<l17.length)/\∀ x35:aQ,x35=at' l17 i16->∀ l38:List aQ,l38=l17.set i16.toNat r29->(bB (i16+1))/\∀ v45:Int,v45=i16+1->K21 (v45,l38))/\(c24=false->Z l17))) (0,l5)
theorem Aa (a:List aQ) (h:hZ a):jD a (fun y=>y=uh a):=by
 unfold jD;simp only[hZ] at h;simp only[forall_eq,Int.toNat_natCast];refine⟨by omega,aO.pN a.length (fun k out=>out=filled a k) _ (ec a).symm ?_⟩;rintro k out K hk rfl IH;have hl:=eN hk;simp only[decide_eq_true_eq,decide_eq_false_iff_not,bB,Int.toNat_natCast];refine⟨fun h1=>⟨by omega,by omega,by omega,IH (by omega) _ (eL (by omega))⟩,fun h1=>?_⟩;rw[show k=a.length by omega];exact eP a
abbrev rv (a:az):=a
abbrev lW (a:az):Prop:=a.links.length<=1048576
def kF (a:az) (Z:az->Prop):Prop:=
 (gQ a.links)/\∀ r10:List Int,r10=uw a.links->Z (az.mk a.control a.parent r10)
theorem CP (a:az) (h:lW a):kF a (fun y=>y=rv a):=by
 unfold kF;exact⟨h,by rintro _ rfl;rfl⟩
abbrev uP (a:List az):=a
abbrev j8 (a:List az):Prop:=a.length<=1048576/\∀ x ∈ a,x.links.length<=1048576
def jq (a:List az) (Z:(List az)->Prop):Prop:=
 ∀ bh:Int,bh=(a.length:Int)->(0<=bh/\bh<=1073741824)/\∀ l5:List az,l5=List.replicate bh.toNat default->aO (σ:=Int × (List az)) (fun (i16,l17) K21=>∀ len22:Int,len22=(a.length:Int)->∀ c24:Bool,c24=decide (i16<len22)->((c24=true->(0<=i16/\i16<a.length)/\∀ x27:az,x27=at' a i16->(lW x27)/\∀ r30:az,r30=rv x27->(0<=i16/\i16<l17.length)/\∀ x44:az,x44=at' l17 i16->∀ l63:List az,l63=l17.set i16.toNat r30->(bB (i16+1))/\∀ v70:Int,v70=i16+1->K21 (v70,l63))/\(c24=false->Z l17))) (0,l5)
theorem yg (a:List az) (h:j8 a):jq a (fun y=>y=uP a):=by
 unfold jq;obtain⟨h,h'⟩:=h;simp only[forall_eq,Int.toNat_natCast];refine⟨by omega,aO.pN a.length (fun k out=>out=filled a k) _ (ec a).symm ?_⟩;rintro k out K hk rfl IH;have hl:=eN hk;simp only[decide_eq_true_eq,decide_eq_false_iff_not,bB,Int.toNat_natCast];refine⟨fun h1=>⟨by omega,?_,by omega,by omega,IH (by omega) _ (eL (by omega))⟩,fun h1=>?_⟩
 ·rw[bp (show k<a.length by omega)];exact h' _ (List.getElem_mem _)
 ·rw[show k=a.length by omega];exact eP a
abbrev de (a:I):=a
abbrev cR (a:I):Prop:=(a.nodes.length<=1048576/\∀ x ∈ a.nodes,x.links.length<=1048576)/\a.sites.length<=1048576/\a.outer.length<=1048576/\a.inner.length<=1048576
def gB (a:I) (Z:I->Prop):Prop:=
 (j8 a.nodes)/\∀ r9:List az,r9=uP a.nodes->(gQ a.sites)/\∀ r21:List Int,r21=uw a.sites->(fJ a.outer)/\∀ r37:List cP,r37=oA a.outer->(hZ a.inner)/\∀ r51:List aQ,r51=uh a.inner->Z (I.mk a.roots r9 r21 a.edges r37 r51)
theorem vf (a:I) (h:cR a):gB a (fun y=>y=de a):=by
 unfold gB;simp only[forall_eq];exact⟨h.1,h.2.1,h.2.2.1,h.2.2.2,trivial⟩
section
variable {α:Type} (g:α->Int->α) (c:Int) (l:List α) (k:Int)
end
end Go.Ab.Vg
namespace Go.Ab.Vg
section
variable {α:Type} (m:α->Int->α × Int)
end
def qm (x:az):Nat:=x.links.length+2
def AW (b:I):Nat:=(b.nodes.map qm).sum+b.sites.length+b.outer.length+2 * b.inner.length
end Go.Ab.Vg
namespace Go.Ab
open Go.Proofs
theorem aJ.AD {H:ax} {n:Nat} (t:Bool) (x:az):aJ H n (.agg (x.cells t)) (.agg (x.cells false)):=aJ.su (.agg _ (vk t x)) (by rw[p9,xt])
theorem aJ.Aj {H:ax} {n:Nat} (x:aQ):aJ H n (.agg x.cells) (.agg x.cells):=aJ.aggF (by simp[aQ.cells])
theorem aJ.FJ {H:ax} {n:Nat} (x:Control):aJ H n (.agg x.cells) (.agg x.cells):=aJ.aggF (by simp[Control.cells])
theorem e45:a8 prog 45:=a8.of func45 (by kernel_rfl) rfl
theorem tf (p q:List (Int)) (hp:p.length<=1048576):aC prog 45 [.list false (p.map av),.list false (q.map av)] (fun r=>r=bool (decide (p=q))):=by
 refine aC.of func45 rfl ntmps45 (by simp) fun Q hQ=>?_
 refine zE fun _ V=>?_
 simp;apply V;refine zS fun _ V=>?_
 simp;apply V;refine J.ite rfl (fun hc1=>?_) (fun hc1=>?_)
 ·simp at hc1;refine zE fun _ V=>?_
  simp;apply V;refine J.ret func45 (aR.one results45) (hQ _ _ _ _ (.v _ _ _) ?_);have:p ≠ q:=by intro h;subst h;omega
  simp[this]
 ·simp at hc1;have hlen:p.length=q.length:=by omega
  apply J.skip;refine zS fun _ V=>?_
  simp;apply V;refine J.block (J.bO p.length (fun k O H n=>O 0 = .list false (p.map av)/\O 1 = .list false (q.map av)/\O 5=int k/\p.take k=q.take k) ?_ ?_)
  ·simp
  ·rintro k O H n hk ⟨h0,h1,h5,heq⟩ IH;refine zS fun _ V=>?_
   simp [h0, h5];apply V;refine J.ite rfl (fun hc2=>?_) (fun hc2=>?_)
   ·simp at hc2;have hq2:k<q.length:=by omega
    apply zK;apply J.block;refine J.cO ay aA bq (by decide) (by kernel_rfl) fun _ V=>?_
    simp [h0, h1, h5, hc2, hq2, av];apply V;refine J.ite rfl (fun hc3=>?_) (fun hc3=>?_)
    ·simp at hc3;refine zE fun _ V=>?_
     simp;apply V;refine J.ret func45 (aR.one results45) (hQ _ _ _ _ (.v _ _ _) ?_);have:p ≠ q:=by intro h;subst h;exact hc3 rfl
     simp[this]
    ·simp at hc3;apply J.skip;refine zI fun _ V=>?_
     simp [h5, bm (show k < 4611686018427387904 by omega)];apply V;refine IH hc2 _ _ _ ?_;refine⟨by simp[h0,av],by simp[h1,av],by simp,?_⟩;rw[List.take_succ_eq_append_getElem hc2,List.take_succ_eq_append_getElem hq2,heq,hc3]
   ·simp at hc2;refine J.exit rfl ?_;refine zE fun _ V=>?_
    simp;apply V;refine J.ret func45 (aR.one results45) (hQ _ _ _ _ (.v _ _ _) ?_);rw[List.take_of_length_le hc2,List.take_of_length_le (by omega)] at heq;simp[heq]
theorem e46:a8 prog 46:=a8.of func46 (by kernel_rfl) rfl
theorem ur (p q:List (cP)) (hp:p.length<=1048576):aC prog 46 [.list false (p.map bg),.list false (q.map bg)] (fun r=>r=bool (decide (p=q))):=by
 refine aC.of func46 rfl ntmps46 (by simp) fun Q hQ=>?_
 refine zE fun _ V=>?_
 simp;apply V;refine zS fun _ V=>?_
 simp;apply V;refine J.ite rfl (fun hc1=>?_) (fun hc1=>?_)
 ·simp at hc1;refine zE fun _ V=>?_
  simp;apply V;refine J.ret func46 (aR.one results46) (hQ _ _ _ _ (.v _ _ _) ?_);have:p ≠ q:=by intro h;subst h;omega
  simp[this]
 ·simp at hc1;have hlen:p.length=q.length:=by omega
  apply J.skip;refine zS fun _ V=>?_
  simp;apply V;refine J.block (J.bO p.length (fun k O H n=>O 0 = .list false (p.map bg)/\O 1 = .list false (q.map bg)/\O 5=int k/\p.take k=q.take k) ?_ ?_)
  ·simp
  ·rintro k O H n hk ⟨h0,h1,h5,heq⟩ IH;refine zS fun _ V=>?_
   simp [h0, h5];apply V;refine J.ite rfl (fun hc2=>?_) (fun hc2=>?_)
   ·simp at hc2;have hq2:k<q.length:=by omega
    apply zK;apply J.block;refine J.cO ay aA bq (by decide) (by kernel_rfl) fun _ V=>?_
    simp [h0, h1, h5, hc2, hq2, bg];apply V;refine J.ite rfl (fun hc3=>?_) (fun hc3=>?_)
    ·simp at hc3;refine zE fun _ V=>?_
     simp;apply V;refine J.ret func46 (aR.one results46) (hQ _ _ _ _ (.v _ _ _) ?_);have:p ≠ q:=by intro h;subst h;exact hc3 rfl
     simp[this]
    ·simp at hc3;apply J.skip;refine zI fun _ V=>?_
     simp [h5, bm (show k < 4611686018427387904 by omega)];apply V;refine IH hc2 _ _ _ ?_;refine⟨by simp[h0,bg],by simp[h1,bg],by simp,?_⟩;rw[List.take_succ_eq_append_getElem hc2,List.take_succ_eq_append_getElem hq2,heq,hc3]
   ·simp at hc2;refine J.exit rfl ?_;refine zE fun _ V=>?_
    simp;apply V;refine J.ret func46 (aR.one results46) (hQ _ _ _ _ (.v _ _ _) ?_);rw[List.take_of_length_le hc2,List.take_of_length_le (by omega)] at heq;simp[heq]
theorem e113:a8 prog 113:=a8.of func113 (by kernel_rfl) rfl
theorem CC (x y:aQ):aC prog 113 [.agg (aQ.cells x),.agg (aQ.cells y)] (fun r=>r=bool (decide (x=y))):=by
 obtain⟨x0,x1⟩:=x;obtain⟨y0,y1⟩:=y;refine aC.of func113 rfl ntmps113 (by simp) fun Q hQ=>?_
 refine zE fun _ V=>?_
 simp [aQ.cells, aB, encI, encS, aD];apply V;refine zS fun _ V=>?_
 simp;apply V;refine J.ite rfl (fun hc=>?_) (fun hd0=>?_)
 ·simp at hc;refine zE fun _ V=>?_
  simp;apply V;exact J.ret func113 (aR.one results113) (hQ _ _ _ _ (.v _ _ _) (by simp[hc]))
 simp at hd0;apply J.skip;refine zS fun _ V=>?_
 simp;apply V;refine J.ite rfl (fun hc=>?_) (fun hd1=>?_)
 ·simp at hc;refine zE fun _ V=>?_
  simp;apply V;exact J.ret func113 (aR.one results113) (hQ _ _ _ _ (.v _ _ _) (by simp[hc]))
 simp at hd1;apply J.skip;refine zE fun _ V=>?_
 simp;apply V;exact J.ret func113 (aR.one results113) (hQ _ _ _ _ (.v _ _ _) (by simp[hd0,hd1]))
theorem e47:a8 prog 47:=a8.of func47 (by kernel_rfl) rfl
theorem ze (p q:List (aQ)) (hp:p.length<=1048576):aC prog 47 [.list false (p.map aQ.cells),.list false (q.map aQ.cells)] (fun r=>r=bool (decide (p=q))):=by
 refine aC.of func47 rfl ntmps47 (by simp) fun Q hQ=>?_
 refine zE fun _ V=>?_
 simp;apply V;refine zS fun _ V=>?_
 simp;apply V;refine J.ite rfl (fun hc1=>?_) (fun hc1=>?_)
 ·simp at hc1;refine zE fun _ V=>?_
  simp;apply V;refine J.ret func47 (aR.one results47) (hQ _ _ _ _ (.v _ _ _) ?_);have:p ≠ q:=by intro h;subst h;omega
  simp[this]
 ·simp at hc1;have hlen:p.length=q.length:=by omega
  apply J.skip;refine zS fun _ V=>?_
  simp;apply V;refine J.block (J.bO p.length (fun k O H n=>O 0 = .list false (p.map aQ.cells)/\O 1 = .list false (q.map aQ.cells)/\O 5=int k/\p.take k=q.take k) ?_ ?_)
  ·simp
  ·rintro k O H n hk ⟨h0,h1,h5,heq⟩ IH;refine zS fun _ V=>?_
   simp [h0, h5];apply V;refine J.ite rfl (fun hc2=>?_) (fun hc2=>?_)
   ·simp at hc2;have hq2:k<q.length:=by omega
    apply zK;apply J.block;refine J.cO ay aA bq (by decide) (by kernel_rfl) fun _ V=>?_
    simp [h0, h1, h5, hc2, hq2, aQ.cells];refine bf.bN ay aA (CC p[k] q[k]) e113 (.cons (aJ.Aj p[k]) (.cons (aJ.Aj q[k]) .nil)) (by decide) rfl (by simp[aQ.cells]) ?_;simp;apply V;refine J.ite rfl (fun hc3=>?_) (fun hc3=>?_)
    ·simp at hc3;refine zE fun _ V=>?_
     simp;apply V;refine J.ret func47 (aR.one results47) (hQ _ _ _ _ (.v _ _ _) ?_);have:p ≠ q:=by intro h;subst h;exact hc3 rfl
     simp[this]
    ·simp at hc3;apply J.skip;refine zI fun _ V=>?_
     simp [h5, bm (show k < 4611686018427387904 by omega)];apply V;refine IH hc2 _ _ _ ?_;refine⟨by simp[h0,aQ.cells],by simp[h1,aQ.cells],by simp,?_⟩;rw[List.take_succ_eq_append_getElem hc2,List.take_succ_eq_append_getElem hq2,heq,hc3]
   ·simp at hc2;refine J.exit rfl ?_;refine zE fun _ V=>?_
    simp;apply V;refine J.ret func47 (aR.one results47) (hQ _ _ _ _ (.v _ _ _) ?_);rw[List.take_of_length_le hc2,List.take_of_length_le (by omega)] at heq;simp[heq]
theorem e43:a8 prog 43:=a8.of func43 (by kernel_rfl) rfl
theorem uU (x y:Control):aC prog 43 [.agg (Control.cells x),.agg (Control.cells y)] (fun r=>r=bool (decide (x=y))):=by
 obtain⟨x0,x1,x2⟩:=x;obtain⟨y0,y1,y2⟩:=y;refine aC.of func43 rfl ntmps43 (by simp) fun Q hQ=>?_
 refine zE fun _ V=>?_
 simp [Control.cells, aB, encI, encS, aD];apply V;refine zS fun _ V=>?_
 simp;apply V;refine J.ite rfl (fun hc=>?_) (fun hd0=>?_)
 ·simp at hc;refine zE fun _ V=>?_
  simp;apply V;exact J.ret func43 (aR.one results43) (hQ _ _ _ _ (.v _ _ _) (by simp[hc]))
 simp at hd0;apply J.skip;refine zS fun _ V=>?_
 simp;apply V;refine J.ite rfl (fun hc=>?_) (fun hd1=>?_)
 ·simp at hc;refine zE fun _ V=>?_
  simp;apply V;exact J.ret func43 (aR.one results43) (hQ _ _ _ _ (.v _ _ _) (by simp[hc]))
 simp at hd1;apply J.skip;refine zS fun _ V=>?_
 simp;apply V;refine J.ite rfl (fun hc=>?_) (fun hd2=>?_)
 ·simp at hc;refine zE fun _ V=>?_
  simp;apply V;exact J.ret func43 (aR.one results43) (hQ _ _ _ _ (.v _ _ _) (by simp[hc]))
 simp at hd2;apply J.skip;refine zE fun _ V=>?_
 simp;apply V;exact J.ret func43 (aR.one results43) (hQ _ _ _ _ (.v _ _ _) (by simp[hd0,hd1,hd2]))
theorem e13:a8 prog 13:=a8.of func13 (by kernel_rfl) rfl
theorem sF (p q:List (Control)) (hp:p.length<=1048576):aC prog 13 [.list false (p.map Control.cells),.list false (q.map Control.cells)] (fun r=>r=bool (decide (p=q))):=by
 refine aC.of func13 rfl ntmps13 (by simp) fun Q hQ=>?_
 refine zE fun _ V=>?_
 simp;apply V;refine zS fun _ V=>?_
 simp;apply V;refine J.ite rfl (fun hc1=>?_) (fun hc1=>?_)
 ·simp at hc1;refine zE fun _ V=>?_
  simp;apply V;refine J.ret func13 (aR.one results13) (hQ _ _ _ _ (.v _ _ _) ?_);have:p ≠ q:=by intro h;subst h;omega
  simp[this]
 ·simp at hc1;have hlen:p.length=q.length:=by omega
  apply J.skip;refine zS fun _ V=>?_
  simp;apply V;refine J.block (J.bO p.length (fun k O H n=>O 0 = .list false (p.map Control.cells)/\O 1 = .list false (q.map Control.cells)/\O 5=int k/\p.take k=q.take k) ?_ ?_)
  ·simp
  ·rintro k O H n hk ⟨h0,h1,h5,heq⟩ IH;refine zS fun _ V=>?_
   simp [h0, h5];apply V;refine J.ite rfl (fun hc2=>?_) (fun hc2=>?_)
   ·simp at hc2;have hq2:k<q.length:=by omega
    apply zK;apply J.block;refine J.cO ay aA bq (by decide) (by kernel_rfl) fun _ V=>?_
    simp [h0, h1, h5, hc2, hq2, Control.cells];refine bf.bN ay aA (uU p[k] q[k]) e43 (.cons (aJ.FJ p[k]) (.cons (aJ.FJ q[k]) .nil)) (by decide) rfl (by simp[Control.cells]) ?_;simp;apply V;refine J.ite rfl (fun hc3=>?_) (fun hc3=>?_)
    ·simp at hc3;refine zE fun _ V=>?_
     simp;apply V;refine J.ret func13 (aR.one results13) (hQ _ _ _ _ (.v _ _ _) ?_);have:p ≠ q:=by intro h;subst h;exact hc3 rfl
     simp[this]
    ·simp at hc3;apply J.skip;refine zI fun _ V=>?_
     simp [h5, bm (show k < 4611686018427387904 by omega)];apply V;refine IH hc2 _ _ _ ?_;refine⟨by simp[h0,Control.cells],by simp[h1,Control.cells],by simp,?_⟩;rw[List.take_succ_eq_append_getElem hc2,List.take_succ_eq_append_getElem hq2,heq,hc3]
   ·simp at hc2;refine J.exit rfl ?_;refine zE fun _ V=>?_
    simp;apply V;refine J.ret func13 (aR.one results13) (hQ _ _ _ _ (.v _ _ _) ?_);rw[List.take_of_length_le hc2,List.take_of_length_le (by omega)] at heq;simp[heq]
theorem e112:a8 prog 112:=a8.of func112 (by kernel_rfl) rfl
theorem Co (x y:az) (hl:x.links.length<=1048576):aC prog 112 [.agg (az.cells false x),.agg (az.cells false y)] (fun r=>r=bool (decide (x=y))):=by
 obtain⟨x0,x1,x2⟩:=x;obtain⟨y0,y1,y2⟩:=y;refine aC.of func112 rfl ntmps112 (by simp) fun Q hQ=>?_
 refine zE fun _ V=>?_
 simp [az.cells, aB, encI, encS, aD];apply V;refine zS fun _ V=>?_
 simp;apply V;refine J.ite rfl (fun hc=>?_) (fun hd0=>?_)
 ·simp at hc;refine zE fun _ V=>?_
  simp;apply V;exact J.ret func112 (aR.one results112) (hQ _ _ _ _ (.v _ _ _) (by simp[hc]))
 simp at hd0;apply J.skip;refine zS fun _ V=>?_
 simp;apply V;refine J.ite rfl (fun hc=>?_) (fun hd1=>?_)
 ·simp at hc;refine zE fun _ V=>?_
  simp;apply V;exact J.ret func112 (aR.one results112) (hQ _ _ _ _ (.v _ _ _) (by simp[hc]))
 simp at hd1;apply J.skip;refine zS fun _ V=>?_
 simp;refine zA (tf x2 y2 hl) e45 (.cons (aJ.encI false x2) (.cons (aJ.encI false y2) .nil)) (by simp[aB,encI,encS,aD]) ?_;rintro _ rfl;simp;apply V;refine J.ite rfl (fun hc=>?_) (fun hd2=>?_)
 ·simp at hc;refine zE fun _ V=>?_
  simp;apply V;exact J.ret func112 (aR.one results112) (hQ _ _ _ _ (.v _ _ _) (by simp[hc]))
 simp at hd2;apply J.skip;refine zE fun _ V=>?_
 simp;apply V;exact J.ret func112 (aR.one results112) (hQ _ _ _ _ (.v _ _ _) (by simp[hd0,hd1,hd2]))
theorem e44:a8 prog 44:=a8.of func44 (by kernel_rfl) rfl
theorem zl (p q:List (az)) (hp:p.length<=1048576) (hl:∀ x ∈ p,x.links.length<=1048576):aC prog 44 [.list false (p.map (az.cells false)),.list false (q.map (az.cells false))] (fun r=>r=bool (decide (p=q))):=by
 refine aC.of func44 rfl ntmps44 (by simp) fun Q hQ=>?_
 refine zE fun _ V=>?_
 simp;apply V;refine zS fun _ V=>?_
 simp;apply V;refine J.ite rfl (fun hc1=>?_) (fun hc1=>?_)
 ·simp at hc1;refine zE fun _ V=>?_
  simp;apply V;refine J.ret func44 (aR.one results44) (hQ _ _ _ _ (.v _ _ _) ?_);have:p ≠ q:=by intro h;subst h;omega
  simp[this]
 ·simp at hc1;have hlen:p.length=q.length:=by omega
  apply J.skip;refine zS fun _ V=>?_
  simp;apply V;refine J.block (J.bO p.length (fun k O H n=>O 0 = .list false (p.map (az.cells false))/\O 1 = .list false (q.map (az.cells false))/\O 5=int k/\p.take k=q.take k) ?_ ?_)
  ·simp
  ·rintro k O H n hk ⟨h0,h1,h5,heq⟩ IH;refine zS fun _ V=>?_
   simp [h0, h5];apply V;refine J.ite rfl (fun hc2=>?_) (fun hc2=>?_)
   ·simp at hc2;have hq2:k<q.length:=by omega
    apply zK;apply J.block;refine J.cO ay aA bq (by decide) (by kernel_rfl) fun _ V=>?_
    simp [h0, h1, h5, hc2, hq2, az.cells];refine bf.bN ay aA (Co p[k] q[k] (hl _ (List.getElem_mem hc2))) e112 (.cons (aJ.AD false p[k]) (.cons (aJ.AD false q[k]) .nil)) (by decide) rfl (by simp[az.cells]) ?_;simp;apply V;refine J.ite rfl (fun hc3=>?_) (fun hc3=>?_)
    ·simp at hc3;refine zE fun _ V=>?_
     simp;apply V;refine J.ret func44 (aR.one results44) (hQ _ _ _ _ (.v _ _ _) ?_);have:p ≠ q:=by intro h;subst h;exact hc3 rfl
     simp[this]
    ·simp at hc3;apply J.skip;refine zI fun _ V=>?_
     simp [h5, bm (show k < 4611686018427387904 by omega)];apply V;refine IH hc2 _ _ _ ?_;refine⟨by simp[h0,az.cells],by simp[h1,az.cells],by simp,?_⟩;rw[List.take_succ_eq_append_getElem hc2,List.take_succ_eq_append_getElem hq2,heq,hc3]
   ·simp at hc2;refine J.exit rfl ?_;refine zE fun _ V=>?_
    simp;apply V;refine J.ret func44 (aR.one results44) (hQ _ _ _ _ (.v _ _ _) ?_);rw[List.take_of_length_le hc2,List.take_of_length_le (by omega)] at heq;simp[heq]
theorem e14:a8 prog 14:=a8.of func14 (by kernel_rfl) rfl
theorem nM (x y:I) (hb:x.nodes.length<=1048576/\(∀ z ∈ x.nodes,z.links.length<=1048576)/\x.sites.length<=1048576/\x.outer.length<=1048576/\x.inner.length<=1048576):aC prog 14 [.agg (I.cells false x),.agg (I.cells false y)] (fun r=>r=bool (decide (x=y))):=by
 obtain⟨x0,x1,x2,x3,x4,x5⟩:=x;obtain⟨y0,y1,y2,y3,y4,y5⟩:=y;refine aC.of func14 rfl ntmps14 (by simp) fun Q hQ=>?_
 refine zE fun _ V=>?_
 simp [I.cells, aB, encI, encS, aD];apply V;refine zS fun _ V=>?_
 simp;apply V;refine J.ite rfl (fun hc=>?_) (fun hd0=>?_)
 ·simp at hc;refine zE fun _ V=>?_
  simp;apply V;exact J.ret func14 (aR.one results14) (hQ _ _ _ _ (.v _ _ _) (by simp[hc]))
 simp at hd0;apply J.skip;refine zS fun _ V=>?_
 simp;refine zA (zl x1 y1 hb.1 hb.2.1) e44 (.cons (aJ.aB false x1) (.cons (aJ.aB false y1) .nil)) (by simp[aB,encI,encS,aD]) ?_;rintro _ rfl;simp;apply V;refine J.ite rfl (fun hc=>?_) (fun hd1=>?_)
 ·simp at hc;refine zE fun _ V=>?_
  simp;apply V;exact J.ret func14 (aR.one results14) (hQ _ _ _ _ (.v _ _ _) (by simp[hc]))
 simp at hd1;apply J.skip;refine zS fun _ V=>?_
 simp;refine zA (tf x2 y2 hb.2.2.1) e45 (.cons (aJ.encI false x2) (.cons (aJ.encI false y2) .nil)) (by simp[aB,encI,encS,aD]) ?_;rintro _ rfl;simp;apply V;refine J.ite rfl (fun hc=>?_) (fun hd2=>?_)
 ·simp at hc;refine zE fun _ V=>?_
  simp;apply V;exact J.ret func14 (aR.one results14) (hQ _ _ _ _ (.v _ _ _) (by simp[hc]))
 simp at hd2;apply J.skip;refine zS fun _ V=>?_
 simp;apply V;refine J.ite rfl (fun hc=>?_) (fun hd3=>?_)
 ·simp at hc;refine zE fun _ V=>?_
  simp;apply V;exact J.ret func14 (aR.one results14) (hQ _ _ _ _ (.v _ _ _) (by simp[hc]))
 simp at hd3;apply J.skip;refine zS fun _ V=>?_
 simp;refine zA (ur x4 y4 hb.2.2.2.1) e46 (.cons (aJ.encS false x4) (.cons (aJ.encS false y4) .nil)) (by simp[aB,encI,encS,aD]) ?_;rintro _ rfl;simp;apply V;refine J.ite rfl (fun hc=>?_) (fun hd4=>?_)
 ·simp at hc;refine zE fun _ V=>?_
  simp;apply V;exact J.ret func14 (aR.one results14) (hQ _ _ _ _ (.v _ _ _) (by simp[hc]))
 simp at hd4;apply J.skip;refine zS fun _ V=>?_
 simp;refine zA (ze x5 y5 hb.2.2.2.2) e47 (.cons (aJ.aD false x5) (.cons (aJ.aD false y5) .nil)) (by simp[aB,encI,encS,aD]) ?_;rintro _ rfl;simp;apply V;refine J.ite rfl (fun hc=>?_) (fun hd5=>?_)
 ·simp at hc;refine zE fun _ V=>?_
  simp;apply V;exact J.ret func14 (aR.one results14) (hQ _ _ _ _ (.v _ _ _) (by simp[hc]))
 simp at hd5;apply J.skip;refine zE fun _ V=>?_
 simp;apply V;exact J.ret func14 (aR.one results14) (hQ _ _ _ _ (.v _ _ _) (by simp[hd0,hd1,hd2,hd3,hd4,hd5]))
end Go.Ab
namespace Go.Ab
open Go.Proofs
theorem e37:a8 prog 37:=a8.of func37 (by kernel_rfl) rfl
theorem iJ (p:List (Int)) (hp:p.length<=1048576):aC prog 37 [.list false (p.map av)] (fun r=>r = .list true (p.map av)):=by
 refine aC.of func37 rfl ntmps37 (by simp) fun Q hQ=>?_
 refine zE fun _ V=>?_
 simp;apply V;refine zE fun _ V=>?_
 simp [show (p.length : Int) <= 1073741824 by omega];apply V;refine zS fun _ V=>?_
 simp;apply V;refine J.block (J.bO p.length (fun k O H n=>O 0 = .list false (p.map av)/\O 4=int k/\O 3 = .arr (0,7) p.length 0 p.length/\H (0,7)=some ⟨1,part av [int 0] p k⟩) ?_ ?_)
 ·simp[av,iV]
 ·rintro k O H n hk ⟨h0,h4,h3,hH⟩ IH;refine zS fun _ V=>?_
  simp [h0, h4];apply V;refine J.ite rfl (fun hc1=>?_) (fun hc1=>?_)
  ·simp at hc1;apply zK;apply J.block;refine zF fun _ V=>?_
   simp [h0, h3, h4, hH, hc1, fN hk, fk hc1, av];apply V;refine zI fun _ V=>?_
   simp [h4, bm (show k < 4611686018427387904 by omega)];apply V;refine IH hc1 _ _ _ ?_;rw[<- j5 hc1];simp[h0,h3,av,iQ hc1]
  ·simp at hc1;have hke:k=p.length:=by omega
   subst hke;rw[ko] at hH;refine J.exit rfl ?_;refine zE fun _ V=>?_
   simp [h3];apply V;exact J.ret func37 (aR.one results37) (hQ _ _ _ _ (.of (jk.xR (by simp[hH];rfl) (by simp[av,av]))) rfl)
theorem e38:a8 prog 38:=a8.of func38 (by kernel_rfl) rfl
theorem jJ (p:List (cP)) (hp:p.length<=1048576):aC prog 38 [.list false (p.map bg)] (fun r=>r = .list true (p.map bg)):=by
 refine aC.of func38 rfl ntmps38 (by simp) fun Q hQ=>?_
 refine zE fun _ V=>?_
 simp;apply V;refine zE fun _ V=>?_
 simp [show (p.length : Int) <= 1073741824 by omega];apply V;refine zS fun _ V=>?_
 simp;apply V;refine J.block (J.bO p.length (fun k O H n=>O 0 = .list false (p.map bg)/\O 4=int k/\O 3 = .arr (0,7) p.length 0 p.length/\H (0,7)=some ⟨1,part bg [str []] p k⟩) ?_ ?_)
 ·simp[bg,iV]
 ·rintro k O H n hk ⟨h0,h4,h3,hH⟩ IH;refine zS fun _ V=>?_
  simp [h0, h4];apply V;refine J.ite rfl (fun hc1=>?_) (fun hc1=>?_)
  ·simp at hc1;apply zK;apply J.block;refine zF fun _ V=>?_
   simp [h0, h3, h4, hH, hc1, fN hk, fk hc1, bg];apply V;refine zI fun _ V=>?_
   simp [h4, bm (show k < 4611686018427387904 by omega)];apply V;refine IH hc1 _ _ _ ?_;rw[<- j5 hc1];simp[h0,h3,bg,iQ hc1]
  ·simp at hc1;have hke:k=p.length:=by omega
   subst hke;rw[ko] at hH;refine J.exit rfl ?_;refine zE fun _ V=>?_
   simp [h3];apply V;exact J.ret func38 (aR.one results38) (hQ _ _ _ _ (.of (jk.xR (by simp[hH];rfl) (by simp[bg,av]))) rfl)
end Go.Ab
