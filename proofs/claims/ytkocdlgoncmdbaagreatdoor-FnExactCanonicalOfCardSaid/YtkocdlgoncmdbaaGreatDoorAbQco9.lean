/- Merged texts (9 of 17) of the proof that ends in Coy: Kp Ma Mb Mc Uj Uk Lm Nm Gm Gn. -/
import Derived.Test.YtkocdlgoncmdbaaGreatDoorAbQco8
import Derived.Laws.BytesString
open Go.Proofs.Tryz
set_option linter.unusedSimpArgs false
set_option linter.unusedVariables false
namespace Go.Ab.Vg
open Go.Proofs
section
variable {P:Program} {f:FuncId} {N:Nat} {k:List Item} {Q:I->av->Nat->Prop} {Ty:Types} {l:List Oper} {O:Env} {H:av} {n:Nat}
theorem bq.callS2 {ops:Array Oper} {d:Option Tmp} {g:Operand} {args:Array Operand} {ats:Array TypeId} {ty:TypeId} {pos:String} {af:Array Edge} {post:I->av->Nat->Prop} {f':FuncId} {as1:List I}
  (h:bt P f' as1 H n post) (c8:a8 P f') (hd:dL N d=true) (hg:O.ev g = .fn (.func f') [] []) (has:args.toList.map O.ev=as1)
  (hk:∀ v H1 U,post v H1 U->bq P f N k Q ops l (O.put d v) H1 U):bq P f N k Q ops (⟨d,.call ⟨.value g,args,ats⟩,ty,pos,af,none⟩::l) O H n:=by
 refine fX.op rfl hd ((aK.call (first:=[]) (captured:=[]) hg c8 (by rw[has,List.nil_append,List.append_nil];exact h)).mono ?_);exact hk
end
theorem rp {b:aG} {φ:I->I} (hφ:∀ a,gm a->φ a=a) (p:dz):(bV b p).map φ=bV b (p.1,φ p.2):=by
 rw[bV,zr hφ (BM _) (.inr trivial),hφ _ (BM _),Option.map_some,hφ _ (BM _)];rfl
theorem Cn {b:aG} {a:gl} {v w:I} (h:Sub v w):jM (bV b (a,v)) (bV b (a,w)):=
 jM.append (.refl _) (jM.append (.refl _) (.cons (.refl _) (.cons (.refl _) (.cons h .nil))))
def eA (b:aG) (a:gl):List I:=bV b (a,.list true (a.code.map au))
def j7 (b:aG) (a:gl) (j:Nat):List gl:=(((List.range j).map fun i:Nat=>(i:Int)).filter (dm b a.s.pl)).map fun k=>⟨a.order++[k],bF b a.s k,a.code++(bk b a.s k).1⟩
theorem Bm (b:aG) (a:gl):j7 b a b.nodes.length=fV b a:=rfl
theorem BO {b:aG} {a:gl} {j:Nat} (h:dm b a.s.pl (j:Int)=true):j7 b a (j+1)=j7 b a j++[⟨a.order++[(j:Int)],bF b a.s j,a.code++(bk b a.s j).1⟩]:=by simp[j7,List.range_succ,h]
theorem vS {b:aG} {a:gl} {j:Nat} (h:dm b a.s.pl (j:Int)=false):j7 b a (j+1)=j7 b a j:=by simp[j7,List.range_succ,h]
structure BW (b:aG) (C L ai X:Id) (m i j len qlen:Nat) (rows qrows:List (List I)) (xrow:List I) (O:Env) (H:av):Prop where
 r1:O 1 = .ptr (0,1) 1 0 0
 r3:O 3 = .ptr C 1 0 0
 r5:O 5=int m
 r6:O 6 = .arr ai qlen 0 qlen
 r8:O 8 = .ptr X 1 0 0
 r24:O 24=int b.nodes.length
 r25:O 25=int m
 r29:O 29 = .arr L len 0 len
 r30:O 30=int len
 r31:O 31=int i
 r36:O 36 = .list false (b.nodes.map (ay.cells false))
 r37:O 37=int b.nodes.length
 r38:O 38=int j
 mB:H (0,1)=some ⟨6,[aG.cells false b]⟩
 mC:∃ cs,H C=some ⟨9,[cs]⟩/\cs.length=9
 mL:H L=some ⟨10,rows⟩
 mM:H ai=some ⟨10,qrows⟩
 mX:H X=some ⟨10,[xrow]⟩
theorem BW.keep {b:aG} {C L ai X:Id} {m i j len qlen:Nat} {rows qrows:List (List I)} {xrow:List I} {O ρ':Env} {H H':av} (h:BW b C L ai X m i j len qlen rows qrows xrow O H)
  (hr:∀ t ∈ [1,3,5,6,8,24,25,29,30,31,36,37,38],ρ' t=O t) (hH:∀ k ∈ [X,ai,L,C,(0,1)],H' k=H k):BW b C L ai X m i j len qlen rows qrows xrow ρ' H' where
 r1:=(hr 1 (by simp)).trans h.r1
 r3:=(hr 3 (by simp)).trans h.r3
 r5:=(hr 5 (by simp)).trans h.r5
 r6:=(hr 6 (by simp)).trans h.r6
 r8:=(hr 8 (by simp)).trans h.r8
 r24:=(hr 24 (by simp)).trans h.r24
 r25:=(hr 25 (by simp)).trans h.r25
 r29:=(hr 29 (by simp)).trans h.r29
 r30:=(hr 30 (by simp)).trans h.r30
 r31:=(hr 31 (by simp)).trans h.r31
 r36:=(hr 36 (by simp)).trans h.r36
 r37:=(hr 37 (by simp)).trans h.r37
 r38:=(hr 38 (by simp)).trans h.r38
 mB:=(hH _ (by simp)).trans h.mB
 mC:=by obtain⟨cs,h1,h2⟩:=h.mC;exact⟨cs,(hH _ (by simp)).trans h1,h2⟩
 mL:=(hH _ (by simp)).trans h.mL
 mM:=(hH _ (by simp)).trans h.mM
 mX:=(hH _ (by simp)).trans h.mX
theorem vy {qs:List dz} {i:Nat} {p:dz} (h:i<qs.length):et (qs.set i p)=et (qs.take i)++oI p.2 p.1.code::et (qs.drop (i+1)):=by
 rw[List.set_eq_take_append_cons_drop,if_pos h];simp only[et,List.map_append,List.map_cons]
theorem yP {qs:List dz} {i:Nat} (h:i<qs.length):et qs=et (qs.take i)++oI qs[i].2 qs[i].1.code::et (qs.drop (i+1)):=by
 have h1:=vy (p:=qs[i]) h;rw[List.set_getElem_self] at h1;exact h1
theorem BW.fz {b:aG} {C L ai X:Id} {m i j len qlen:Nat} {rows qrows:List (List I)} {xrow:List I} {O:Env} {H H':av} {φ:I->I} {ids:List Id} (h:BW b C L ai X m i j len qlen rows qrows xrow O H)
  (hin:∀ k ∈ [X,ai,L,C,(0,1)],k ∈ ids) (hH:∀ k ∈ ids,H' k=(H k).map fun o=>⟨o.size,o.els.map fun e=>e.map φ⟩) (hφ:∀ a,gm a->φ a=a) (hp:∀ i ∈ ids,∀ g x y,φ (.ptr i g x y) = .ptr i g x y/\φ (.arr i g x y) = .arr i g x y)
  (h1:rows.map (fun e=>e.map φ)=rows) (h2:qrows.map (fun e=>e.map φ)=qrows) (h3:xrow.map φ=xrow):BW b C L ai X m i j len qlen rows qrows xrow (fun t=>φ (O t)) H' where
 r1:=by show φ (O 1)=_;rw[h.r1];exact (hp _ (hin _ (by simp)) _ _ _).1
 r3:=by show φ (O 3)=_;rw[h.r3];exact (hp _ (hin _ (by simp)) _ _ _).1
 r5:=by show φ (O 5)=_;rw[h.r5];exact hφ _ (.v _)
 r6:=by show φ (O 6)=_;rw[h.r6];exact (hp _ (hin _ (by simp)) _ _ _).2
 r8:=by show φ (O 8)=_;rw[h.r8];exact (hp _ (hin _ (by simp)) _ _ _).1
 r24:=by show φ (O 24)=_;rw[h.r24];exact hφ _ (.v _)
 r25:=by show φ (O 25)=_;rw[h.r25];exact hφ _ (.v _)
 r29:=by show φ (O 29)=_;rw[h.r29];exact (hp _ (hin _ (by simp)) _ _ _).2
 r30:=by show φ (O 30)=_;rw[h.r30];exact hφ _ (.v _)
 r31:=by show φ (O 31)=_;rw[h.r31];exact hφ _ (.v _)
 r36:=by show φ (O 36)=_;rw[h.r36];exact hφ _ (pK false b _ (by simp[aG.cells,bE]))
 r37:=by show φ (O 37)=_;rw[h.r37];exact hφ _ (.v _)
 r38:=by show φ (O 38)=_;rw[h.r38];exact hφ _ (.v _)
 mB:=by
  have hBm:(aG.cells false b).map φ=aG.cells false b:=by
   conv=>rhs;rw[<- List.map_id (aG.cells false b)]
   exact List.map_congr_left fun a ha=>hφ a (pK false b a ha)
  rw[hH _ (hin _ (by simp)),h.mB];simp[hBm]
 mC:=by obtain⟨cs,q1,q2⟩:=h.mC;exact⟨cs.map φ,by rw[hH _ (hin _ (by simp)),q1];simp,by simp[q2]⟩
 mL:=by rw[hH _ (hin _ (by simp)),h.mL];simp[h1]
 mM:=by rw[hH _ (hin _ (by simp)),h.mM];simp[h2]
 mX:=by rw[hH _ (hin _ (by simp)),h.mX];simp[h3]
section
theorem e144:a8 prog 144:=a8.of func144 (by kernel_rfl) rfl
theorem eB.pts {H:av} {n:Nat} {as1 bs:List I} (hl:as1.length=bs.length) (h:∀ (i:Nat) (a c:I),as1[i]?=some a->bs[i]?=some c->eB H n a c):eB H n (.agg as1) (.agg bs)/\eB H n (.tup as1) (.tup bs):=by
 constructor
 ·intro c x hH hn g r c' hw hm hB;cases r with
  | agg _ vs hl' hr=>
  refine .agg _ vs (by omega) fun i a x ha hx=>?_
  obtain⟨a0,ha0⟩:=ba (l:=as1) (i:=i) (by rw[hl];exact (List.getElem?_eq_some_iff.1 ha).1);exact h i a0 a ha0 ha c x hH hn g (hr i a0 x ha0 hx) c' hw hm hB
 ·intro c x hH hn g r c' hw hm hB;cases r with
  | tup _ vs hl' hr=>
  refine .tup _ vs (by omega) fun i a x ha hx=>?_
  obtain⟨a0,ha0⟩:=ba (l:=as1) (i:=i) (by rw[hl];exact (List.getElem?_eq_some_iff.1 ha).1);exact h i a0 a ha0 ha c x hH hn g (hr i a0 x ha0 hx) c' hw hm hB
theorem eB.ints (H:av) (n:Nat) (l:List Int):eB H n (.list true (l.map au)) (.list true (l.map au)):=.of (jD.fresh (by
 rw[xm];intro e he a ha;obtain⟨x,_,rfl⟩:=List.mem_map.1 he;simp only[au,List.mem_singleton] at ha;subst ha;exact .v _))
def nt (b:aG):List gl:=fA ((bX b b.nodes.length).map (db b))
instance:Inhabited gl:=⟨⟨[],⟨[],[],0⟩,[]⟩⟩
def aY (b:aG):gl:=dg (nt b) (at' (nt b) 0)
def fZ (d:dz) (l:List dz):dz:=l.foldl (fun best x=>if cmpL x.1.order best.1.order<0 then x else best) d
theorem AT (d:dz) (l:List dz):(fZ d l).1=dg (l.map (·.1)) d.1:=by
 induction l generalizing d with
 | nil=>rfl
 | cons x l ih=>
  have h1:fZ d (x::l)=fZ (if cmpL x.1.order d.1.order<0 then x else d) l:=rfl;have h2:dg ((x::l).map (·.1)) d.1=dg (l.map (·.1)) (if cmpL x.1.order d.1.order<0 then x.1 else d.1):=rfl;rw[h1,h2,ih]
  congr 1
  split<;>rfl
theorem zL (d:dz) (l:List dz):fZ d l=d\/fZ d l ∈ l:=by
 induction l generalizing d with
 | nil=>exact .inl rfl
 | cons x l ih=>
  have h1:fZ d (x::l)=fZ (if cmpL x.1.order d.1.order<0 then x else d) l:=rfl;rw[h1];rcases ih (if cmpL x.1.order d.1.order<0 then x else d) with h | h
  ·rw[h]
   split
   ·exact .inr (by simp)
   ·exact .inl rfl
  ·exact .inr (by simp[h])
set_option maxRecDepth 100000 in
theorem mS {sig:dG} {b:aG} (hv:bn sig b) (he:mG b) (hdn:fu b):bt prog 105 [.agg (aG.cells false b)] bu 0 (fun v _ _=>∃ q,Ab.aE q=true/\v = .tup [.list true ((aY b).order.map au),.agg (cJ none b (.list true ((aY b).s.es.map au)) (.list true ((aY b).s.pl.map au)) q)]):=by
 have hn8:=hv.len;refine bt.of func105 rfl ntmps105 (by simp) fun Q hQ=>?_
 have M:Sep bu 0 [] []:=Sep.nil (by simp);refine zE fun _ V=>?_
 simp[aG.cells];apply V;refine J.cut (fun O H n=>∃ C:Id,O 1 = .ptr (0,1) 1 0 0/\O 3 = .ptr C 1 0 0/\C ≠ (0,1)/\H (0,1)=some ⟨6,[aG.cells false b]⟩/\(∃ cs,H C=some ⟨9,[cs]⟩/\cs.length=9)/\Sep H n [] [C,(0,1)]) ⟨(1,3),by simp,by simp,by simp,by simp[aG.cells],⟨_,by simp;rfl,rfl⟩,Sep.var (Sep.var M)⟩ ?_;clear V M;rintro O H n ⟨C,r1,r3,hCB,mB,⟨cs,mC,hcs⟩,M⟩;refine J.seqK aw (by decide) fun _ V=>?_
 refine bq.lK (v:=.agg (aG.cells false b)) aw (by decide) rfl (by simp[r1,mB,aG.cells]) ?_;refine bq.callS2 (yC (b:=b) (by omega) M) e141 (by decide) rfl (by simp) ?_;rintro _ H1 U ⟨X,rfl,hX0,mX,sp2,fr2,hn1⟩;refine bq.lK (v:=.ptr X 1 0 0) aw (by decide) rfl (by simp[mX]) ?_;refine bq.lK (v:=.agg (cJ none b (.v (.slice none 0 0)) (.list true ((List.replicate b.nodes.length (-1:Int)).map au)) (.v (.slice none 0 0)))) aw (by decide) rfl (by simp[mX,cJ,aG.cells]) ?_;refine bq.lK (v:=.agg (cJ (some (.v (.slice none 0 0))) b (.v (.slice none 0 0)) (.list true ((List.replicate b.nodes.length (-1:Int)).map au)) (.v (.slice none 0 0)))) aw (by decide) rfl (by simp[cJ,aG.cells]) ?_;refine bq.op aw (by decide) (by decide) rfl (nc (v:=.arr (U,21) 1 0 1) (H':=H1.set (U,21) ⟨10,[cJ (some (.v (.slice none 0 0))) b (.v (.slice none 0 0)) (.list true ((List.replicate b.nodes.length (-1:Int)).map au)) (.v (.slice none 0 0))]⟩) (n':=U+1) aw (by simp[jr,cJ,aG.cells,List.range_succ])).1 ?_;rintro _ _ _ ⟨rfl,rfl,rfl⟩;simp;apply V;refine J.subX (X:=(U,21)) (rows':=[bV b (⟨[],jf b,[]⟩,.v (.slice none 0 0))]) (av.bb _ _ _) rfl (fun i e e' he he'=>?_) ?_
 ·match i with
  | 0=>
   simp only[List.getElem?_cons_zero,Option.some.injEq] at he he';subst he he';exact .cons (Sub.nil true) (@jM.append (aG.cells false b) (aG.cells false b) _ _ (.refl _) (.cons (Sub.nil true) (.cons (by simp only[jf,List.map_replicate];exact Sub.refl _) (.refl _))))
  | i+1=>simp at he
 rw[av.set_set];have hNi:∀ i ∈ [C,(0,1)],i ≠ (U,21):=fun i hi h=>by have:=sp2.1 i (List.mem_cons_of_mem _ hi);rw[h] at this;simp at this
 have mB1:(H1.set (U,21) ⟨10,[bV b (⟨[],jf b,[]⟩,.v (.slice none 0 0))]⟩) (0,1)=some ⟨6,[aG.cells false b]⟩:=by rw[av.aD _ _ (hNi _ (by simp)),fr2 _ (by simp)];exact mB
 have mC1:(H1.set (U,21) ⟨10,[bV b (⟨[],jf b,[]⟩,.v (.slice none 0 0))]⟩) C=some ⟨9,[cs]⟩:=by rw[av.aD _ _ (hNi _ (by simp)),fr2 _ (by simp)];exact mC
 have sp3:=Sep.fD (l:=[.c]) (Sep.sub (dQ:=[(U,21),C,(0,1)]) (Sep.var (d:=21) (o:=⟨10,[bV b (⟨[],jf b,[]⟩,.v (.slice none 0 0))]⟩) sp2) (by simp +contextual));have mL1:=av.bb H1 (U,21) ⟨10,[bV b (⟨[],jf b,[]⟩,.v (.slice none 0 0))]⟩;generalize H1.set (U,21) ⟨10,[bV b (⟨[],jf b,[]⟩,.v (.slice none 0 0))]⟩=H2 at mB1 mC1 sp3 mL1;refine zS fun _ V=>?_
 have f1:=fun H=>aQ (H:=H) (fr:=false) (f:=ay.cells false) (l:=b.nodes) cG rfl
 simp[r1,mB1,aG.cells,bE,f1,-aL];apply V;refine J.block (J.bS b.nodes.length (fun m O H n=>∃ (L:Id) (ps:List dz),O 1 = .ptr (0,1) 1 0 0/\O 3 = .ptr C 1 0 0/\O 4 = .arr L ps.length 0 ps.length/\O 24=int b.nodes.length/\O 25=int m/\H (0,1)=some ⟨6,[aG.cells false b]⟩/\(∃ cs,H C=some ⟨9,[cs]⟩/\cs.length=9) /\
   H L=some ⟨10,ps.map (bV b)⟩/\L ∉ [C,(0,1)]/\ps.map (·.1)=bX b m/\Sep H n (et ps) [L,C,(0,1)])
  ⟨(U,21),[(⟨[],jf b,[]⟩,.v (.slice none 0 0))],by simp[r1],by simp[r3],by simp,by simp,by simp,mB1,⟨_,mC1,hcs⟩,mL1,fun h=>hNi _ h rfl,rfl,sp3⟩ ?_)
 clear V f1 mB1 mC1 sp3 mL1 hNi hn1 fr2 sp2 mX hX0 r1 r3 mB mC M;rintro m O H n hm ⟨L,ps,r1,r3,r4,r24,r25,mB,mC,mL,hLi,hps,M⟩ IH;refine zE fun _ V=>?_
 simp[r24,r25];apply V;apply J.seq;refine J.ite rfl (fun hc1=>?_) (fun hc1=>?_)
 ·have hc1:m<b.nodes.length:=by simpa using hc1
  have hok:=mz hv m hm;apply zK;apply J.block;refine J.cut (fun O H n=>O 1 = .ptr (0,1) 1 0 0/\O 3 = .ptr C 1 0 0/\O 4 = .arr L ps.length 0 ps.length/\O 24=int b.nodes.length/\O 25=int m/\H (0,1)=some ⟨6,[aG.cells false b]⟩/\(∃ cs,H C=some ⟨9,[cs]⟩/\cs.length=9)/\H L=some ⟨10,ps.map (bV b)⟩/\Sep H n (et ps) [L,C,(0,1)]) ⟨by simp[r1],by simp[r3],by simp[r4],by simp[r24],by simp[r25],mB,mC,mL,M⟩ ?_;clear V r1 r3 r4 r24 r25 mB mC mL M;rintro O H n ⟨r1,r3,r4,r24,r25,mB,mC,mL,M⟩;have spE:Sep H n ((ps.map fun p=>(p.2,p.1.code)).map fun e=>oI e.1 e.2) [L,C,(0,1)]:=by simpa[et,List.map_map,Function.comp_def] using M
  refine J.E7 _ spE fun H1 φ sp1 fr1 hφ hsub hptr=>?_
  have mB1:=fr1 (0,1) (by simp);have mL1:=fr1 L (by simp);obtain⟨cs,mC,hcs⟩:=mC;have mC1:=fr1 C (by simp);have hBm:(aG.cells false b).map φ=aG.cells false b:=by
   conv=>rhs;rw[<- List.map_id (aG.cells false b)]
   exact List.map_congr_left fun a ha=>hφ a (pK false b a ha)
  rw[mB] at mB1;rw[mL] at mL1;rw[mC] at mC1;simp only[Option.map_some,List.map_cons,List.map_nil,hBm] at mB1 mC1;simp only[Option.map_some,List.map_map,Function.comp_def,rp hφ] at mL1;refine J.subX (X:=L) (rows':=(ps.map (·.1)).map (eA b)) mL1 (by simp) (fun i e e' he he'=>?_) ?_
  ·rw[List.getElem?_map] at he;rw[List.map_map,List.getElem?_map] at he';cases hpi:ps[i]? with
   | none=>rw[hpi] at he;cases he
   | some p=>
    rw[hpi] at he he';simp only[Option.map_some,Option.some.injEq,Function.comp] at he he';subst he he';exact Cn (hsub (p.2,p.1.code) (List.mem_map.2 ⟨p,List.mem_of_getElem? hpi,rfl⟩))
  have hLn:∀ i ∈ [C,(0,1)],i ≠ L:=fun i hi h=>hLi (h ▸ hi)
  refine J.cut (fun O H n=>O 1 = .ptr (0,1) 1 0 0/\O 3 = .ptr C 1 0 0/\O 4 = .arr L ps.length 0 ps.length/\O 24=int b.nodes.length/\O 25=int m/\H (0,1)=some ⟨6,[aG.cells false b]⟩/\(∃ cs,H C=some ⟨9,[cs]⟩/\cs.length=9)/\H L=some ⟨10,(bX b m).map (eA b)⟩/\Sep H n [] [L,C,(0,1)])
   ⟨by simp only[r1];exact (hptr _ (by simp) _ _ _).1,by simp only[r3];exact (hptr _ (by simp) _ _ _).1,by simp only[r4];exact (hptr _ (by simp) _ _ _).2,by simp only[r24];exact hφ _ (.v _),by simp only[r25];exact hφ _ (.v _),by rw[av.aD _ _ (hLn _ (by simp))];exact mB1,⟨cs.map φ,by rw[av.aD _ _ (hLn _ (by simp))];exact mC1,by simp[hcs]⟩,by rw[av.bb,hps],Sep.bD sp1 (by simp)⟩ ?_
  have hpl:ps.length=(bX b m).length:=by rw[<- hps];simp
  rw[hpl];clear r1 r3 r4 r24 r25 mB mC mL M mB1 mC1 mL1 sp1 fr1 hsub hptr hφ spE hps hpl hBm;clear ps;rintro O H n ⟨r1,r3,r4,r24,r25,mB,mC,mL,M⟩;refine zE fun _ V=>?_
  simp[r25];apply V;refine zE fun _ V=>?_
  simp;apply V;have hnN:∀ i ∈ [L,C,(0,1)],i ≠ (n,28):=fun i hi h=>by have:=M.1 i hi;rw[h] at this;simp at this
  obtain⟨cs,mC,hcs⟩:=mC;have mN1:=av.bb H (n,28) ⟨10,[]⟩;have mB1:(H.set (n,28) ⟨10,[]⟩) (0,1)=some ⟨6,[aG.cells false b]⟩:=by rw[av.aD _ _ (hnN _ (by simp))];exact mB
  have mC1:(H.set (n,28) ⟨10,[]⟩) C=some ⟨9,[cs]⟩:=by rw[av.aD _ _ (hnN _ (by simp))];exact mC
  have mL1:(H.set (n,28) ⟨10,[]⟩) L=some ⟨10,(bX b m).map (eA b)⟩:=by rw[av.aD _ _ (hnN _ (by simp))];exact mL
  have sp1:=Sep.var (d:=28) (o:=⟨10,[]⟩) M;generalize H.set (n,28) ⟨10,[]⟩=H1 at mN1 mB1 mC1 mL1 sp1;refine zS fun _ V=>?_
  simp[r4,mL1];apply V;refine J.block (J.bS (bX b m).length (fun i O H n=>∃ (ai:Id) (qs:List dz),O 1 = .ptr (0,1) 1 0 0/\O 3 = .ptr C 1 0 0/\O 5=int m/\O 6 = .arr ai qs.length 0 qs.length/\O 24=int b.nodes.length/\O 25=int m/\O 29 = .arr L (bX b m).length 0 (bX b m).length/\O 30=int (bX b m).length/\O 31=int i /\
    H (0,1)=some ⟨6,[aG.cells false b]⟩/\(∃ cs,H C=some ⟨9,[cs]⟩/\cs.length=9)/\H L=some ⟨10,(bX b m).map (eA b)⟩/\H ai=some ⟨10,qs.map (bV b)⟩/\ai ∉ [L,C,(0,1)]/\qs.map (·.1)=((bX b m).take i).flatMap (fV b)/\Sep H n (et qs) [ai,L,C,(0,1)])
   ⟨(n,28),[],by simp[r1],by simp[r3],by simp,by simp,by simp[r24],by simp[r25],by simp,by simp,by simp,mB1,⟨cs,mC1,hcs⟩,mL1,mN1,fun h=>hnN _ h rfl,by simp,sp1⟩ ?_)
  clear V r1 r3 r4 r24 r25 mB mC mL M mN1 mB1 mC1 mL1 sp1 hnN hcs;clear cs;rintro i O H n hi ⟨ai,qs,r1,r3,r5,r6,r24,r25,r29,r30,r31,mB,mC,mL,mM,hMi,hqs,M⟩ IH1;refine zE fun _ V=>?_
  simp[r30,r31];apply V;apply J.seq;refine J.ite rfl (fun hc2=>?_) (fun hc2=>?_)
  ·have hc2:i<(bX b m).length:=by simpa using hc2
   apply zK;apply J.block;have ha:=hok _ (List.getElem_mem hc2);have htk:((bX b m).take (i+1)).flatMap (fV b)=((bX b m).take i).flatMap (fV b)++fV b (bX b m)[i]:=by rw[<- List.take_append_getElem hc2,List.flatMap_append];simp
   have hrow:((bX b m).map (eA b))[i]?=some (eA b (bX b m)[i]):=by rw[List.getElem?_map,List.getElem?_eq_getElem hc2];rfl
   generalize ham:(bX b m)[i]=a at ha htk hrow;refine zE fun _ V=>?_
   simp[r29,r31,mL,hc2,hrow,ham,eA,bV,cJ,aG.cells,bE,encI,encS,bO];apply V;have hnX:∀ i ∈ [ai,L,C,(0,1)],i ≠ (n,8):=fun i hi h=>by have:=M.1 i hi;rw[h] at this;simp at this
   obtain⟨cs,mC,hcs⟩:=mC;refine J.cut (fun O H n'=>O 1 = .ptr (0,1) 1 0 0/\O 3 = .ptr C 1 0 0/\O 5=int m/\O 6 = .arr ai qs.length 0 qs.length/\O 8 = .ptr (n,8) 1 0 0/\O 24=int b.nodes.length/\O 25=int m/\O 29 = .arr L (bX b m).length 0 (bX b m).length/\O 30=int (bX b m).length/\O 31=int i /\
    H (0,1)=some ⟨6,[aG.cells false b]⟩/\(∃ cs,H C=some ⟨9,[cs]⟩/\cs.length=9)/\H L=some ⟨10,(bX b m).map (eA b)⟩/\H ai=some ⟨10,qs.map (bV b)⟩/\H (n,8)=some ⟨10,[eA b a]⟩/\n<n'/\Sep H n' (et qs) [(n,8),ai,L,C,(0,1)])
    ⟨by simp[r1],by simp[r3],by simp[r5],by simp[r6],by simp,by simp[r24],by simp[r25],by simp[r29],by simp[r30],by simp[r31],by rw[av.aD _ _ (hnX _ (by simp))];exact mB,⟨cs,by rw[av.aD _ _ (hnX _ (by simp))];exact mC,hcs⟩,by rw[av.aD _ _ (hnX _ (by simp))];exact mL,by rw[av.aD _ _ (hnX _ (by simp))];exact mM,by simp[eA,bV,cJ,aG.cells,bE,encI,encS,bO],by omega,Sep.var M⟩ ?_
   clear V r1 r3 r5 r6 r24 r25 r29 r30 r31 mB mC mL mM M hcs;clear cs;generalize hXe:(n,8)=X at hnX;rintro O H n' ⟨r1,r3,r5,r6,r8,r24,r25,r29,r30,r31,mB,mC,mL,mM,mX,hnn,M⟩;refine zE fun _ V=>?_
   have f1:=fun H=>aQ (H:=H) (fr:=false) (f:=ay.cells false) (l:=b.nodes) cG rfl
   simp[r1,mB,aG.cells,bE,f1,-aL];apply V;refine J.block (J.bS b.nodes.length (fun j O H n=>∃ (ai:Id) (qs:List dz),O 1 = .ptr (0,1) 1 0 0/\O 3 = .ptr C 1 0 0/\O 5=int m/\O 6 = .arr ai qs.length 0 qs.length/\O 8 = .ptr X 1 0 0/\O 24=int b.nodes.length/\O 25=int m/\O 29 = .arr L (bX b m).length 0 (bX b m).length/\O 30=int (bX b m).length/\O 31=int i /\
    O 36 = .list false (b.nodes.map (ay.cells false))/\O 37=int b.nodes.length/\O 38=int j /\
    H (0,1)=some ⟨6,[aG.cells false b]⟩/\(∃ cs,H C=some ⟨9,[cs]⟩/\cs.length=9)/\H L=some ⟨10,(bX b m).map (eA b)⟩/\H ai=some ⟨10,qs.map (bV b)⟩/\H X=some ⟨10,[eA b a]⟩/\ai ∉ [L,C,(0,1)]/\X ∉ [ai,L,C,(0,1)]/\qs.map (·.1)=((bX b m).take i).flatMap (fV b)++j7 b a j/\Sep H n (et qs) [X,ai,L,C,(0,1)])
    ⟨ai,qs,by simp[r1],by simp[r3],by simp[r5],by simp[r6],by simp[r8,hXe],by simp[r24],by simp[r25],by simp[r29],by simp[r30],by simp[r31],by simp,by simp,by simp,mB,mC,mL,mM,hXe ▸ mX,hMi,fun h=>hnX _ h rfl,by rw[hqs];simp[j7],hXe ▸ M⟩ ?_)
   clear V f1 r1 r3 r5 r6 r8 r24 r25 r29 r30 r31 mB mC mL mM mX M hqs hMi hnX hXe hnn;clear qs ai;rintro j O H n hj ⟨ai,qs,r1,r3,r5,r6,r8,r24,r25,r29,r30,r31,r36,r37,r38,mB,mC,mL,mM,mX,hMi,hXi,hqs,M⟩ IH2;refine zE fun _ V=>?_
   simp[r37,r38];apply V;apply J.seq;refine J.ite rfl (fun hc3=>?_) (fun hc3=>?_)
   ·have hc3:j<b.nodes.length:=by simpa using hc3
    apply zK;apply J.block;have hjr:0<=(j:Int)/\(j:Int)<b.nodes.length:=⟨by omega,by omega⟩
    refine zE fun _ V=>?_
    have f1:=fun H=>aU (H:=H) (fr:=false) (f:=ay.cells false) (k:=.i64) (l:=b.nodes) (i:=(j:Int)) cG (fun _=>rfl) hjr rfl
    simp[r36,r38,f1,ay.cells,encI,-ar];apply V;have hS:BW b C L ai X m i j (bX b m).length qs.length ((bX b m).map (eA b)) (qs.map (bV b)) (eA b a) O H:=⟨r1,r3,r5,r6,r8,r24,r25,r29,r30,r31,r36,r37,r38,mB,mC,mL,mM,mX⟩
    have hnY:∀ i ∈ [X,ai,L,C,(0,1)],i ≠ (n,10):=fun i hi h=>by have:=M.1 i hi;rw[h] at this;simp at this
    generalize hx:at' b.nodes (j:Int)=x;refine J.cut (fun O H n'=>BW b C L ai X m i j (bX b m).length qs.length ((bX b m).map (eA b)) (qs.map (bV b)) (eA b a) O H/\O 9=int j/\O 10 = .ptr (n,10) 1 0 0/\H (n,10)=some ⟨3,[ay.cells false x]⟩/\Sep H n' (et qs) [(n,10),X,ai,L,C,(0,1)])
     ⟨hS.keep (by simp) (fun k hk=>av.aD _ _ (hnY k hk)),by simp,by simp,by simp[ay.cells,encI,<- hx],Sep.var M⟩ ?_
    clear V f1 hS r1 r3 r5 r6 r8 r24 r25 r29 r30 r31 r36 r37 r38 mB mC mL mM mX M;generalize hYe:(n,10)=ak at hnY;clear hYe;rintro O H n ⟨hS,r9,N,mY,M⟩;refine J.Eo (fun ρ' H' n'=>BW b C L ai X m i j (bX b m).length qs.length ((bX b m).map (eA b)) (qs.map (bV b)) (eA b a) ρ' H'/\ρ' 9=int j/\dm b a.s.pl (j:Int)=true/\Sep H' n' (et qs) [X,ai,L,C,(0,1)]) (fun fin=>?_) ?_
    rotate_left
    ·rintro O H n ⟨hS,r9,hfr,M⟩;have hnZ:∀ i ∈ [X,ai,L,C,(0,1)],i ≠ (n,11):=fun i hi h=>by have:=M.1 i hi;rw[h] at this;simp at this
     have hol:a.order.length+1<=1073741824:=by have:=ha.ord;omega
     refine J.Bg (fun H n=>H X=some ⟨10,[eA b a]⟩) [9,10] (.free 0 (.free 1 (.free 2 (.free 3 (.free 4 (.free 5 (.free 6 (.free 7 (.free 8 (.aS 9 (.aS 10 .fin .stop) .stop))))))))))
      (fun ρ' H' n'=>BW b C L ai X m i j (bX b m).length qs.length ((bX b m).map (eA b)) (qs.map (bV b)) (eA b a) ρ' H'/\ρ' 9=int j/\ρ' 11 = .ptr (n,11) 1 0 0/\H' (n,11)=some ⟨10,[cJ (some (.list true ((a.order++[(j:Int)]).map au))) b (.list true (a.s.es.map au)) (.list true (a.s.pl.map au)) (.list true (a.code.map au))]⟩/\Sep H' n' (et qs) [(n,11),X,ai,L,C,(0,1)]) bY (by decide) (by kernel_rfl) ?_ ?_
     ·refine RunT.free (.ptr X 1 0 0) rfl rfl hS.mX (fun H n hX=>aC aw (by rw[aA];simp[hS.r8,hX])) ?_;refine RunT.free (.list true (a.order.map au)) rfl rfl hS.mX (fun H n hX=>aC aw (by rw[aA];simp[hX,eA,bV,cJ])) ?_;refine RunT.free (.clip true (a.order.map nb)) rfl rfl hS.mX (fun H n hX=>aK.stillD (rC true a.order H n) e142 (by simp) (by simp)) ?_;refine RunT.free (int j) rfl rfl hS.mX (fun H n hX=>aC aw (by rw[aA];simp[r9])) ?_;refine RunT.free (.list true [[int j]]) rfl rfl hS.mX (fun H n hX=>aC aw (by rw[aA];simp[List.range_succ])) ?_;refine RunT.free (.list true ((a.order++[(j:Int)]).map au)) rfl rfl hS.mX (fun H n hX=>aK.EO (t':=true) (fr:=true) (l:=a.order) (m:=[(j:Int)]) aw aP ⟨rfl,rfl,by decide⟩ (by simp) (by simp[au]) (by simp) (by simpa using hol)) ?_;refine RunT.free (.ptr X 1 0 1) rfl rfl hS.mX (fun H n hX=>aC aw (by rw[aA];simp[hS.r8,hX])) ?_;refine RunT.free (.agg (cJ none b (.list true (a.s.es.map au)) (.list true (a.s.pl.map au)) (.list true (a.code.map au)))) rfl rfl hS.mX (fun H n hX=>aC aw (by rw[aA];simp[hX,eA,bV,cJ,aG.cells])) ?_;refine RunT.free (.agg (cJ (some (.list true ((a.order++[(j:Int)]).map au))) b (.list true (a.s.es.map au)) (.list true (a.s.pl.map au)) (.list true (a.code.map au)))) rfl rfl hS.mX (fun H n hX=>aC aw (by rw[aA];simp[cJ,aG.cells,bE,encI,encS,bO])) ?_;refine⟨?_,trivial⟩;refine RunT.step (v:=.ptr (n,11) 1 0 0) (H':=H.set (n,11) ⟨10,[[.v (.slice none 0 0),int 0,.v (.slice none 0 0),.v (.slice none 0 0),int 0,.v (.slice none 0 0),.v (.slice none 0 0),.v (.slice none 0 0),.v (.slice none 0 0),.v (.slice none 0 0)]]⟩) (n':=n+1) aw rfl rfl (by simp) (fun _=>by rw[av.aD _ _ (hnZ X (by simp))];exact hS.mX) ?_;refine⟨?_,trivial⟩;refine RunT.step (v:=.undef) (H':=H.set (n,11) ⟨10,[cJ (some (.list true ((a.order++[(j:Int)]).map au))) b (.list true (a.s.es.map au)) (.list true (a.s.pl.map au)) (.list true (a.code.map au))]⟩) (n':=n+1) aw rfl rfl ?_ (fun hl=>absurd (hl.symm.trans (show bh _ _ _=true by kernel_rfl)) (by decide)) ?_
      ·simp[cJ,aG.cells,bE,encI,encS,bO]
      exact RunT.fin ⟨hS.keep (by simp) (fun k hk=>av.aD _ _ (hnZ k hk)),by simp[r9],by simp,av.bb _ _ _,Sep.var M⟩
     ·generalize hZe:(n,11)=Z at hnZ;clear hZe hS M;rintro O H n ⟨hS,r9,u,mZ,M⟩;refine zE fun _ V=>?_
      simp[hS.r5,r9,u,mZ];have hE:=ha.s.es;have hcl:=ha.code;have h3:=hv.gA hjr;have hZi:Z ∉ [X,ai,L,C,(0,1)]:=fun h=>hnZ _ h rfl
      refine bq.wV aw (node_c (o:=some (.list true ((a.order++[(j:Int)]).map au))) (g:=1) (idx:=0) (k:=(j:Int)) (num:=(m:Int)) (code:=a.code) mZ rfl rfl (Sub.refl _) hjr (by rw[ha.s.pl];omega) (by rw[ha.s.pl];have:=(hv.lL hjr).2;omega) (hv.i64par hjr) (fun h0=>ha.s.at ⟨h0,by rw[ha.s.pl];have:=(hv.lL hjr).2;omega⟩) (hv.i64lnk hjr) (by omega) (by omega) (by rw[ha.s.pl];omega) hZi M) e143 (by decide) (by decide) rfl (by simp[dn]) ?_;rintro v1 H1 U ⟨vp,vc1,mZ1,sp1,fr1,hn1⟩;simp;apply V;have hpe:a.s.pl.set (j:Int).toNat (m:Int)=(bF b a.s j).pl:=by simp[bF,ha.s.num]
      rw[hpe] at sp1;generalize hat:(⟨a.order++[(j:Int)],bF b a.s j,a.code++(bk b a.s j).1⟩:gl)=at2;have mZ2:H1 Z=some ⟨10,[cJ (some (.list true (at2.order.map au))) b (.list true (at2.s.es.map au)) vp vc1]⟩:=by rw[<- hat];exact mZ1
      have sp2:Sep H1 U (oI vp at2.s.pl::oI vc1 at2.code::et qs) [Z,X,ai,L,C,(0,1)]:=by rw[<- hat];exact sp1
      refine J.cut (fun ρ' H' n'=>BW b C L ai X m i j (bX b m).length qs.length ((bX b m).map (eA b)) (qs.map (bV b)) (eA b a) ρ' H'/\ρ' 11 = .ptr Z 1 0 0/\H' Z=some ⟨10,[cJ (some (.list true (at2.order.map au))) b (.list true (at2.s.es.map au)) vp vc1]⟩/\Sep H' n' (oI vp at2.s.pl::oI vc1 at2.code::et qs) [Z,X,ai,L,C,(0,1)])
       ⟨hS.keep (by simp) fr1,by simp[u],mZ2,sp2⟩ ?_
      clear V hS r9 u mZ M mZ1 mZ2 sp1 sp2 fr1 hn1;rintro O H n ⟨hS,u,mZ,M⟩;have hAI:DR (oI vc1 at2.code::et qs):=by
       intro e he;rcases List.mem_cons.1 he with rfl | he
       ·exact⟨_,_,rfl⟩
       ·obtain⟨q,_,rfl⟩:=List.mem_map.1 he;exact⟨_,_,rfl⟩
      refine J.fzS M hAI fun H1 φ sp1 fr1 hφ hkv hptr hsub=>?_
      have hvc:φ vc1=vc1:=hkv (oI vc1 at2.code) (by simp);have hvq:∀ q ∈ qs,φ q.2=q.2:=fun q hq=>hkv (oI q.2 q.1.code) (List.mem_cons_of_mem _ (List.mem_map.2 ⟨q,hq,rfl⟩))
      have hrl:∀ a:gl,(eA b a).map φ=eA b a:=fun a=>by rw[eA,rp hφ,hφ _ (BM _)]
      have hS1:=hS.fz (by simp) fr1 hφ hptr (by rw[List.map_map];exact List.map_congr_left fun a _=>hrl a) (by rw[List.map_map];exact List.map_congr_left fun q hq=>by rw[Function.comp,rp hφ,hvq q hq]) (hrl a);have mZ1:=fr1 Z (by simp);rw[mZ] at mZ1;simp only[Option.map_some,List.map_cons,List.map_nil,zr hφ (BM _) (.inr trivial),hφ _ (BM _),hvc] at mZ1;refine J.subX (X:=Z) (rows':=[bV b (at2,vc1)]) mZ1 rfl (fun i e e' he he'=>?_) ?_
      ·match i with
       | 0=>
        simp only[List.getElem?_cons_zero,Option.some.injEq] at he he';subst he he';exact jM.append (.refl _) (jM.append (.refl _) (.cons (.refl _) (.cons hsub (.refl _))))
       | i+1=>simp at he
      refine J.cut (fun ρ' H' n'=>BW b C L ai X m i j (bX b m).length qs.length ((bX b m).map (eA b)) (qs.map (bV b)) (eA b a) ρ' H'/\ρ' 11 = .ptr Z 1 0 0/\H' Z=some ⟨10,[bV b (at2,vc1)]⟩/\Sep H' n' (oI vc1 at2.code::et qs) [Z,X,ai,L,C,(0,1)])
       ⟨hS1.keep (fun _ _=>rfl) (fun k hk=>av.aD _ _ (show k ≠ Z from fun h=>hZi (h ▸ hk))),by simp only[u];exact (hptr _ (by simp) _ _ _).1,av.bb _ _ _,Sep.bD sp1 (by simp)⟩ ?_
      clear hS u mZ M hS1 mZ1 sp1 fr1 hkv hsub hvc hvq hrl hptr hφ hAI;rintro O H n ⟨hS,u,mZ,M⟩;have hoc:=Sep.oc M;have hbig:qs.length+1<=1073741824:=by
       have e1:qs.length=(((bX b m).take i).flatMap (fV b)++j7 b a j).length:=by rw[<- hqs];simp
       have e2:=nG hn8 ((bX b m).take i);have e3:=ks hn8 m;have e4:(j7 b a j).length<=j:=by
        have:=List.length_filter_le (dm b a.s.pl) ((List.range j).map fun i:Nat=>(i:Int));simpa[j7] using this
       have e5:8 ^ m<=8 ^ 8:=Nat.pow_le_pow_right (by omega) (by omega);have e6:(8:Nat) ^ 8=16777216:=by decide
       have e7:((bX b m).take i).length<=(bX b m).length:=by simp;omega
       rw[List.length_append] at e1;omega
      refine zF fun _ V=>?_
      simp[hS.r6,u,mZ,hS.mM,bV,cJ,aG.cells,bE,encI,encS,bO,hoc,List.range_succ,hbig,-az,-aE,bB,bf];apply V;refine zI fun _ V=>?_
      have f2:=aR (show bP ((j:Int)+1) by simp only[bP];omega) (show ((j+1:Nat):Int)=(j:Int)+1 by omega);simp[hS.r38,f2,-ax];apply V;have hMn:∀ k ∈ [L,C,(0,1)],k ≠ ai:=fun k hk h=>hMi (h ▸ hk)
      have hXM:X ≠ ai:=fun h=>hXi (by simp[h])
      obtain⟨cs,mC,hcs⟩:=hS.mC;refine IH2 hc3 _ _ _ ⟨ai,qs++[(at2,vc1)],by simp[hS.r1],by simp[hS.r3],by simp[hS.r5],by simp,by simp[hS.r8],by simp[hS.r24],by simp[hS.r25],by simp[hS.r29],by simp[hS.r30],by simp[hS.r31],by simp[hS.r36],by simp[hS.r37],by simp,by rw[av.aD _ _ (hMn _ (by simp))];exact hS.mB,⟨cs,by rw[av.aD _ _ (hMn _ (by simp))];exact mC,hcs⟩,by rw[av.aD _ _ (hMn _ (by simp))];exact hS.mL,by simp[bV,cJ,aG.cells,bE,encI,encS,bO],by rw[av.aD _ _ hXM];exact hS.mX,hMi,hXi,by rw[List.map_append,hqs,BO hfr,hat];simp,?_⟩;have:=Sep.sub (dQ:=[X,ai,L,C,(0,1)]) (Sep.bD (w:=ai) (o:=⟨10,qs.map (bV b)++[bV b (at2,vc1)]⟩) (Sep.gz M) (by simp)) (by simp +contextual);simpa[et,bV,cJ,aG.cells,bE,encI,encS,bO] using this
    refine zE fun _ V=>?_
    have hol:a.order.length<=1048576:=by have:=ha.ord;omega
    have hcon:∀ y:Int,aF prog 107 [.list false (a.order.map au),int y] (fun r=>r=bool (decide (y ∈ a.order))):=fun y=>by
     have:=oO a.order y hol;have e:(a.order.any fun z=>y == z)=decide (y ∈ a.order):=by
      rw[Bool.eq_iff_iff];simp
     rw[e] at this;exact this
    have hfree:dm b a.s.pl (j:Int)=(decide ((j:Int) ∉ a.order) && (decide (x.parent<0) || decide (x.parent ∈ a.order))):=by
     have h1:=ha.mem j hjr;rw[dm,hx];have e1:decide (at' a.s.pl (j:Int)<0)=decide ((j:Int) ∉ a.order):=by
      rw[Bool.eq_iff_iff];simp only[decide_eq_true_eq];rw[h1];omega
     rw[e1]
     by_cases h2:x.parent<0
     ·simp[h2]
     ·have h3:=hv.lL hjr;rw[hx] at h3;have h4:=ha.mem x.parent ⟨by omega,by omega⟩;have e2:decide (0<=at' a.s.pl x.parent)=decide (x.parent ∈ a.order):=by
       rw[Bool.eq_iff_iff];simp only[decide_eq_true_eq];exact h4.symm
      rw[e2]
    simp[hS.r8,hS.mX,eA,bV,cJ,aG.cells,r9];refine zA (hcon j) e107 (.cons (aN.qI (fr:=true) (els:=a.order.map au) (by simp[au])) (.cons (.v _ _ _) .nil)) (by simp) ?_;rintro _ rfl
    by_cases h1:(j:Int) ∈ a.order
    ·have hf:dm b a.s.pl (j:Int)=false:=by rw[hfree];simp[h1]
     simp[h1];apply V;refine J.ite rfl (fun _=>?_) (fun h=>by cases h);refine J.exit rfl ?_;refine zF fun _ V=>?_
     have f2:=aR (show bP ((j:Int)+1) by simp only[bP];omega) (show ((j+1:Nat):Int)=(j:Int)+1 by omega);simp[hS.r38,f2,-ax];apply V;exact IH2 hc3 _ _ _ ⟨ai,qs,by simp[hS.r1],by simp[hS.r3],by simp[hS.r5],by simp[hS.r6],by simp[hS.r8],by simp[hS.r24],by simp[hS.r25],by simp[hS.r29],by simp[hS.r30],by simp[hS.r31],by simp[hS.r36],by simp[hS.r37],by simp,hS.mB,hS.mC,hS.mL,hS.mM,hS.mX,hMi,hXi,by rw[hqs,vS hf],Sep.sub M (by simp +contextual)⟩
    by_cases h2:0<=x.parent
    ·simp[h1,h2,hS.r8,hS.mX,r9,N,mY,ay.cells,eA,bV,cJ,aG.cells];refine zA (hcon x.parent) e107 (.cons (aN.qI (fr:=true) (els:=a.order.map au) (by simp[au])) (.cons (.v _ _ _) .nil)) (by simp) ?_;rintro _ rfl
     by_cases h3:x.parent ∈ a.order
     ·simp[h3];apply V;refine J.ite rfl (fun h=>by cases h) (fun _=>?_);apply J.skip;exact fin _ _ _ ⟨hS.keep (by simp) (fun _ _=>rfl),by simp[r9],by rw[hfree];simp[h1,h3],Sep.sub M (by simp +contextual)⟩
     ·have hf:dm b a.s.pl (j:Int)=false:=by rw[hfree];simp[h1,h3];omega
      simp[h3];apply V;refine J.ite rfl (fun _=>?_) (fun h=>by cases h);refine J.exit rfl ?_;refine zF fun _ V=>?_
      have f2:=aR (show bP ((j:Int)+1) by simp only[bP];omega) (show ((j+1:Nat):Int)=(j:Int)+1 by omega);simp[hS.r38,f2,-ax];apply V;exact IH2 hc3 _ _ _ ⟨ai,qs,by simp[hS.r1],by simp[hS.r3],by simp[hS.r5],by simp[hS.r6],by simp[hS.r8],by simp[hS.r24],by simp[hS.r25],by simp[hS.r29],by simp[hS.r30],by simp[hS.r31],by simp[hS.r36],by simp[hS.r37],by simp,hS.mB,hS.mC,hS.mL,hS.mM,hS.mX,hMi,hXi,by rw[hqs,vS hf],Sep.sub M (by simp +contextual)⟩
    ·simp[h1,h2,hS.r8,hS.mX,r9,N,mY,ay.cells,eA,bV,cJ,aG.cells];apply V;refine J.ite rfl (fun h=>by cases h) (fun _=>?_);apply J.skip;exact fin _ _ _ ⟨hS.keep (by simp) (fun _ _=>rfl),by simp[r9],by rw[hfree];simp[h1];omega,Sep.sub M (by simp +contextual)⟩
   ·have hc4:¬ j<b.nodes.length:=by simpa using hc3
    have hc5:j=b.nodes.length:=by omega
    subst hc5;refine J.exit rfl ?_;refine zI fun _ V=>?_
    have hb8:(bX b m).length<=16777216:=by
     have e3:=ks hn8 m;have e5:8 ^ m<=8 ^ 8:=Nat.pow_le_pow_right (by omega) (by omega);have e6:(8:Nat) ^ 8=16777216:=by decide
     omega
    have f2:=aR (show bP ((i:Int)+1) by simp only[bP];omega) (show ((i+1:Nat):Int)=(i:Int)+1 by omega);simp[r31,f2,-ax];apply V;exact IH1 hc2 _ _ _ ⟨ai,qs,by simp[r1],by simp[r3],by simp[r5],by simp[r6],by simp[r24],by simp[r25],by simp[r29],by simp[r30],by simp,mB,mC,mL,mM,hMi,by rw[hqs,htk,Bm],Sep.sub M (by simp +contextual)⟩
  ·have hc4:¬ i<(bX b m).length:=by simpa using hc2
   have hc5:i=(bX b m).length:=by omega
   subst hc5;refine J.exit rfl ?_;rw[List.take_length] at hqs;refine zF fun _ V=>?_
   simp[r6];have hb8:qs.length<=134217728:=by
    have e1:qs.length=((bX b m).flatMap (fV b)).length:=by rw[<- hqs];simp
    have e2:=nG hn8 (bX b m);have e3:=ks hn8 m;have e5:8 ^ m<=8 ^ 8:=Nat.pow_le_pow_right (by omega) (by omega);have e6:(8:Nat) ^ 8=16777216:=by decide
    omega
   have hqo:∀ q ∈ qs,wE b (m+1) q.1:=fun q hq=>by
    have h1:q.1 ∈ (bX b m).flatMap (fV b):=by rw[<- hqs];exact List.mem_map.2 ⟨q,hq,rfl⟩
    obtain⟨a,ha,h2⟩:=List.mem_flatMap.1 h1;exact sZ hv (by omega) (hok a ha) h2
   have hqn:qs ≠ []:=by
    intro h;have h1:(bX b m).flatMap (fV b)=[]:=by rw[<- hqs,h];rfl
    exact DS he hdn hc1 h1
   refine bq.wV aw (sl (K:=[]) hqn mM (fun q hq=>by have:=(hqo q hq).code;omega) (by omega) (by simpa using M) hMi) e144 (by decide) (by decide) rfl (by simp) ?_;rintro _ H1 U ⟨ae,rfl,mO,hO,sp1,fr1,hn1⟩;simp;apply V;refine zI fun _ V=>?_
   have f2:=aR (show bP ((m:Int)+1) by simp only[bP];omega) (show ((m+1:Nat):Int)=(m:Int)+1 by omega);simp[r25,f2,-ax];apply V;obtain⟨cs,mC,hcs⟩:=mC;refine IH hc1 _ _ _ ⟨ae,dB qs,by simp[r1],by simp[r3],by simp,by simp[r24],by simp,(fr1 _ (by simp)).trans mB,⟨cs,(fr1 _ (by simp)).trans mC,hcs⟩,mO,fun h=>hO (by simp at h ⊢;rcases h with h | h<;>simp[h]),by rw[q7,hqs];rfl,?_⟩;have h1:=Sep.sublist (List.Sublist.map (fun p:dz=>oI p.2 p.1.code) (iL qs)) [] (by simpa[et] using sp1);exact Sep.sub h1 (by simp +contextual)
 ·have hc4:¬ m<b.nodes.length:=by simpa using hc1
  have hc5:m=b.nodes.length:=by omega
  subst hc5;have hok:=mz hv b.nodes.length (Nat.le_refl _);refine J.exit rfl ?_;refine zS fun _ V=>?_
  simp[r4,mL];apply V;have hlen:ps.length=(bX b b.nodes.length).length:=by rw[<- hps];simp
  have hb8:ps.length<=16777216:=by
   have e3:=ks hn8 b.nodes.length;have e5:8 ^ b.nodes.length<=8 ^ 8:=Nat.pow_le_pow_right (by omega) (by omega);have e6:(8:Nat) ^ 8=16777216:=by decide
   omega
  refine J.block (J.bS ps.length (fun i O H n=>∃ qs:List dz,O 1 = .ptr (0,1) 1 0 0/\O 3 = .ptr C 1 0 0/\O 4 = .arr L ps.length 0 ps.length/\O 83=int ps.length/\O 84=int i/\H (0,1)=some ⟨6,[aG.cells false b]⟩/\(∃ cs,H C=some ⟨9,[cs]⟩/\cs.length=9) /\
    H L=some ⟨10,qs.map (bV b)⟩/\qs.length=ps.length/\qs.map (·.1)=((bX b b.nodes.length).take i).map (db b)++(bX b b.nodes.length).drop i/\Sep H n (et qs) [L,C,(0,1)])
   ⟨ps,by simp[r1],by simp[r3],by simp[r4],by simp,by simp,mB,mC,mL,rfl,by simpa using hps,M⟩ ?_)
  clear V r1 r3 r4 r24 r25 mB mC mL M IH;rintro i O H n hi ⟨qs,r1,r3,r4,G,F,mB,mC,mL,hql,hqs,M⟩ IH;refine zE fun _ V=>?_
  simp[G,F];apply V;apply J.seq;refine J.ite rfl (fun hc2=>?_) (fun hc2=>?_)
  ·have hc2:i<ps.length:=by simpa using hc2
   apply zK;apply J.block;refine zE fun _ V=>?_
   simp[F];apply V;refine zF fun _ V=>?_
   have hiq:i<qs.length:=by omega
   have hrow:(qs.map (bV b))[i]?=some (bV b qs[i]):=by rw[List.getElem?_map,List.getElem?_eq_getElem hiq];rfl
   have hil:i<(bX b b.nodes.length).length:=by omega
   have hat:qs[i].1=(bX b b.nodes.length)[i]:=by
    have h1:(qs.map (·.1))[i]?=some qs[i].1:=by rw[List.getElem?_map,List.getElem?_eq_getElem hiq];rfl
    rw[hqs,List.getElem?_append_right (by simp;omega)] at h1;have h2:i - (((bX b b.nodes.length).take i).map (db b)).length=0:=by simp;omega
    rw[h2,List.getElem?_drop,Nat.add_zero,List.getElem?_eq_getElem hil] at h1
    injection h1 with h1
    exact h1.symm
   have ha:=hok _ (List.getElem_mem hil);rw[<- hat] at ha;have hsplit:=yP hiq;rw[hsplit] at M;simp[r4,mL,hql,hc2,hiq];have hE:=ha.s.es;have hcl:=ha.code;have hs4:=hv.slen;have hi16:=hv.inner;refine bq.wV aw (rest_c (o:=some (.list true (qs[i].1.order.map au))) (g:=ps.length) (idx:=i) (code:=qs[i].1.code) mL (by simp[hql]) hrow (fun p hp=>by
    have h1:=hv.sites p hp;have h2:=hv.roots;exact⟨by rw[ha.s.pl];omega,⟨by omega,by omega⟩,fun h0=>ha.s.at ⟨h0,by rw[ha.s.pl];omega⟩⟩) (fun w hw=>by
    have h1:=hv.wires w hw;have h2:=hv.edges;have h3:=hv.outer;exact⟨by omega,by omega⟩) (by omega) (by omega) hLi (Sep.front M)) e145 (by decide) (by decide) rfl (by simp[dn]) ?_
   rintro v1 H1 U ⟨vc1,mL1,sp1,fr1,hn1⟩;simp;apply V;refine zI fun _ V=>?_
   have f2:=aR (show bP ((i:Int)+1) by simp only[bP];omega) (show ((i+1:Nat):Int)=(i:Int)+1 by omega);simp[F,f2,-ax];apply V;obtain⟨cs,mC,hcs⟩:=mC;refine IH hc2 _ _ _ ⟨qs.set i (db b qs[i].1,vc1),by simp[r1],by simp[r3],by simp[r4],by simp[G],by simp,(fr1 _ (by simp)).trans mB,⟨cs,(fr1 _ (by simp)).trans mC,hcs⟩,?_,by simp[hql],?_,?_⟩
   ·rw[List.map_set];exact mL1
   ·rw[List.map_set,hqs,List.set_append_right _ _ (by simp;omega)];have h2:i - (((bX b b.nodes.length).take i).map (db b)).length=0:=by simp;omega
    rw[h2,hat,List.drop_eq_getElem_cons hil,List.set_cons_zero,<- List.take_append_getElem hil,List.map_append];simp
   ·rw[vy hiq];exact Sep.tL sp1
  ·have hc3:¬ i<ps.length:=by simpa using hc2
   have hc5:i=ps.length:=by omega
   subst hc5;refine J.exit rfl ?_;have hqs2:qs.map (·.1)=(bX b b.nodes.length).map (db b):=by rw[hqs,hlen,List.take_length,List.drop_length,List.append_nil]
   have hqn:qs ≠ []:=by
    intro h;have h1:(bX b b.nodes.length).map (db b)=[]:=by rw[<- hqs2,h];rfl
    exact (mr he hdn b.nodes.length (Nat.le_refl _)).2 (List.map_eq_nil_iff.1 h1)
   have hqo:∀ q ∈ qs,q.1.code.length<=1048576/\q.1.order.length<=1048576:=fun q hq=>by
    have h1:q.1 ∈ (bX b b.nodes.length).map (db b):=by rw[<- hqs2];exact List.mem_map.2 ⟨q,hq,rfl⟩
    obtain⟨a,ha,h2⟩:=List.mem_map.1 h1;have h3:=hok a ha;have h4:=h3.code;have h5:=h3.ord;have h6:=hv.slen;have h7:=hv.inner;have h8:(bJ b a.s.es (b.inner.map fun w=>w.link)).1.length=(b.inner.map fun w=>w.link).length:=dN _ _;simp only[List.length_map] at h8;rw[<- h2];simp only[db,iN,List.length_append,List.length_map];omega
   refine zE fun _ V=>?_
   rw[<- hql] at r4;simp[r4];refine bq.wV aw (sl (K:=[]) hqn mL (fun q hq=>(hqo q hq).1) (by omega) (by simpa using M) hLi) e144 (by decide) (by decide) rfl (by simp) ?_;rintro _ H1 U ⟨ae,rfl,mO,hO,sp1,fr1,hn1⟩;simp;apply V;have hL2:(dB qs).map (·.1)=fA ((bX b b.nodes.length).map (db b)):=by rw[q7,hqs2]
   have hmem:∀ q ∈ dB qs,q ∈ qs:=fun q hq=>(iL qs).subset hq
   have hne2:0<(dB qs).length:=by
    have h1:=lv (l:=(bX b b.nodes.length).map (db b)) (fun h=>hqn (List.map_eq_nil_iff.1 (hqs2.trans h)));rw[<- hL2] at h1;exact List.length_pos_iff.2 (fun h=>h1 (by rw[h];rfl))
   have sp2:=Sep.sublist (List.Sublist.map (fun p:dz=>oI p.2 p.1.code) (iL qs)) [] (by simpa[et] using sp1);have hle:(dB qs).length<=16777216:=by have:=(iL qs).length_le;omega
   obtain⟨cs,mC,hcs⟩:=mC;refine J.cut (fun O H n=>O 3 = .ptr C 1 0 0/\O 4 = .arr ae (dB qs).length 0 (dB qs).length/\(∃ cs,H C=some ⟨9,[cs]⟩/\cs.length=9)/\H ae=some ⟨10,(dB qs).map (bV b)⟩/\ae ≠ C/\Sep H n (et (dB qs)) [ae,C])
    ⟨by simp[r3],by simp,⟨cs,(fr1 _ (by simp)).trans mC,hcs⟩,mO,fun h=>hO (by simp[h]),Sep.sub sp2 (by simp +contextual)⟩ ?_
   clear V r1 r3 r4 G F mB mC mL M sp1 sp2 fr1 mO hO;rintro O H n ⟨r3,r4,mC,mO,hOC,M⟩;have hL3:(dB qs).map (·.1)=nt b:=hL2;have hco:∀ q ∈ dB qs,q.1.code.length<=1048576/\q.1.order.length<=1048576:=fun q hq=>hqo q (hmem q hq)
   clear hqn hqo hqs2 hqs hql hL2 hmem;generalize dB qs=ws at r4 mO M hne2 hle hL3 hco;have hrow0:(ws.map (bV b))[0]?=some (bV b ws[0]):=by rw[List.getElem?_map,List.getElem?_eq_getElem hne2];rfl
   have hoc:∀ q ∈ ws,Ab.aE q.2=true/\az q.2=some [q.2]:=fun q hq=>by
    have:=Sep.wD M (v:=q.2) (l:=q.1.code) (List.mem_map.2 ⟨_,hq,rfl⟩);exact⟨this.1,this.2.1⟩
   have hoc0:=hoc _ (List.getElem_mem hne2);refine zE fun _ V=>?_
   simp[r4,mO,hne2,bV,cJ,aG.cells,bE,encI,encS,bO,hoc0,-az,-aE,bB,bf];apply V;have hnW:∀ k ∈ [ae,C],k ≠ (n,13):=fun k hk h=>by have:=M.1 k hk;rw[h] at this;simp at this
   obtain⟨cs,mC,hcs⟩:=mC;apply J.seq;refine J.cut (fun ρ' H' n'=>ρ' 3 = .ptr C 1 0 0/\ρ' 4 = .arr ae ws.length 0 ws.length/\ρ' 13 = .ptr (n,13) 1 0 0/\(∃ cs,H' C=some ⟨9,[cs]⟩/\cs.length=9)/\H' ae=some ⟨10,ws.map (bV b)⟩/\H' (n,13)=some ⟨10,[bV b ws[0]]⟩/\Sep H' n' (et ws) [(n,13),ae,C])
    ⟨by simp[r3],by simp[r4],by simp,⟨cs,by rw[av.aD _ _ (hnW _ (by simp))];exact mC,hcs⟩,by rw[av.aD _ _ (hnW _ (by simp))];exact mO,by simp[bV,cJ,aG.cells,bE,encI,encS,bO],Sep.var M⟩ ?_
   clear V r3 r4 mC mO M hcs;clear cs;generalize hWe:(n,13)=W at hnW;clear hWe;rintro O H n ⟨r3,r4,t,mC,mO,mW,M⟩;refine zE fun _ V=>?_
   simp[r4,mO];apply V;refine J.block (J.bS ws.length (fun i O H n=>O 3 = .ptr C 1 0 0/\O 13 = .ptr W 1 0 0/\O 98 = .arr ae ws.length 0 ws.length/\O 99=int ws.length/\O 100=int i/\(∃ cs,H C=some ⟨9,[cs]⟩/\cs.length=9)/\H ae=some ⟨10,ws.map (bV b)⟩/\H W=some ⟨10,[bV b (fZ ws[0] (ws.take i))]⟩/\Sep H n (et ws) [W,ae,C])
    ⟨by simp[r3],by simp[t],by simp,by simp,by simp,mC,mO,by simpa[fZ] using mW,M⟩ ?_)
   clear V r3 r4 t mC mO mW M;rintro i O H n hi ⟨r3,t,B,D,A,mC,mO,mW,M⟩ IH;have hbm:fZ ws[0] (ws.take i) ∈ ws:=by
    rcases zL ws[0] (ws.take i) with h | h
    ·rw[h];exact List.getElem_mem hne2
    ·exact List.mem_of_mem_take h
   refine zE fun _ V=>?_
   simp[D,A];apply V;apply J.seq;refine J.ite rfl (fun hc2=>?_) (fun hc2=>?_)
   ·have hc2:i<ws.length:=by simpa using hc2
    apply zK;apply J.block;have htk:fZ ws[0] (ws.take (i+1))=if cmpL ws[i].1.order (fZ ws[0] (ws.take i)).1.order<0 then ws[i] else fZ ws[0] (ws.take i):=by
     rw[<- List.take_append_getElem hc2,fZ,List.foldl_append];rfl
    have hrow:(ws.map (bV b))[i]?=some (bV b ws[i]):=by rw[List.getElem?_map,List.getElem?_eq_getElem hc2];rfl
    have hci:=hco _ (List.getElem_mem hc2);have hcb:=hco _ hbm;have hoi:=hoc _ (List.getElem_mem hc2);generalize hwi:ws[i]=w at htk hrow hci hoi;generalize fZ ws[0] (ws.take i)=q at htk hcb mW hbm;have hnV:∀ k ∈ [W,ae,C],k ≠ (n,15):=fun k hk h=>by have:=M.1 k hk;rw[h] at this;simp at this
    refine zE fun _ V=>?_
    simp[B,A,mO,hc2,hwi,bV,cJ,aG.cells,bE,encI,encS,bO,hoi,-az,-aE,bB,bf];apply V;obtain⟨cs,mC,hcs⟩:=mC;refine J.cut (fun ρ' H' n'=>ρ' 3 = .ptr C 1 0 0/\ρ' 13 = .ptr W 1 0 0/\ρ' 15 = .ptr (n,15) 1 0 0/\ρ' 98 = .arr ae ws.length 0 ws.length/\ρ' 99=int ws.length/\ρ' 100=int i/\(∃ cs,H' C=some ⟨9,[cs]⟩/\cs.length=9)/\H' ae=some ⟨10,ws.map (bV b)⟩/\H' W=some ⟨10,[bV b q]⟩/\H' (n,15)=some ⟨10,[bV b w]⟩/\Sep H' n' (et ws) [(n,15),W,ae,C])
     ⟨by simp[r3],by simp[t],by simp,by simp[B],by simp[D],by simp[A],⟨cs,by rw[av.aD _ _ (hnV _ (by simp))];exact mC,hcs⟩,by rw[av.aD _ _ (hnV _ (by simp))];exact mO,by rw[av.aD _ _ (hnV _ (by simp))];exact mW,by simp[bV,cJ,aG.cells,bE,encI,encS,bO],Sep.var M⟩ ?_
    clear V r3 t B D A mC mO mW M hcs;clear cs;generalize hVe:(n,15)=aa at hnV;clear hVe;rintro O H n ⟨r3,t,R,B,D,A,mC,mO,mW,mV,M⟩;refine zE fun _ V=>?_
    simp[t,R,mV,mW,bV,cJ,aG.cells];refine zA (zl w.1.order q.1.order ⟨hci.2,hcb.2⟩) e146 (.cons (aN.qI (fr:=true) (els:=w.1.order.map au) (by simp[au])) (.cons (aN.qI (fr:=true) (els:=q.1.order.map au) (by simp[au])) .nil)) (by simp) ?_;rintro _ rfl;simp;apply V;have hVW:W ≠ aa:=hnV W (by simp);have hCW:C ≠ W:=fun h=>hnW C (by simp) h
    have hOW:ae ≠ W:=fun h=>hnW ae (by simp) h
    refine J.ite rfl (fun hc4=>?_) (fun hc4=>?_)
    ·have hc4:cmpL w.1.order q.1.order<0:=by simpa using hc4
     rw[if_pos hc4] at htk;refine zF fun _ V=>?_
     simp[t,R,mV,mW,bV,cJ,aG.cells,bE,encI,encS,bO,hoi,-az,-aE,bB,bf];apply V;refine zI fun _ V=>?_
     have f2:=aR (show bP ((i:Int)+1) by simp only[bP];omega) (show ((i+1:Nat):Int)=(i:Int)+1 by omega);simp[A,f2,-ax];apply V;obtain⟨cs,mC,hcs⟩:=mC;refine IH hc2 _ _ _ ⟨by simp[r3],by simp[t],by simp[B],by simp[D],by simp,⟨cs,by rw[av.aD _ _ hCW];exact mC,hcs⟩,by rw[av.aD _ _ hOW];exact mO,by rw[htk];simp[bV,cJ,aG.cells,bE,encI,encS,bO],?_⟩;exact Sep.sub (Sep.bD M (by simp)) (by simp +contextual)
    ·have hc4:¬ cmpL w.1.order q.1.order<0:=by simpa using hc4
     rw[if_neg hc4] at htk;apply J.skip;refine zI fun _ V=>?_
     have f2:=aR (show bP ((i:Int)+1) by simp only[bP];omega) (show ((i+1:Nat):Int)=(i:Int)+1 by omega);simp[A,f2,-ax];apply V;exact IH hc2 _ _ _ ⟨by simp[r3],by simp[t],by simp[B],by simp[D],by simp,mC,mO,by rw[htk];exact mW,Sep.sub M (by simp +contextual)⟩
   ·have hc3:¬ i<ws.length:=by simpa using hc2
    have hc5:i=ws.length:=by omega
    subst hc5;refine J.exit rfl ?_;rw[List.take_length] at mW hbm;have hbest:(fZ ws[0] ws).1=aY b:=by
     rw[AT,hL3,aY]
     congr 1
     have h1:0<(nt b).length:=by rw[<- hL3];simpa using hne2
     rw[show ((0:Int))=((0:Nat):Int) from rfl,bo h1];simp only[<- hL3,List.getElem_map]
    generalize fZ ws[0] ws=q at mW hbm hbest;refine J.gr aw aH bY (by decide) (by kernel_rfl) fun _ V=>?_
    have hoq:=hoc _ hbm;obtain⟨cs,mC,hcs⟩:=mC;have hCW:C ≠ W:=fun h=>hnW C (by simp) h
    simp[r3,t,mW,mC,hcs,bV,cJ,aG.cells,bE,encI,encS,bO,hoq,hCW,-az,-aE,bB,bf];apply V;have hdr:List.drop 9 cs=[]:=List.drop_of_length_le (by omega);refine J.Dc aw (v:=.list true (q.1.order.map au)) (w:=.agg (cJ none b (.list true (q.1.s.es.map au)) (.list true (q.1.s.pl.map au)) q.2)) func105 results105 (by simp[gk]) (by simp[gk,r3,hdr,cJ,aG.cells,bE,encI,encS,bO]) (hQ _ _ _ ⟨q.2,hoq.1,by rw[<- hbest]⟩)
theorem oy {sig:dG} {b:aG} (hv:bn sig b) (he:mG b) (hdn:fu b):aF prog 105 [.agg (aG.cells false b)] (fun r=>∃ y0 y1 y2 y3 y4 y5 y6:Value,(one y0=true/\one y1=true/\one y2=true/\one y3=true/\one y4=true/\one y5=true/\one y6=true) /\
  r = .tup [.list true ((aY b).order.map au),.agg [.v y0,.v y1,.v y2,.v y3,.v y4,.v y5,.list true ((aY b).s.es.map au),.list true ((aY b).s.pl.map au),.v y6]]):=by
 intro c xs hH hn g r;refine (mS hv he hdn c xs hH hn g r).mono ?_;rintro e w' ⟨x,v,c',he,hw,⟨q,hq,rfl⟩,hrep,hg,hk⟩;cases hrep with
 | tup _ vs hl h=>
  obtain⟨v0,v1,rfl⟩:∃ v0 v1,vs=[v0,v1]:=by
   match vs,hl with
   | [v0,v1],_=>exact⟨v0,v1,rfl⟩
  have h0:=h 0 _ v0 rfl rfl;have h1:=h 1 _ v1 rfl rfl;cases h1 with
  | agg _ us hl1 h1=>
   obtain⟨u0,u1,u2,u3,u4,u5,u6,u7,u8,rfl⟩:∃ u0 u1 u2 u3 u4 u5 u6 u7 u8,us=[u0,u1,u2,u3,u4,u5,u6,u7,u8]:=by
    match us,hl1 with
    | [u0,u1,u2,u3,u4,u5,u6,u7,u8],_=>exact⟨u0,u1,u2,u3,u4,u5,u6,u7,u8,rfl⟩
   have o:∀ (i:Nat) (a:I) (u:Value),(cJ none b (.list true ((aY b).s.es.map au)) (.list true ((aY b).s.pl.map au)) q)[i]?=some a->[u0,u1,u2,u3,u4,u5,u6,u7,u8][i]?=some u->Ab.aE a=true->one u=true:=fun i a u ha hu h=>uq (h1 i a u ha hu) h
   have o8:=uq (h1 8 q u8 rfl rfl) hq;have o0:=o 0 _ u0 rfl rfl rfl;have o1:=o 1 _ u1 rfl rfl rfl;have o2:=o 2 _ u2 rfl rfl rfl;have o3:=o 3 _ u3 rfl rfl rfl;have o4:=o 4 _ u4 rfl rfl rfl;have o5:=o 5 _ u5 rfl rfl rfl;have h6:=h1 6 _ u6 rfl rfl;have h7:=h1 7 _ u7 rfl rfl;refine⟨_,.tup [.list true ((aY b).order.map au),.agg [.v u0,.v u1,.v u2,.v u3,.v u4,.v u5,.list true ((aY b).s.es.map au),.list true ((aY b).s.pl.map au),.v u8]],c',he,hw,⟨_,?_,u0,u1,u2,u3,u4,u5,u8,⟨o0,o1,o2,o3,o4,o5,o8⟩,rfl⟩,?_,hg,hk⟩
   ·refine (eB.pts (by simp) fun i a c ha hc=>?_).2
    match i with
    | 0=>simp only[List.getElem?_cons_zero,Option.some.injEq] at ha hc;subst ha hc;exact eB.ints _ _ _
    | 1=>
     simp only[List.getElem?_cons_succ,List.getElem?_cons_zero,Option.some.injEq] at ha hc;subst ha hc;refine (eB.pts (by simp) fun i a c ha hc=>?_).1
     match i with
     | 0 | 1 | 2 | 3 | 4 | 5 | 8=>simp at ha hc;subst ha hc;exact eB.v _ _ _
     | 6=>simp only[List.getElem?_cons_succ,List.getElem?_cons_zero,Option.some.injEq] at ha hc;subst ha hc;exact eB.ints _ _ _
     | 7=>simp only[List.getElem?_cons_succ,List.getElem?_cons_zero,Option.some.injEq] at ha hc;subst ha hc;exact eB.ints _ _ _
     | i+9=>simp at hc
    | i+2=>simp at hc
   ·refine .tup _ _ (by simp) fun i a x ha hx=>?_
    match i with
    | 0=>simp only[List.getElem?_cons_zero,Option.some.injEq] at ha hx;subst ha hx;exact h0
    | 1=>
     simp only[List.getElem?_cons_succ,List.getElem?_cons_zero,Option.some.injEq] at ha hx;subst ha hx;refine .agg _ _ (by simp) fun i a x ha hx=>?_
     match i with
     | 0 | 1 | 2 | 3 | 4 | 5 | 8=>simp at ha hx;subst ha hx;exact .v _
     | 6=>simp only[List.getElem?_cons_succ,List.getElem?_cons_zero,Option.some.injEq] at ha hx;subst ha hx;exact h6
     | 7=>simp only[List.getElem?_cons_succ,List.getElem?_cons_zero,Option.some.injEq] at ha hx;subst ha hx;exact h7
     | i+9=>simp at hx
    | i+2=>simp at hx
end
end Go.Ab.Vg
namespace Go.Ab.Vg
def rowP (b:aG) (l:Int) (i k:Nat):List (Int × Int):=(idxs (at' b.nodes (i:Int)).links (fun x=>decide (x=l)) k).map fun z=>((i:Int),z)
def Eh (b:aG) (l:Int) (i:Nat):List (Int × Int):=((List.range i).map fun j=>rowP b l j (at' b.nodes (j:Int)).links.length).flatten
def uj (b:aG) (l:Int):List (Int × Int):=Eh b l b.nodes.length
end Go.Ab.Vg
namespace Go.Ab.Vg
def qO (l:List Int) (x:Int):Bool:=l.any fun y=>x == y
theorem vV {l:List Int} {x:Int}:qO l x=true↔x ∈ l:=by simp[qO]
theorem D9 {l:List Int} {x:Int}:qO l x=false↔x ∉ l:=by rw[<- vV];simp
def Ds (b:aG) (nodes:List Int):Nat->Int->Bool
 | 0,_=>false
 | m+1,p=>if p<0 then false else if p ∈ nodes then true else Ds b nodes m (at' b.nodes p).parent
def xc (b:aG) (nodes:List Int) (p:Int):Bool:=Ds b nodes (p+1).toNat p
def EX (bU:aG) (nodes:List Int) (p:Int × Int):Int:=at' (at' bU.nodes (at' nodes p.1)).links p.2
def Ej (bU:aG) (nodes:List Int) (l:List (Int × Int)):Int:=match l with | [] => -1 | p::_=>EX bU nodes p
abbrev yo (bZ bU:aG) (nodes:List Int) (l:Int):Int:=Ej bU nodes (uj bZ l)
def LinkOk (bZ bU:aG) (nodes:List Int) (l:Int):Prop:=(∀ p ∈ uj bZ l,EX bU nodes p=yo bZ bU nodes l)/\(l<bZ.edges->yo bZ bU nodes l<bU.edges/\(uj bU (yo bZ bU nodes l)).length=(uj bZ l).length)
def LinksP (bZ bU:aG) (nodes:List Int):Prop:=∀ l:Int,0<=l->l<bZ.edges+bZ.outer.length->LinkOk bZ bU nodes l
def Bh (bZ:aG) (m:Match) (k:Int):Int:=if 0<=(at' bZ.nodes k).parent then at' m.nodes (at' bZ.nodes k).parent else at' m.roots (-1 - (at' bZ.nodes k).parent)
def ImgOk (bZ bU:aG) (m:Match) (k:Int):Prop:=
 (at' bU.nodes (at' m.nodes k)).control=(at' bZ.nodes k).control/\(at' bU.nodes (at' m.nodes k)).parent=Bh bZ m k/\((gq bZ k).length=0->∀ c ∈ jk bU (at' m.nodes k),c ∈ m.nodes)
def Eu (bZ bU:aG) (nodes:List Int):Prop:=nodes.length=bZ.nodes.length/\∀ i:Nat,i<nodes.length->Ee bU (at' nodes (i:Int))=true/\at' nodes (i:Int) ∉ nodes.take i
def DT (bZ bU:aG) (m:Match):Prop:=(m.roots.length:Int)=bZ.roots/\∀ p ∈ m.roots,-bU.roots<=p/\p<bU.nodes.length/\xc bU m.nodes p=false
def MatchP (bZ bU:aG) (m:Match):Prop:=Eu bZ bU m.nodes/\DT bZ bU m/\(∀ k:Nat,k<bZ.nodes.length->ImgOk bZ bU m (k:Int))/\LinksP bZ bU m.nodes
open Classical in
noncomputable def matchB (bZ bU:aG) (m:Match):Bool:=decide (MatchP bZ bU m)
end Go.Ab.Vg
namespace Go.Ab.Vg
end Go.Ab.Vg
namespace Go.Ab
theorem q6:∀ (ns:List Int) (s:Array UInt8),ns.foldl (fun r n=>r.push (UInt8.ofNat n.toNat)) (ByteArray.mk s)=ByteArray.mk (s++(ns.map fun n=>UInt8.ofNat n.toNat).toArray)
 | [],s=>by simp
 | n::ns,s=>by
  have h:(ByteArray.mk s).push (UInt8.ofNat n.toNat)=ByteArray.mk (s.push (UInt8.ofNat n.toNat)):=rfl;rw[List.foldl_cons,h,q6 ns]
  congr 1
  simp
theorem ny {P:Program} {N:Nat} {Ty:Types} (hT:aV P Ty) {O:Env} {H:av} {n:Nat} {d:Option Tmp} {ty:TypeId} {pos:String} {af:Array Edge} {gu:Option (Nat × Bool)} {s t:TypeId} {x:Operand} {j:TI} {els:List (List I)} {ns:List Int}
  (hs:kd Ty s = .slice j) (hj:j.desc = .int .u8) (ht:kd Ty t = .string) (hx:cy H (O.ev x)=some els) (hn:els=ns.map fun n=>[.v (.int .u8 n)]) :
  aK P N ⟨d,.convert s t x,ty,pos,af,gu⟩ O H n fun v1 H1 U=>v1=str (ns.map fun n=>UInt8.ofNat n.toNat)/\H1=H/\U=n:=by
 refine aK.dC fun c a hH hn' g r=>?_
 subst hH hn';obtain⟨i1,e,hi1,hd1,he⟩:=ct hs;obtain⟨i2,hi2,hd2⟩:=jj ht;have d1:=(hT s i1 hi1).1;rw[hd1] at d1;have d2:=(hT t i2 hi2).1;rw[hd2] at d2;have d3:=(hT e j he).1;rw[hj] at d3;have hsrc:=fj (sz:=1) g (r.ev x) hx (by subst hn;simp);refine⟨_,.string ⟨(ns.map fun n=>UInt8.ofNat n.toNat).toArray⟩,c,?_,⟨rfl,rfl,rfl⟩,.v _,g,bp.refl c⟩;rcases hsrc with ⟨h1,h2⟩ | ⟨ad,cap,news,h1,h2,h3,h4⟩
 ·have h0:ns=[]:=by rw[h2] at hn;simpa using hn.symm
  subst h0;have:=run_convert_bytes_string (P:=P) c.w s t e none 0 0 d1 d3 d2;simp[execOp,h1,this,Conv.bytesToString,Sem.run_pure]
  rfl
 ·have hnews:news=ns.map (Value.int .u8):=by
   apply List.ext_getElem?;intro q;rcases Nat.lt_or_ge q ns.length with hq | hq
   ·have hel:els[q]?=some [.v (.int .u8 ns[q])]:=by rw[hn];simp[hq]
    obtain⟨_,h5⟩:=h4 q _ hel;obtain⟨u,hu,hr⟩:=h5 0 _ rfl;simp only[Nat.mul_one,Nat.add_zero] at hu;rw[hu,hr.cK];simp[hq]
   ·rw[List.getElem?_eq_none (by rw[h2,hn];simpa using hq),List.getElem?_eq_none (by simpa using hq)]
  have hl:=run_loadCells_list (P:=P) c.w ad news h3;have hlen:news.length=els.length:=by rw[h2,Nat.mul_one]
  rw[hlen,hnews] at hl;have h5:=run_bytesToString c.w ad els.length cap ns hl;have h6:=run_convert_bytes_string (P:=P) c.w s t e (some ad) els.length cap d1 d3 d2;have h7:=q6 ns #[];have h8:(ByteArray.empty:ByteArray)=ByteArray.mk #[]:=rfl;simp[execOp,h1,h6,h5,h8,h7]
end Go.Ab
namespace Go.Ab
open Go.Proofs
def Bl (k:Nat) (out:cH):cH:=if k=0 then out else Bl (k / 10) (UInt8.ofNat (48+k % 10)::out)
 termination_by k
 decreasing_by omega
def kW (k:Nat):cH:=if k=0 then [109,48] else 109::Bl k []
theorem wrap_u8 {a:Int} (h:0<=a) (h2:a<256):IntKind.u8.wrap a=a:=by
 unfold IntKind.wrap;simp[IntKind.min,IntKind.max,IntKind.bits,IntKind.signed];omega
theorem e48:a8 prog 48:=a8.of func48 (by kernel_rfl) rfl
set_option maxRecDepth 20000 in
theorem wU (k:Nat) (hk:k<=1152921504606846976):aF prog 48 [int k] (fun r=>r=str (kW k)):=by
 refine aF.of func48 rfl ntmps48 (by simp) fun Q hQ=>?_
 refine zE fun _ V=>?_
 simp;apply V;refine zS fun _ V=>?_
 simp;apply V;refine J.ite rfl (fun hc1 => ?_) (fun hc1 => ?_)
 ·simp at hc1;refine zE fun _ V=>?_
  simp;apply V;refine J.ret func48 (aM.one results48) (hQ _ _ _ _ (.v _ _ _) ?_);simp[kW,hc1]
 ·simp at hc1;apply J.skip;refine zE fun _ V=>?_
  simp;apply V;apply J.seq;refine J.block (J.DI (fun m O H n=>O 0=int m/\∃ out:cH,O 3=str out/\out.length+m<=k/\Bl m out=Bl k []) k ?_ ?_)
  ·simp
  ·rintro m O H n ⟨h0,out,h3,hlen,hd⟩ IH;refine zS fun _ V=>?_
   simp [h0];apply V;refine J.ite rfl (fun hc2 => ?_) (fun hc2 => ?_)
   ·simp at hc2;apply J.skip;apply J.block;refine zE fun _ V=>?_
    obtain⟨g,hg⟩:∃ g:Nat,g=48+m % 10:=⟨_,rfl⟩
    obtain⟨q,hq'⟩:∃ q:Nat,q=m / 10:=⟨_,rfl⟩
    have hq:((m:Int).tdiv 10)=(q:Int):=by rw[Int.tdiv_eq_ediv_of_nonneg (by omega)];omega
    have hw:IntKind.i64.wrap (48+((m:Int).tmod 10))=(g:Int):=by
     rw[Int.tmod_eq_emod_of_nonneg (by omega),wrap64]<;>omega
    have hw2:IntKind.i64.wrap (q:Int)=(q:Int):=by rw[wrap64]<;>omega
    have hw3:IntKind.u8.wrap (g:Int)=(g:Int):=wrap_u8 (by omega) (by omega);simp [h0, h3, hw, hw3];refine bq.op aw (by decide) (by decide) rfl (ny (ns:=[(g:Int)]) (els:=[[.v (.int .u8 g)]]) aw DD (by kernel_rfl) kd_9 (by simp[cy]) rfl) ?_;rintro v H' n' ⟨rfl,rfl,rfl⟩;simp[h3,show 1+out.length<4611686018427387904 by omega];apply V;refine zF fun _ V=>?_
    simp [h0, hq, hw2];apply V;apply J.inBlock;refine IH q _ _ _ (by omega) ⟨by simp,UInt8.ofNat g::out,by simp,by simp;omega,?_⟩;rw[<- hd,hg,hq']
    conv=>rhs;rw[Bl,if_neg (by omega)]
   ·simp at hc2;subst hc2;rw[Bl,if_pos rfl] at hd;refine J.exit rfl ?_;refine zE fun _ V=>?_
    simp [h3, show 1 + out.length < 4611686018427387904 by omega];apply V;refine J.ret func48 (aM.one results48) (hQ _ _ _ _ (.v _ _ _) ?_);simp[kW,hc1,hd,show ¬ k=0 by omega]
end Go.Ab
namespace Go.Ab.Vg
theorem BS {α:Type} [Inhabited α] {a:List α} {k:Nat} (hk:k<a.length):(a.take k++List.replicate (a.length - k) default).set k a[k]=a.take (k+1)++List.replicate (a.length - (k+1)) default:=by
 rw[List.set_append_right _ _ (by simp;omega)];rw[List.take_succ_eq_append_getElem hk,List.append_assoc]
 congr 1
 have h1:a.length - k=(a.length - (k+1))+1:=by omega
 have h2:k - (a.take k).length=0:=by simp;omega
 rw[h1,h2,List.replicate_succ]
 rfl
abbrev filled {α:Type} [Inhabited α] (a:List α) (k:Nat):List α:=a.take k++List.replicate (a.length - k) default
theorem iv {α:Type} [Inhabited α] {a:List α} {k:Nat} (hk:k<=a.length):(filled a k).length=a.length:=by simp[filled];omega
theorem ij {α:Type} [Inhabited α] {a:List α} {k:Nat} (hk:k<a.length):(filled a k).set k (at' a (k:Int))=filled a (k+1):=by rw[bo hk];exact BS hk
theorem ib {α:Type} [Inhabited α] (a:List α):filled a a.length=a:=by simp[filled]
theorem ga {α:Type} [Inhabited α] (a:List α):filled a 0=List.replicate a.length default:=by simp[filled]
abbrev uw (a:List Int):=a
abbrev iA (a:List Int):Prop:=a.length<=1048576
def lp (a:List Int) (Z:(List Int)->Prop):Prop:=
 ∀ b6:Int,b6=(a.length:Int)->(0<=b6/\b6<=1073741824)/\∀ l5:List Int,l5=List.replicate b6.toNat default->aO (σ:=Int × (List Int)) (fun (i16,l17) K21=>∀ len22:Int,len22=(a.length:Int)->∀ c24:Bool,c24=decide (i16<len22)->((c24=true->(0<=i16/\i16<a.length)/\∀ x27:Int,x27=at' a i16->(0<=i16/\i16<l17.length)/\∀ x34:Int,x34=at' l17 i16->∀ l37:List Int,l37=l17.set i16.toNat x27->(bP (i16+1))/\∀ v44:Int,v44=i16+1->K21 (v44,l37))/\(c24=false->Z l17))) (0,l5)
theorem AZ (a:List Int) (h:iA a):lp a (fun y=>y=uw a):=by
 unfold lp;simp only[iA] at h;simp only[forall_eq,Int.toNat_natCast];refine⟨by omega,aO.qc a.length (fun k out=>out=filled a k) _ (ga a).symm ?_⟩;rintro k out K hk rfl IH;have hl:=iv hk;simp only[decide_eq_true_eq,decide_eq_false_iff_not,bP,Int.toNat_natCast];refine⟨fun h1=>⟨by omega,by omega,by omega,IH (by omega) _ (ij (by omega))⟩,fun h1=>?_⟩;rw[show k=a.length by omega];exact ib a
abbrev nM (a:List cH):=a
abbrev fN (a:List cH):Prop:=a.length<=1048576
def gL (a:List cH) (Z:(List cH)->Prop):Prop:=
 ∀ b6:Int,b6=(a.length:Int)->(0<=b6/\b6<=1073741824)/\∀ l5:List cH,l5=List.replicate b6.toNat default->aO (σ:=Int × (List cH)) (fun (i16,l17) K21=>∀ len22:Int,len22=(a.length:Int)->∀ c24:Bool,c24=decide (i16<len22)->((c24=true->(0<=i16/\i16<a.length)/\∀ x27:cH,x27=at' a i16->(0<=i16/\i16<l17.length)/\∀ x34:cH,x34=at' l17 i16->∀ l37:List cH,l37=l17.set i16.toNat x27->(bP (i16+1))/\∀ v44:Int,v44=i16+1->K21 (v44,l37))/\(c24=false->Z l17))) (0,l5)
theorem th (a:List cH) (h:fN a):gL a (fun y=>y=nM a):=by
 unfold gL;simp only[fN] at h;simp only[forall_eq,Int.toNat_natCast];refine⟨by omega,aO.qc a.length (fun k out=>out=filled a k) _ (ga a).symm ?_⟩;rintro k out K hk rfl IH;have hl:=iv hk;simp only[decide_eq_true_eq,decide_eq_false_iff_not,bP,Int.toNat_natCast];refine⟨fun h1=>⟨by omega,by omega,by omega,IH (by omega) _ (ij (by omega))⟩,fun h1=>?_⟩;rw[show k=a.length by omega];exact ib a
abbrev jz (a:Control):=a
def jP (a:Control) (Z:Control->Prop):Prop:=
 Z a
theorem tE (a:Control):jP a (fun y=>y=jz a):=rfl
abbrev eQ (a:List Control):=a
abbrev c9 (a:List Control):Prop:=a.length<=1048576
def fR (a:List Control) (Z:(List Control)->Prop):Prop:=
 ∀ b6:Int,b6=(a.length:Int)->(0<=b6/\b6<=1073741824)/\∀ l5:List Control,l5=List.replicate b6.toNat default->aO (σ:=Int × (List Control)) (fun (i16,l17) K21=>∀ len22:Int,len22=(a.length:Int)->∀ c24:Bool,c24=decide (i16<len22)->((c24=true->(0<=i16/\i16<a.length)/\∀ x27:Control,x27=at' a i16->∀ r29:Control,r29=jz x27->(0<=i16/\i16<l17.length)/\∀ x35:Control,x35=at' l17 i16->∀ l38:List Control,l38=l17.set i16.toNat r29->(bP (i16+1))/\∀ v45:Int,v45=i16+1->K21 (v45,l38))/\(c24=false->Z l17))) (0,l5)
theorem rO (a:List Control) (h:c9 a):fR a (fun y=>y=eQ a):=by
 unfold fR;simp only[c9] at h;simp only[forall_eq,Int.toNat_natCast];refine⟨by omega,aO.qc a.length (fun k out=>out=filled a k) _ (ga a).symm ?_⟩;rintro k out K hk rfl IH;have hl:=iv hk;simp only[decide_eq_true_eq,decide_eq_false_iff_not,bP,Int.toNat_natCast];refine⟨fun h1=>⟨by omega,by omega,by omega,IH (by omega) _ (ij (by omega))⟩,fun h1=>?_⟩;rw[show k=a.length by omega];exact ib a
abbrev tj (a:aI):=a
def oq (a:aI) (Z:aI->Prop):Prop:=
 Z a
theorem zX (a:aI):oq a (fun y=>y=tj a):=rfl
abbrev tz (a:List aI):=a
abbrev iD (a:List aI):Prop:=a.length<=1048576
def jT (a:List aI) (Z:(List aI)->Prop):Prop:=
 ∀ b6:Int,b6=(a.length:Int)->(0<=b6/\b6<=1073741824)/\∀ l5:List aI,l5=List.replicate b6.toNat default->aO (σ:=Int × (List aI)) (fun (i16,l17) K21=>∀ len22:Int,len22=(a.length:Int)->∀ c24:Bool,c24=decide (i16<len22)->((c24=true->(0<=i16/\i16<a.length)/\∀ x27:aI,x27=at' a i16->∀ r29:aI,r29=tj x27->(0<=i16/\i16<l17.length)/\∀ x35:aI,x35=at' l17 i16->∀ l38:List aI,l38=l17.set i16.toNat r29->(bP (i16+1))/\∀ v45:Int,v45=i16+1->K21 (v45,l38))/\(c24=false->Z l17))) (0,l5)
theorem xP (a:List aI) (h:iD a):jT a (fun y=>y=tz a):=by
 unfold jT;simp only[iD] at h;simp only[forall_eq,Int.toNat_natCast];refine⟨by omega,aO.qc a.length (fun k out=>out=filled a k) _ (ga a).symm ?_⟩;rintro k out K hk rfl IH;have hl:=iv hk;simp only[decide_eq_true_eq,decide_eq_false_iff_not,bP,Int.toNat_natCast];refine⟨fun h1=>⟨by omega,by omega,by omega,IH (by omega) _ (ij (by omega))⟩,fun h1=>?_⟩;rw[show k=a.length by omega];exact ib a
abbrev q8 (a:ay):=a
abbrev lU (a:ay):Prop:=a.links.length<=1048576
def lg (a:ay) (Z:ay->Prop):Prop:=
 (iA a.links)/\∀ r10:List Int,r10=uw a.links->Z (ay.mk a.control a.parent r10)
theorem AB (a:ay) (h:lU a):lg a (fun y=>y=q8 a):=by
 unfold lg;exact⟨h,by rintro _ rfl;rfl⟩
abbrev tv (a:List ay):=a
abbrev kE (a:List ay):Prop:=a.length<=1048576/\∀ x ∈ a,x.links.length<=1048576
def jN (a:List ay) (Z:(List ay)->Prop):Prop:=
 ∀ b6:Int,b6=(a.length:Int)->(0<=b6/\b6<=1073741824)/\∀ l5:List ay,l5=List.replicate b6.toNat default->aO (σ:=Int × (List ay)) (fun (i16,l17) K21=>∀ len22:Int,len22=(a.length:Int)->∀ c24:Bool,c24=decide (i16<len22)->((c24=true->(0<=i16/\i16<a.length)/\∀ x27:ay,x27=at' a i16->(lU x27)/\∀ r30:ay,r30=q8 x27->(0<=i16/\i16<l17.length)/\∀ x44:ay,x44=at' l17 i16->∀ l63:List ay,l63=l17.set i16.toNat r30->(bP (i16+1))/\∀ v70:Int,v70=i16+1->K21 (v70,l63))/\(c24=false->Z l17))) (0,l5)
theorem xj (a:List ay) (h:kE a):jN a (fun y=>y=tv a):=by
 unfold jN;obtain⟨h,h'⟩:=h;simp only[forall_eq,Int.toNat_natCast];refine⟨by omega,aO.qc a.length (fun k out=>out=filled a k) _ (ga a).symm ?_⟩;rintro k out K hk rfl IH;have hl:=iv hk;simp only[decide_eq_true_eq,decide_eq_false_iff_not,bP,Int.toNat_natCast];refine⟨fun h1=>⟨by omega,?_,by omega,by omega,IH (by omega) _ (ij (by omega))⟩,fun h1=>?_⟩
 ·rw[bo (show k<a.length by omega)];exact h' _ (List.getElem_mem _)
 ·rw[show k=a.length by omega];exact ib a
abbrev dh (a:aG):=a
abbrev dq (a:aG):Prop:=(a.nodes.length<=1048576/\∀ x ∈ a.nodes,x.links.length<=1048576)/\a.sites.length<=1048576/\a.outer.length<=1048576/\a.inner.length<=1048576
def gH (a:aG) (Z:aG->Prop):Prop:=
 (kE a.nodes)/\∀ r9:List ay,r9=tv a.nodes->(iA a.sites)/\∀ r21:List Int,r21=uw a.sites->(fN a.outer)/\∀ r37:List cH,r37=nM a.outer->(iD a.inner)/\∀ r51:List aI,r51=tz a.inner->Z (aG.mk a.roots r9 r21 a.edges r37 r51)
theorem tH (a:aG) (h:dq a):gH a (fun y=>y=dh a):=by
 unfold gH;simp only[forall_eq];exact⟨h.1,h.2.1,h.2.2.1,h.2.2.2,trivial⟩
def dw {α:Type} (g:α->Int->α) (c:Int) (l:List α) (k:Int) (i:Nat):List α:=l.mapIdx fun j x=>if j<i then g x (k+c * j) else x
def en {α:Type} (g:α->Int->α) (c:Int) (l:List α) (k:Int):List α × Int:=(dw g c l k l.length,k+c * l.length)
section
variable {α:Type} (g:α->Int->α) (c:Int) (l:List α) (k:Int)
theorem gG:dw g c l k 0=l:=by
 apply List.ext_getElem
 ·simp[dw]
 ·intro j h1 h2;simp[dw]
theorem cW (i:Nat):(dw g c l k i).length=l.length:=by simp[dw]
theorem iP {i:Nat} (hi:i<l.length):(dw g c l k i).set i (g l[i] (k+c * i))=dw g c l k (i+1):=by
 apply List.ext_getElem
 ·simp[dw]
 ·intro j h1 h2;simp only[List.getElem_set,dw,List.getElem_mapIdx]
  by_cases hj:i=j
  ·subst hj;simp
  ·rw[if_neg hj]
   by_cases h3:j<i
   ·rw[if_pos h3,if_pos (by omega)]
   ·rw[if_neg h3,if_neg (by omega)]
end
def cM (k:Int):cH:=kW k.toNat
abbrev cP (k:Int):Prop:=0<=k/\k<=1152921504606846976
abbrev mf (c n k:Int):Prop:=0<=k/\n<=1048576/\k+c * n<=1152921504606846976
abbrev bI (l:List Int) (k:Int):=en (fun _ k=>k) 1 l k
abbrev gI (l:List Int) (k:Int):Prop:=mf 1 l.length k
def iG (a:List Int) (k_:Int) (Z:((List Int) × Int)->Prop):Prop:=
 aO (σ:=Int × Int × (List Int)) (fun (k10,i11,l12) K15=>∀ len16:Int,len16=(l12.length:Int)->∀ c18:Bool,c18=decide (i11<len16)->((c18=true->(0<=i11/\i11<l12.length)/\∀ x25:Int,x25=at' l12 i11->∀ l28:List Int,l28=l12.set i11.toNat k10->(bP (k10+1))/\∀ v34:Int,v34=k10+1->(bP (i11+1))/\∀ v37:Int,v37=i11+1->K15 (v34,v37,l28))/\(c18=false->Z (l12,k10)))) (k_,0,a)
theorem vD (l:List Int) (k:Int) (h:gI l k):iG l k (fun y=>y=bI l k):=by
 unfold iG;obtain⟨h1,h2,h3⟩:=h;refine aO.up l.length (fun s=>s.2.1) (fun i t=>(k+1 * i,(i:Int),t)) (fun _ _=>rfl) (fun i out=>out=dw (fun _ k=>k) 1 l k i) l (by simp) (gG _ _ _ _).symm ?_;rintro i out K hk rfl IH;have hl:=cW (fun _ k=>k) 1 l k i;simp only[forall_eq,decide_eq_true_eq,decide_eq_false_iff_not,bP,Int.toNat_natCast];refine⟨fun h4=>⟨by omega,by omega,by omega,?_⟩,fun h4=>?_⟩
 ·have hi:i<l.length:=by omega
  have:=IH hi _ rfl;rw[<- iP _ _ _ _ hi] at this;rw[show k+1 * (((i+1:Nat)):Int)=k+1 * i+1 by omega] at this;simpa using this
 ·rw[show i=l.length by omega]
  rfl
abbrev b9 (l:List cH) (k:Int):=en (fun _ k=>cM k) 1 l k
abbrev gB (l:List cH) (k:Int):Prop:=mf 1 l.length k
def fg (a:List cH) (k_:Int) (Z:((List cH) × Int)->Prop):Prop:=
 aO (σ:=Int × Int × (List cH)) (fun (k10,i11,l12) K15=>∀ len16:Int,len16=(l12.length:Int)->∀ c18:Bool,c18=decide (i11<len16)->((c18=true->(cP k10)/\∀ r21:cH,r21=cM k10->(0<=i11/\i11<l12.length)/\∀ x27:cH,x27=at' l12 i11->∀ l30:List cH,l30=l12.set i11.toNat r21->(bP (k10+1))/\∀ v36:Int,v36=k10+1->(bP (i11+1))/\∀ v39:Int,v39=i11+1->K15 (v36,v39,l30))/\(c18=false->Z (l12,k10)))) (k_,0,a)
theorem qx (l:List cH) (k:Int) (h:gB l k):fg l k (fun y=>y=b9 l k):=by
 unfold fg;obtain⟨h1,h2,h3⟩:=h;refine aO.up l.length (fun s=>s.2.1) (fun i t=>(k+1 * i,(i:Int),t)) (fun _ _=>rfl) (fun i out=>out=dw (fun _ k=>cM k) 1 l k i) l (by simp) (gG _ _ _ _).symm ?_;rintro i out K hk rfl IH;have hl:=cW (fun _ k=>cM k) 1 l k i;simp only[forall_eq,decide_eq_true_eq,decide_eq_false_iff_not,bP,Int.toNat_natCast];refine⟨fun h4=>⟨by simp only[cP];omega,by omega,by omega,by omega,?_⟩,fun h4=>?_⟩
 ·have hi:i<l.length:=by omega
  have:=IH hi _ rfl;rw[<- iP _ _ _ _ hi] at this;rw[show k+1 * (((i+1:Nat)):Int)=k+1 * i+1 by omega] at this;simpa using this
 ·rw[show i=l.length by omega]
  rfl
theorem um {α:Type} [Inhabited α] {l:List α} {i:Nat} {x:α} (hi:i<l.length):at' (l.set i x) (i:Int)=x:=by
 rw[bo (by simpa using hi)];simp
abbrev dx (l:List aI) (k:Int):=en (fun _ k=>(⟨cM k,k+1⟩:aI)) 2 l k
abbrev iY (l:List aI) (k:Int):Prop:=mf 2 l.length k
def gR (a:List aI) (k_:Int) (Z:((List aI) × Int)->Prop):Prop:=
 aO (σ:=Int × Int × (List aI)) (fun (k10,i11,l12) K15=>∀ len16:Int,len16=(l12.length:Int)->∀ c18:Bool,c18=decide (i11<len16)->((c18=true->(cP k10)/\∀ r21:cH,r21=cM k10->(0<=i11/\i11<l12.length)/\∀ x27:aI,x27=at' l12 i11->∀ l30:List aI,l30=l12.set i11.toNat (aI.mk r21 x27.link)->(bP (k10+1))/\∀ v36:Int,v36=k10+1->(0<=i11/\i11<l30.length)/\∀ x44:aI,x44=at' l30 i11->∀ l47:List aI,l47=l30.set i11.toNat (aI.mk x44.name v36)->(bP (v36+1))/\∀ v53:Int,v53=v36+1->(bP (i11+1))/\∀ v56:Int,v56=i11+1->K15 (v53,v56,l47))/\(c18=false->Z (l12,k10)))) (k_,0,a)
theorem tg (l:List aI) (k:Int) (h:iY l k):gR l k (fun y=>y=dx l k):=by
 unfold gR;obtain⟨h1,h2,h3⟩:=h;refine aO.up l.length (fun s=>s.2.1) (fun i t=>(k+2 * i,(i:Int),t)) (fun _ _=>rfl) (fun i out=>out=dw (fun _ k=>(⟨cM k,k+1⟩:aI)) 2 l k i) l (by simp) (gG _ _ _ _).symm ?_;rintro i out K hk rfl IH;have hl:=cW (fun _ k=>(⟨cM k,k+1⟩:aI)) 2 l k i;simp only[forall_eq,decide_eq_true_eq,decide_eq_false_iff_not,bP,Int.toNat_natCast,List.length_set];refine⟨fun h4=>⟨by simp only[cP];omega,by omega,by omega,by omega,by omega,by omega,?_⟩,fun h4=>?_⟩
 ·have hi:i<l.length:=by omega
  rw[um (by rw[hl];exact hi),List.set_set];have:=IH hi _ rfl;rw[<- iP _ _ _ _ hi] at this;rw[show k+2 * (((i+1:Nat)):Int)=k+2 * i+1+1 by omega] at this;simpa using this
 ·rw[show i=l.length by omega]
  rfl
abbrev ew (l:List Control) (k:Int):=en (fun _ k=>(⟨cM k,k+1,k+1+1⟩:Control)) 3 l k
abbrev fL (l:List Control) (k:Int):Prop:=mf 3 l.length k
def eL (a:List Control) (k_:Int) (Z:((List Control) × Int)->Prop):Prop:=
 aO (σ:=Int × Int × (List Control)) (fun (k10,i11,l12) K15=>∀ len16:Int,len16=(l12.length:Int)->∀ c18:Bool,c18=decide (i11<len16)->((c18=true->(cP k10)/\∀ r21:cH,r21=cM k10->(0<=i11/\i11<l12.length)/\∀ x27:Control,x27=at' l12 i11->∀ l30:List Control,l30=l12.set i11.toNat (Control.mk r21 x27.ports x27.kind)->(bP (k10+1))/\∀ v36:Int,v36=k10+1->(0<=i11/\i11<l30.length)/\∀ x44:Control,x44=at' l30 i11->∀ l47:List Control,l47=l30.set i11.toNat (Control.mk x44.name v36 x44.kind)->(bP (v36+1))/\∀ v53:Int,v53=v36+1->(0<=i11/\i11<l47.length)/\∀ x61:Control,x61=at' l47 i11->∀ l64:List Control,l64=l47.set i11.toNat (Control.mk x61.name x61.ports v53)->(bP (v53+1))/\∀ v70:Int,v70=v53+1->(bP (i11+1))/\∀ v73:Int,v73=i11+1->K15 (v70,v73,l64))/\(c18=false->Z (l12,k10)))) (k_,0,a)
theorem pr (l:List Control) (k:Int) (h:fL l k):eL l k (fun y=>y=ew l k):=by
 unfold eL;obtain⟨h1,h2,h3⟩:=h;refine aO.up l.length (fun s=>s.2.1) (fun i t=>(k+3 * i,(i:Int),t)) (fun _ _=>rfl) (fun i out=>out=dw (fun _ k=>(⟨cM k,k+1,k+1+1⟩:Control)) 3 l k i) l (by simp) (gG _ _ _ _).symm ?_;rintro i out K hk rfl IH;have hl:=cW (fun _ k=>(⟨cM k,k+1,k+1+1⟩:Control)) 3 l k i;simp only[forall_eq,decide_eq_true_eq,decide_eq_false_iff_not,bP,Int.toNat_natCast,List.length_set];refine⟨fun h4=>⟨by simp only[cP];omega,by omega,by omega,by omega,by omega,by omega,by omega,by omega,?_⟩,fun h4=>?_⟩
 ·have hi:i<l.length:=by omega
  rw[um (by rw[hl];exact hi),List.set_set,um (by simp only[List.length_set,hl];exact hi),List.set_set];have:=IH hi _ rfl;rw[<- iP _ _ _ _ hi] at this;rw[show k+3 * (((i+1:Nat)):Int)=k+3 * i+1+1+1 by omega] at this;simpa using this
 ·rw[show i=l.length by omega]
  rfl
def cm (l:List Int) (k:Int):Int:=if (List.range l.length).all (fun i=>decide (at' l (i:Int)=k+i)) then k+l.length else -1
abbrev gM (l:List Int) (k:Int):Prop:=mf 1 l.length k
def iO (a:List Int) (k_:Int) (Z:Int->Prop):Prop:=
 aO (σ:=Int × Int) (fun (k5,i6) K9=>∀ fe:Int,fe=(a.length:Int)->∀ c12:Bool,c12=decide (i6<fe)->((c12=true->(0<=i6/\i6<a.length)/\∀ x15:Int,x15=at' a i6->∀ c17:Bool,c17=decide (x15 ≠ k5)->((c17=true->Z (-1))/\(c17=false->(bP (k5+1))/\∀ v20:Int,v20=k5+1->(bP (i6+1))/\∀ v23:Int,v23=i6+1->K9 (v20,v23))))/\(c12=false->Z k5))) (k_,0)
theorem va (l:List Int) (k:Int) (h:gM l k):iO l k (fun y=>y=cm l k):=by
 unfold iO;obtain⟨h1,h2,h3⟩:=h;refine aO.up (τ:=Unit) l.length (fun s=>s.2) (fun i _=>(k+i,(i:Int))) (fun _ _=>rfl) (fun i _=>∀ j<i,at' l (j:Int)=k+j) () (by simp) (by simp) ?_;rintro i _ K hk hI IH;simp only[forall_eq,decide_eq_true_eq,decide_eq_false_iff_not,bP];refine⟨fun h4=>⟨by omega,fun h5=>?_,fun h5=>⟨by omega,by omega,?_⟩⟩,fun h4=>?_⟩
 ·rw[cm,if_neg];rw[List.all_eq_true];intro h6;exact h5 (by simpa using h6 i (List.mem_range.2 (by omega)))
 ·have:=IH (by omega) () (fun j hj=>by
   rcases Nat.lt_or_ge j i with h6 | h6
   ·exact hI j h6
   ·rw[show j=i by omega];omega)
  simpa[show k+((i:Int)+1)=k+i+1 by omega] using this
 ·have hi:i=l.length:=by omega
  rw[cm,if_pos,hi];rw[List.all_eq_true];intro j hj;simpa using hI j (by have:=List.mem_range.1 hj;omega)
theorem sk (l:List Int) (k:Int):cm (bI l k).1 k=(bI l k).2:=by
 have hl:(bI l k).1.length=l.length:=by simp[bI,en,cW]
 rw[cm,if_pos,hl]
 ·simp[bI,en]
 ·rw[List.all_eq_true];intro j hj;have hj:=List.mem_range.1 hj;rw[bo hj];rw[hl] at hj;simp[bI,en,dw,hj]
end Go.Ab.Vg
namespace Go.Ab.Vg
section
variable {α:Type} (m:α->Int->α × Int)
def bN:List α->Int->List α × Int
 | [],k=>([],k)
 | x::l,k=>((m x k).1::(bN l (m x k).2).1,(bN l (m x k).2).2)
theorem kC (l1 l2:List α) (k:Int):bN m (l1++l2) k=((bN m l1 k).1++(bN m l2 (bN m l1 k).2).1,(bN m l2 (bN m l1 k).2).2):=by
 induction l1 generalizing k with
 | nil=>rfl
 | cons x l ih=>simp[bN,ih]
theorem iS (l:List α) (k:Int):(bN m l k).1.length=l.length:=by
 induction l generalizing k with
 | nil=>rfl
 | cons x l ih=>simp[bN,ih]
def fB (l:List α) (k:Int) (i:Nat):List α:=(bN m (l.take i) k).1++l.drop i
def gC (l:List α) (k:Int) (i:Nat):Int:=(bN m (l.take i) k).2
theorem wQ (l:List α) (k:Int):fB m l k 0=l:=by simp[fB,bN]
theorem yt (l:List α) (k:Int):fB m l k l.length=(bN m l k).1:=by simp[fB]
theorem pP (l:List α) (k:Int):gC m l k l.length=(bN m l k).2:=by simp[gC]
theorem rn (l:List α) (k:Int) (i:Nat):(fB m l k i).length=l.length:=by
 simp only[fB,List.length_append,iS,List.length_take,List.length_drop];omega
theorem xE [Inhabited α] {l:List α} {k:Int} {i:Nat} (hi:i<l.length):at' (fB m l k i) (i:Int)=l[i]:=by
 rw[bo (by rw[rn];exact hi)];have hl:(bN m (l.take i) k).1.length=i:=by rw[iS];simp;omega
 simp only[fB];rw[List.getElem_append_right (by omega)];simp[hl]
theorem ya {l:List α} {k:Int} {i:Nat} (hi:i<l.length):(fB m l k i).set i (m l[i] (gC m l k i)).1=fB m l k (i+1):=by
 have hl:(bN m (l.take i) k).1.length=i:=by rw[iS];simp;omega
 simp only[fB,gC];rw[List.set_append_right _ _ (by omega),hl,Nat.sub_self,List.take_succ_eq_append_getElem hi,kC,List.drop_eq_getElem_cons hi];simp only[List.set_cons_zero,bN,List.append_assoc,List.cons_append,List.nil_append]
theorem pe {l:List α} {k:Int} {i:Nat} (hi:i<l.length):gC m l k (i+1)=(m l[i] (gC m l k i)).2:=by
 simp only[gC];rw[List.take_succ_eq_append_getElem hi,kC];simp[bN]
theorem ke {sz:α->Nat} (hm:∀ x k,(m x k).2=k+sz x) (l:List α) (k:Int) (i:Nat):gC m l k i=k+((l.take i).map sz).sum:=by
 have:∀ (l:List α) (k:Int),(bN m l k).2=k+(l.map sz).sum:=by
  intro l
  induction l with
  | nil=>intro k;simp[bN]
  | cons x l ih=>intro k;simp only[bN,ih,hm,List.map_cons,List.sum_cons];omega
 exact this _ _
theorem iQ {f:α->Nat} (l:List α) (i:Nat):((l.take i).map f).sum<=(l.map f).sum:=by
 have:l.map f=(l.take i).map f++(l.drop i).map f:=by rw[<- List.map_append,List.take_append_drop]
 rw[this,List.sum_append];omega
end
def ck (x:ay) (k:Int):ay × Int:=(ay.mk k (k+1) (bI x.links (k+2)).1,(bI x.links (k+2)).2)
def bm (x:ay):Nat:=x.links.length+2
theorem eD (x:ay) (k:Int):(ck x k).2=k+bm x:=by simp[ck,bm,bI,en];omega
abbrev bR (l:List ay) (k:Int):=bN ck l k
abbrev fM (l:List ay) (k:Int):Prop:=0<=k/\l.length<=1048576/\(∀ x ∈ l,x.links.length<=1048576)/\k+(l.map bm).sum<=1152921504606846976
def gE (a:List ay) (k_:Int) (Z:((List ay) × Int)->Prop):Prop:=
 aO (σ:=Int × Int × (List ay)) (fun (k10,i11,l12) K15=>∀ len16:Int,len16=(l12.length:Int)->∀ c18:Bool,c18=decide (i11<len16)->((c18=true->(0<=i11/\i11<l12.length)/\∀ x21:ay,x21=at' l12 i11->∀ l40:List ay,l40=l12.set i11.toNat (ay.mk k10 x21.parent x21.links)->(bP (k10+1))/\∀ v46:Int,v46=k10+1->(0<=i11/\i11<l40.length)/\∀ x49:ay,x49=at' l40 i11->∀ l69:List ay,l69=l40.set i11.toNat (ay.mk x49.control v46 x49.links)->(bP (v46+1))/\∀ v75:Int,v75=v46+1->(0<=i11/\i11<l69.length)/\∀ x78:ay,x78=at' l69 i11->(gI x78.links v75)/\∀ r99:(List Int) × Int,r99=bI x78.links v75->∀ l105:List ay,l105=l69.set i11.toNat (ay.mk x78.control x78.parent r99.1)->(bP (i11+1))/\∀ v109:Int,v109=i11+1->K15 (r99.2,v109,l105))/\(c18=false->Z (l12,k10)))) (k_,0,a)
theorem ue (l:List ay) (k:Int) (h:fM l k):gE l k (fun y=>y=bR l k):=by
 unfold gE;obtain⟨h0,h1,h2,h3⟩:=h;refine aO.up l.length (fun s=>s.2.1) (fun i t=>(gC ck l k i,(i:Int),t)) (fun _ _=>rfl) (fun i out=>out=fB ck l k i) l (by simp[gC,bN]) (wQ _ _ _).symm ?_;rintro i out K hk rfl IH;have hl:=rn ck l k i;have hs:=ke ck eD l k i;have hs2:=iQ (f:=bm) l i;simp only[forall_eq,decide_eq_true_eq,decide_eq_false_iff_not,bP,Int.toNat_natCast,List.length_set];refine⟨fun h4=>?_,fun h4=>?_⟩
 ·have hi:i<l.length:=by omega
  have hs3:=ke ck eD l k (i+1);have hs4:=iQ (f:=bm) l (i+1);have hs5:=pe ck (k:=k) hi;rw[eD] at hs5;have hz:bm l[i]=l[i].links.length+2:=rfl;have hn:=h2 _ (List.getElem_mem hi);simp only[xE ck hi,List.set_set,um (show i<(fB ck l k i).length by omega)];refine⟨by omega,by omega,by omega,by omega,by omega,⟨by omega,by omega,by omega⟩,by omega,?_⟩;have:=IH hi _ rfl;rw[<- ya _ hi,pe _ hi] at this;have e2:gC ck l k i+1+1=gC ck l k i+2:=by omega
  rw[e2];simpa[ck] using this
 ·rw[show i=l.length by omega,yt,pP]
def kh {α:Type} [Inhabited α] (t:α->Int->Bool) (c:Int) (l:List α) (k:Int):Int:=if (List.range l.length).all (fun i=>t (at' l (i:Int)) (k+c * i)) then k+c * l.length else -1
theorem qd {α:Type} [Inhabited α] {t:α->Int->Bool} {g:α->Int->α} {c:Int} (ht:∀ x k,t (g x k) k=true) (l:List α) (k:Int):kh t c (en g c l k).1 k=(en g c l k).2:=by
 have hl:(en g c l k).1.length=l.length:=by simp[en,cW]
 rw[kh,if_pos,hl]
 ·simp[en]
 ·rw[List.all_eq_true];intro j hj;have hj:=List.mem_range.1 hj;rw[bo hj];rw[hl] at hj;simp[en,dw,hj,ht]
theorem wb {α:Type} [Inhabited α] {t:α->Int->Bool} {c:Int} {l:List α} {k:Int} {i:Nat} (hi:i<l.length) (h:t (at' l (i:Int)) (k+c * i)=false):kh t c l k = -1:=by
 rw[kh,if_neg];rw[List.all_eq_true];intro h6;have:=h6 i (List.mem_range.2 hi);rw[h] at this;cases this
theorem sq {α:Type} [Inhabited α] {t:α->Int->Bool} {c:Int} {l:List α} {k:Int} (h:∀ i<l.length,t (at' l (i:Int)) (k+c * i)=true):kh t c l k=k+c * l.length:=by
 rw[kh,if_pos];rw[List.all_eq_true];exact fun j hj=>h j (List.mem_range.1 hj)
def cN (l:List cH) (k:Int):Int:=kh (fun x k=>decide (x=cM k)) 1 l k
abbrev gp (l:List cH) (k:Int):Prop:=mf 1 l.length k
def fi (a:List cH) (k_:Int) (Z:Int->Prop):Prop:=
 aO (σ:=Int × Int) (fun (k5,i6) K9=>∀ fe:Int,fe=(a.length:Int)->∀ c12:Bool,c12=decide (i6<fe)->((c12=true->(0<=i6/\i6<a.length)/\∀ x15:cH,x15=at' a i6->(cP k5)/\∀ r18:cH,r18=cM k5->∀ c19:Bool,c19=decide (x15 ≠ r18)->((c19=true->Z (-1))/\(c19=false->(bP (k5+1))/\∀ v22:Int,v22=k5+1->(bP (i6+1))/\∀ v25:Int,v25=i6+1->K9 (v22,v25))))/\(c12=false->Z k5))) (k_,0)
theorem pT (l:List cH) (k:Int) (h:gp l k):fi l k (fun y=>y=cN l k):=by
 unfold fi;obtain⟨h1,h2,h3⟩:=h;refine aO.up (τ:=Unit) l.length (fun s=>s.2) (fun i _=>(k+1 * i,(i:Int))) (fun _ _=>rfl) (fun i _=>∀ j<i,at' l (j:Int)=cM (k+1 * j)) () (by simp) (by simp) ?_;rintro i _ K hk hI IH;simp only[forall_eq,decide_eq_true_eq,decide_eq_false_iff_not,bP,cP];refine⟨fun h4=>⟨by omega,by omega,fun h5=>?_,fun h5=>⟨by omega,by omega,?_⟩⟩,fun h4=>?_⟩
 ·rw[cN,wb (i:=i) (by omega)];simpa using h5
 ·have:=IH (by omega) () (fun j hj=>by
   rcases Nat.lt_or_ge j i with h6 | h6
   ·exact hI j h6
   ·rw[show j=i by omega];simpa using h5)
  simpa[show k+((i:Int)+1)=k+i+1 by omega] using this
 ·have hi:i=l.length:=by omega
  rw[cN,sq (fun j hj=>by simpa using hI j (by omega)),hi]
def eu (l:List aI) (k:Int):Int:=kh (fun x k=>decide (x.name=cM k/\x.link=k+1)) 2 l k
abbrev iZ (l:List aI) (k:Int):Prop:=mf 2 l.length k
def gU (a:List aI) (k_:Int) (Z:Int->Prop):Prop:=
 aO (σ:=Int × Int) (fun (k5,i6) K9=>∀ fe:Int,fe=(a.length:Int)->∀ c12:Bool,c12=decide (i6<fe)->((c12=true->(0<=i6/\i6<a.length)/\∀ x15:aI,x15=at' a i6->(cP k5)/\∀ r18:cH,r18=cM k5->∀ c19:Bool,c19=decide (x15.name ≠ r18)->((c19=true->Z (-1))/\(c19=false->(bP (k5+1))/\∀ v22:Int,v22=k5+1->(0<=i6/\i6<a.length)/\∀ x26:aI,x26=at' a i6->∀ c28:Bool,c28=decide (x26.link ≠ v22)->((c28=true->Z (-1))/\(c28=false->(bP (v22+1))/\∀ v31:Int,v31=v22+1->(bP (i6+1))/\∀ v34:Int,v34=i6+1->K9 (v31,v34))))))/\(c12=false->Z k5))) (k_,0)
theorem uA (l:List aI) (k:Int) (h:iZ l k):gU l k (fun y=>y=eu l k):=by
 unfold gU;obtain⟨h1,h2,h3⟩:=h;refine aO.up (τ:=Unit) l.length (fun s=>s.2) (fun i _=>(k+2 * i,(i:Int))) (fun _ _=>rfl) (fun i _=>∀ j<i,(at' l (j:Int)).name=cM (k+2 * j)/\(at' l (j:Int)).link=k+2 * j+1) () (by simp) (by simp) ?_;rintro i _ K hk hI IH;simp only[forall_eq,decide_eq_true_eq,decide_eq_false_iff_not,bP,cP];have hno:i<l.length->¬ ((at' l (i:Int)).name=cM (k+2 * i)/\(at' l (i:Int)).link=k+2 * i+1)->eu l k = -1:=fun hi h=>by
  rw[eu,wb (i:=i) hi];simpa using h
 refine⟨fun h4=>⟨by omega,by omega,fun h5=>(hno (by omega) (fun h=>h5 h.1)).symm,fun h5=>⟨by omega,by omega,fun h6=>(hno (by omega) (fun h=>h6 h.2)).symm,fun h6=>⟨by omega,by omega,?_⟩⟩⟩,fun h4=>?_⟩
 ·have:=IH (by omega) () (fun j hj=>by
   rcases Nat.lt_or_ge j i with h7 | h7
   ·exact hI j h7
   ·rw[show j=i by omega];exact⟨by simpa using h5,by omega⟩)
  simpa[show k+2 * ((i:Int)+1)=k+2 * i+1+1 by omega] using this
 ·have hi:i=l.length:=by omega
  rw[eu,sq (fun j hj=>by simpa using hI j (by omega)),hi]
def gP {α:Type} (h:α->Int->Int):List α->Int->Int
 | [],k=>k
 | x::l,k=>if h x k<0 then -1 else gP h l (h x k)
theorem jE {α:Type} {h:α->Int->Int} {m:α->Int->α × Int} (hm:∀ x k,0<=k->h (m x k).1 k=(m x k).2/\0<=(m x k).2):∀ (l:List α) (k:Int),0<=k->gP h (bN m l k).1 k=(bN m l k).2/\0<=(bN m l k).2
 | [],k,hk=>⟨rfl,hk⟩
 | x::l,k,hk=>by
  obtain⟨h1,h2⟩:=hm x k hk;simp only[bN,gP,h1];rw[if_neg (by omega)];exact jE hm l _ h2
theorem kG (l:List Int) (k:Int):cm l k = -1\/cm l k=k+l.length:=by
 unfold cm;split
 ·exact .inr rfl
 ·exact .inl rfl
theorem wF {α:Type} [Inhabited α] (t:α->Int->Bool) (c:Int) (l:List α) (k:Int):kh t c l k = -1\/kh t c l k=k+c * l.length:=by
 unfold kh;split
 ·exact .inr rfl
 ·exact .inl rfl
def dy (x:ay) (k:Int):Int:=if x.control=k/\x.parent=k+1 then cm x.links (k+2) else -1
theorem ig (x:ay) (k:Int):dy x k = -1\/dy x k=k+bm x:=by
 unfold dy bm
 split
 ·rcases kG x.links (k+2) with h | h
  ·exact .inl h
  ·exact .inr (by rw[h];omega)
 ·exact .inl rfl
theorem lM (x:ay) (k:Int) (hk:0<=k):dy (ck x k).1 k=(ck x k).2/\0<=(ck x k).2:=by
 refine⟨?_,by rw[eD];omega⟩;simp only[dy,ck,and_self,if_true];exact sk _ _
def cg (l:List ay) (k:Int):Int:=gP dy l k
abbrev iU (l:List ay) (k:Int):Prop:=fM l k
def gF (a:List ay) (k_:Int) (Z:Int->Prop):Prop:=
 aO (σ:=Int × Int) (fun (k5,i6) K9=>∀ fe:Int,fe=(a.length:Int)->∀ c12:Bool,c12=decide (i6<fe)->((c12=true->(0<=i6/\i6<a.length)/\∀ x15:ay,x15=at' a i6->∀ c17:Bool,c17=decide (x15.control ≠ k5)->((c17=true->Z (-1))/\(c17=false->(bP (k5+1))/\∀ v20:Int,v20=k5+1->(0<=i6/\i6<a.length)/\∀ x23:ay,x23=at' a i6->∀ c26:Bool,c26=decide (x15.parent ≠ v20)->((c26=true->Z (-1))/\(c26=false->(bP (v20+1))/\∀ v30:Int,v30=v20+1->(0<=i6/\i6<a.length)/\∀ x33:ay,x33=at' a i6->(gM x33.links v30)/\∀ r36:Int,r36=cm x33.links v30->∀ c37:Bool,c37=decide (r36<0)->((c37=true->Z (-1))/\(c37=false->(bP (i6+1))/\∀ v40:Int,v40=i6+1->K9 (r36,v40))))))))/\(c12=false->Z k5))) (k_,0)
theorem tN (l:List ay) (k:Int) (h:iU l k):gF l k (fun y=>y=cg l k):=by
 unfold gF;obtain⟨h0,h1,h2,h3⟩:=h;refine aO.up (τ:=Unit) l.length (fun s=>s.2) (fun i _=>(k+((l.take i).map bm).sum,(i:Int))) (fun _ _=>rfl) (fun i _=>cg l k=gP dy (l.drop i) (k+((l.take i).map bm).sum)) () (by simp) (by simp[cg]) ?_;rintro i _ K hk hI IH;have hs2:=iQ (f:=bm) l i;simp only[forall_eq,decide_eq_true_eq,decide_eq_false_iff_not,bP];refine⟨fun h4=>?_,fun h4=>?_⟩
 ·have hi:i<l.length:=by omega
  have hs4:=iQ (f:=bm) l (i+1);have hs5:((l.take (i+1)).map bm).sum=((l.take i).map bm).sum+bm l[i]:=by rw[List.take_succ_eq_append_getElem hi,List.map_append,List.sum_append];simp only[List.map_cons,List.map_nil,List.sum_cons,List.sum_nil,Nat.add_zero]
  have hz:bm l[i]=l[i].links.length+2:=rfl;have hn:=h2 _ (List.getElem_mem hi);rw[bo hi];rw[List.drop_eq_getElem_cons hi,gP] at hI;have hno:dy l[i] (k+((l.take i).map bm).sum) = -1->(-1:Int)=cg l k:=fun h=>by rw[hI,h];rfl
  refine⟨by omega,fun h5=>hno (by rw[dy,if_neg (fun h=>h5 h.1)]),fun h5=>⟨by omega,by omega,fun h6=>hno (by rw[dy,if_neg (fun h=>h6 h.2)]),fun h6=>⟨by omega,by omega,⟨by omega,by omega,by omega⟩,?_⟩⟩⟩;have hq:dy l[i] (k+((l.take i).map bm).sum)=cm l[i].links (k+((l.take i).map bm).sum+1+1):=by
   rw[dy,if_pos ⟨by simpa using h5,by simpa using h6⟩]
   congr 1;omega
  refine⟨fun h7=>hno ?_,fun h7=>⟨by omega,?_⟩⟩
  ·rcases ig l[i] (k+((l.take i).map bm).sum) with h | h
   ·exact h
   ·rw[hq] at h;omega
  ·have hc:=ig l[i] (k+((l.take i).map bm).sum);rw[hq] at hc;have hv:cm l[i].links (k+((l.take i).map bm).sum+1+1)=k+((l.take (i+1)).map bm).sum:=by
    rcases hc with h | h
    ·omega
    ·rw[h,hs5];omega
   have:=IH hi () (by rw[hI,hq,hv,if_neg (by omega)]);rw[hv];simpa using this
 ·rw[hI,show i=l.length by omega,List.drop_length];simp[gP]
def cf (b:aG) (k:Int):aG × Int:=
 let n:=bR b.nodes k
 let s:=bI b.sites n.2
 let o:=b9 b.outer s.2
 let i:=dx b.inner o.2
 (aG.mk b.roots n.1 s.1 b.edges o.1 i.1,i.2)
def jG (b:aG):Nat:=(b.nodes.map bm).sum+b.sites.length+b.outer.length+2 * b.inner.length
abbrev fb (b:aG) (k:Int):Prop:=0<=k/\b.nodes.length<=1048576/\(∀ x ∈ b.nodes,x.links.length<=1048576)/\b.sites.length<=1048576/\b.outer.length<=1048576/\b.inner.length<=1048576/\k+jG b<=1152921504606846976
def jL (a:aG) (k_:Int) (Z:(aG × Int)->Prop):Prop:=
 (fM a.nodes k_)/\∀ r13:(List ay) × Int,r13=bR a.nodes k_->(gI a.sites r13.2)/\∀ r22:(List Int) × Int,r22=bI a.sites r13.2->(gB a.outer r22.2)/\∀ r31:(List cH) × Int,r31=b9 a.outer r22.2->(iY a.inner r31.2)/\∀ r40:(List aI) × Int,r40=dx a.inner r31.2->Z ((aG.mk a.roots r13.1 r22.1 a.edges r31.1 r40.1),r40.2)
theorem kf (l:List ay) (k:Int):(bR l k).2=k+(l.map bm).sum:=by
 have:=ke ck eD l k l.length
 rwa [pP,List.take_length] at this
theorem yL (b:aG) (k:Int) (h:fb b k):jL b k (fun y=>y=cf b k):=by
 unfold jL;obtain⟨h0,h1,h2,h3,h4,h5,h6⟩:=h;have hb:jG b=(b.nodes.map bm).sum+b.sites.length+b.outer.length+2 * b.inner.length:=rfl;have hn:=kf b.nodes k;simp only[forall_eq];refine⟨⟨h0,h1,h2,by omega⟩,⟨by omega,by omega,by omega⟩,⟨?_,by omega,?_⟩,⟨?_,by omega,?_⟩,rfl⟩
 all_goals simp only[en,hn];omega
def iE (b:aG) (k:Int):Int:=
 if cg b.nodes k<0 then -1 else
 if cm b.sites (cg b.nodes k)<0 then -1 else
 if cN b.outer (cm b.sites (cg b.nodes k))<0 then -1 else
 if eu b.inner (cN b.outer (cm b.sites (cg b.nodes k)))<0 then -1 else eu b.inner (cN b.outer (cm b.sites (cg b.nodes k)))
abbrev fS (b:aG) (k:Int):Prop:=fb b k
theorem pq (l:List ay) (k:Int):cg l k = -1\/cg l k=k+(l.map bm).sum:=by
 unfold cg
 induction l generalizing k with
 | nil=>exact .inr (by simp[gP])
 | cons x l ih=>
  rw[gP]
  split
  ·exact .inl rfl
  ·rename_i h
   rcases ig x k with h1 | h1
   ·omega
   ·rcases ih (dy x k) with h2 | h2
    ·exact .inl h2
    ·exact .inr (by rw[h2,h1];simp;omega)
def jU (a:aG) (k_:Int) (Z:Int->Prop):Prop:=
 (iU a.nodes k_)/\∀ r5:Int,r5=cg a.nodes k_->∀ c6:Bool,c6=decide (r5<0)->((c6=true->Z (-1))/\(c6=false->(gM a.sites r5)/\∀ r9:Int,r9=cm a.sites r5->∀ c10:Bool,c10=decide (r9<0)->((c10=true->Z (-1))/\(c10=false->(gp a.outer r9)/\∀ r14:Int,r14=cN a.outer r9->∀ c16:Bool,c16=decide (r14<0)->((c16=true->Z (-1))/\(c16=false->(iZ a.inner r14)/\∀ r19:Int,r19=eu a.inner r14->∀ c20:Bool,c20=decide (r19<0)->((c20=true->Z (-1))/\(c20=false->Z r19))))))))
theorem w4 (b:aG) (k:Int) (h:fS b k):jU b k (fun y=>y=iE b k):=by
 unfold jU;obtain⟨h0,h1,h2,h3,h4,h5,h6⟩:=h;have hb:jG b=(b.nodes.map bm).sum+b.sites.length+b.outer.length+2 * b.inner.length:=rfl;simp only[forall_eq,decide_eq_true_eq,decide_eq_false_iff_not];have c1:=pq b.nodes k;have c2:=kG b.sites (cg b.nodes k);have c3:=wF (fun x k=>decide (x=cM k)) 1 b.outer (cm b.sites (cg b.nodes k))
 change cN b.outer (cm b.sites (cg b.nodes k)) = -1\/cN b.outer (cm b.sites (cg b.nodes k))=_ at c3
 unfold iE;refine⟨⟨h0,h1,h2,by omega⟩,fun q1=>by rw[if_pos q1],fun q1=>⟨⟨by omega,by omega,by omega⟩,fun q2=>by rw[if_neg q1,if_pos q2],fun q2=>⟨⟨by omega,by omega,by omega⟩,fun q3=>by rw[if_neg q1,if_neg q2,if_pos q3],fun q3=>⟨⟨by omega,by omega,by omega⟩,fun q4=>by rw[if_neg q1,if_neg q2,if_neg q3,if_pos q4],fun q4=>by rw[if_neg q1,if_neg q2,if_neg q3,if_neg q4]⟩⟩⟩⟩
theorem uH (b:aG) (k:Int) (hk:0<=k):iE (cf b k).1 k=(cf b k).2:=by
 have e1:cg (bR b.nodes k).1 k=(bR b.nodes k).2:=(jE lM b.nodes k hk).1;have p1:0<=(bR b.nodes k).2:=(jE lM b.nodes k hk).2;have e2:=sk b.sites (bR b.nodes k).2;have p2:0<=(bI b.sites (bR b.nodes k).2).2:=by simp only[en];omega
 have e3:cN (b9 b.outer (bI b.sites (bR b.nodes k).2).2).1 (bI b.sites (bR b.nodes k).2).2=(b9 b.outer (bI b.sites (bR b.nodes k).2).2).2:=qd (by simp) _ _;have p3:0<=(b9 b.outer (bI b.sites (bR b.nodes k).2).2).2:=by simp only[en] at p2 ⊢;omega
 have e4:eu (dx b.inner (b9 b.outer (bI b.sites (bR b.nodes k).2).2).2).1 (b9 b.outer (bI b.sites (bR b.nodes k).2).2).2=(dx b.inner (b9 b.outer (bI b.sites (bR b.nodes k).2).2).2).2:=qd (by simp) _ _;have p4:0<=(dx b.inner (b9 b.outer (bI b.sites (bR b.nodes k).2).2).2).2:=by simp only[en] at p3 ⊢;omega
 simp only[cf,iE,e1,e2,e3,e4];rw[if_neg (by omega),if_neg (by omega),if_neg (by omega),if_neg (by omega)]
end Go.Ab.Vg
namespace Go.Ab
open Go.Proofs
theorem aN.yV {H:av} {n:Nat} (t:Bool) (x:ay):aN H n (.agg (x.cells t)) (.agg (x.cells false)):=aN.ux (.agg _ (vq t x)) (by rw[pF,vt])
theorem aN.zz {H:av} {n:Nat} (x:aI):aN H n (.agg x.cells) (.agg x.cells):=aN.aggF (by simp[aI.cells])
theorem aN.DW {H:av} {n:Nat} (x:Control):aN H n (.agg x.cells) (.agg x.cells):=aN.aggF (by simp[Control.cells])
theorem e45:a8 prog 45:=a8.of func45 (by kernel_rfl) rfl
theorem sL (p q:List (Int)) (hp:p.length<=1048576):aF prog 45 [.list false (p.map au),.list false (q.map au)] (fun r=>r=bool (decide (p=q))):=by
 refine aF.of func45 rfl ntmps45 (by simp) fun Q hQ=>?_
 refine zE fun _ V=>?_
 simp;apply V;refine zS fun _ V=>?_
 simp;apply V;refine J.ite rfl (fun hc1=>?_) (fun hc1=>?_)
 ·simp at hc1;refine zE fun _ V=>?_
  simp;apply V;refine J.ret func45 (aM.one results45) (hQ _ _ _ _ (.v _ _ _) ?_);have:p ≠ q:=by intro h;subst h;omega
  simp[this]
 ·simp at hc1;have hlen:p.length=q.length:=by omega
  apply J.skip;refine zS fun _ V=>?_
  simp;apply V;refine J.block (J.bS p.length (fun k O H n=>O 0 = .list false (p.map au)/\O 1 = .list false (q.map au)/\O 5=int k/\p.take k=q.take k) ?_ ?_)
  ·simp
  ·rintro k O H n hk ⟨h0,h1,h5,heq⟩ IH;refine zS fun _ V=>?_
   simp [h0, h5];apply V;refine J.ite rfl (fun hc2=>?_) (fun hc2=>?_)
   ·simp at hc2;have hq2:k<q.length:=by omega
    apply zK;apply J.block;refine J.gr aw aH bY (by decide) (by kernel_rfl) fun _ V=>?_
    simp [h0, h1, h5, hc2, hq2, au];apply V;refine J.ite rfl (fun hc3=>?_) (fun hc3=>?_)
    ·simp at hc3;refine zE fun _ V=>?_
     simp;apply V;refine J.ret func45 (aM.one results45) (hQ _ _ _ _ (.v _ _ _) ?_);have:p ≠ q:=by intro h;subst h;exact hc3 rfl
     simp[this]
    ·simp at hc3;apply J.skip;refine zI fun _ V=>?_
     simp [h5, bg (show k < 4611686018427387904 by omega)];apply V;refine IH hc2 _ _ _ ?_;refine⟨by simp[h0,au],by simp[h1,au],by simp,?_⟩;rw[List.take_succ_eq_append_getElem hc2,List.take_succ_eq_append_getElem hq2,heq,hc3]
   ·simp at hc2;refine J.exit rfl ?_;refine zE fun _ V=>?_
    simp;apply V;refine J.ret func45 (aM.one results45) (hQ _ _ _ _ (.v _ _ _) ?_);rw[List.take_of_length_le hc2,List.take_of_length_le (by omega)] at heq;simp[heq]
theorem e46:a8 prog 46:=a8.of func46 (by kernel_rfl) rfl
theorem tA (p q:List (cH)) (hp:p.length<=1048576):aF prog 46 [.list false (p.map a7),.list false (q.map a7)] (fun r=>r=bool (decide (p=q))):=by
 refine aF.of func46 rfl ntmps46 (by simp) fun Q hQ=>?_
 refine zE fun _ V=>?_
 simp;apply V;refine zS fun _ V=>?_
 simp;apply V;refine J.ite rfl (fun hc1=>?_) (fun hc1=>?_)
 ·simp at hc1;refine zE fun _ V=>?_
  simp;apply V;refine J.ret func46 (aM.one results46) (hQ _ _ _ _ (.v _ _ _) ?_);have:p ≠ q:=by intro h;subst h;omega
  simp[this]
 ·simp at hc1;have hlen:p.length=q.length:=by omega
  apply J.skip;refine zS fun _ V=>?_
  simp;apply V;refine J.block (J.bS p.length (fun k O H n=>O 0 = .list false (p.map a7)/\O 1 = .list false (q.map a7)/\O 5=int k/\p.take k=q.take k) ?_ ?_)
  ·simp
  ·rintro k O H n hk ⟨h0,h1,h5,heq⟩ IH;refine zS fun _ V=>?_
   simp [h0, h5];apply V;refine J.ite rfl (fun hc2=>?_) (fun hc2=>?_)
   ·simp at hc2;have hq2:k<q.length:=by omega
    apply zK;apply J.block;refine J.gr aw aH bY (by decide) (by kernel_rfl) fun _ V=>?_
    simp [h0, h1, h5, hc2, hq2, a7];apply V;refine J.ite rfl (fun hc3=>?_) (fun hc3=>?_)
    ·simp at hc3;refine zE fun _ V=>?_
     simp;apply V;refine J.ret func46 (aM.one results46) (hQ _ _ _ _ (.v _ _ _) ?_);have:p ≠ q:=by intro h;subst h;exact hc3 rfl
     simp[this]
    ·simp at hc3;apply J.skip;refine zI fun _ V=>?_
     simp [h5, bg (show k < 4611686018427387904 by omega)];apply V;refine IH hc2 _ _ _ ?_;refine⟨by simp[h0,a7],by simp[h1,a7],by simp,?_⟩;rw[List.take_succ_eq_append_getElem hc2,List.take_succ_eq_append_getElem hq2,heq,hc3]
   ·simp at hc2;refine J.exit rfl ?_;refine zE fun _ V=>?_
    simp;apply V;refine J.ret func46 (aM.one results46) (hQ _ _ _ _ (.v _ _ _) ?_);rw[List.take_of_length_le hc2,List.take_of_length_le (by omega)] at heq;simp[heq]
theorem e113:a8 prog 113:=a8.of func113 (by kernel_rfl) rfl
theorem Bt (x y:aI):aF prog 113 [.agg (aI.cells x),.agg (aI.cells y)] (fun r=>r=bool (decide (x=y))):=by
 obtain⟨x0,x1⟩:=x;obtain⟨y0,y1⟩:=y;refine aF.of func113 rfl ntmps113 (by simp) fun Q hQ=>?_
 refine zE fun _ V=>?_
 simp [aI.cells, bE, encI, encS, bO];apply V;refine zS fun _ V=>?_
 simp;apply V;refine J.ite rfl (fun hc=>?_) (fun hd0=>?_)
 ·simp at hc;refine zE fun _ V=>?_
  simp;apply V;exact J.ret func113 (aM.one results113) (hQ _ _ _ _ (.v _ _ _) (by simp[hc]))
 simp at hd0;apply J.skip;refine zS fun _ V=>?_
 simp;apply V;refine J.ite rfl (fun hc=>?_) (fun hd1=>?_)
 ·simp at hc;refine zE fun _ V=>?_
  simp;apply V;exact J.ret func113 (aM.one results113) (hQ _ _ _ _ (.v _ _ _) (by simp[hc]))
 simp at hd1;apply J.skip;refine zE fun _ V=>?_
 simp;apply V;exact J.ret func113 (aM.one results113) (hQ _ _ _ _ (.v _ _ _) (by simp[hd0,hd1]))
theorem e47:a8 prog 47:=a8.of func47 (by kernel_rfl) rfl
theorem xY (p q:List (aI)) (hp:p.length<=1048576):aF prog 47 [.list false (p.map aI.cells),.list false (q.map aI.cells)] (fun r=>r=bool (decide (p=q))):=by
 refine aF.of func47 rfl ntmps47 (by simp) fun Q hQ=>?_
 refine zE fun _ V=>?_
 simp;apply V;refine zS fun _ V=>?_
 simp;apply V;refine J.ite rfl (fun hc1=>?_) (fun hc1=>?_)
 ·simp at hc1;refine zE fun _ V=>?_
  simp;apply V;refine J.ret func47 (aM.one results47) (hQ _ _ _ _ (.v _ _ _) ?_);have:p ≠ q:=by intro h;subst h;omega
  simp[this]
 ·simp at hc1;have hlen:p.length=q.length:=by omega
  apply J.skip;refine zS fun _ V=>?_
  simp;apply V;refine J.block (J.bS p.length (fun k O H n=>O 0 = .list false (p.map aI.cells)/\O 1 = .list false (q.map aI.cells)/\O 5=int k/\p.take k=q.take k) ?_ ?_)
  ·simp
  ·rintro k O H n hk ⟨h0,h1,h5,heq⟩ IH;refine zS fun _ V=>?_
   simp [h0, h5];apply V;refine J.ite rfl (fun hc2=>?_) (fun hc2=>?_)
   ·simp at hc2;have hq2:k<q.length:=by omega
    apply zK;apply J.block;refine J.gr aw aH bY (by decide) (by kernel_rfl) fun _ V=>?_
    simp [h0, h1, h5, hc2, hq2, aI.cells];refine bA.cY aw aH (Bt p[k] q[k]) e113 (.cons (aN.zz p[k]) (.cons (aN.zz q[k]) .nil)) (by decide) rfl (by simp[aI.cells]) ?_;simp;apply V;refine J.ite rfl (fun hc3=>?_) (fun hc3=>?_)
    ·simp at hc3;refine zE fun _ V=>?_
     simp;apply V;refine J.ret func47 (aM.one results47) (hQ _ _ _ _ (.v _ _ _) ?_);have:p ≠ q:=by intro h;subst h;exact hc3 rfl
     simp[this]
    ·simp at hc3;apply J.skip;refine zI fun _ V=>?_
     simp [h5, bg (show k < 4611686018427387904 by omega)];apply V;refine IH hc2 _ _ _ ?_;refine⟨by simp[h0,aI.cells],by simp[h1,aI.cells],by simp,?_⟩;rw[List.take_succ_eq_append_getElem hc2,List.take_succ_eq_append_getElem hq2,heq,hc3]
   ·simp at hc2;refine J.exit rfl ?_;refine zE fun _ V=>?_
    simp;apply V;refine J.ret func47 (aM.one results47) (hQ _ _ _ _ (.v _ _ _) ?_);rw[List.take_of_length_le hc2,List.take_of_length_le (by omega)] at heq;simp[heq]
theorem e43:a8 prog 43:=a8.of func43 (by kernel_rfl) rfl
theorem tG (x y:Control):aF prog 43 [.agg (Control.cells x),.agg (Control.cells y)] (fun r=>r=bool (decide (x=y))):=by
 obtain⟨x0,x1,x2⟩:=x;obtain⟨y0,y1,y2⟩:=y;refine aF.of func43 rfl ntmps43 (by simp) fun Q hQ=>?_
 refine zE fun _ V=>?_
 simp [Control.cells, bE, encI, encS, bO];apply V;refine zS fun _ V=>?_
 simp;apply V;refine J.ite rfl (fun hc=>?_) (fun hd0=>?_)
 ·simp at hc;refine zE fun _ V=>?_
  simp;apply V;exact J.ret func43 (aM.one results43) (hQ _ _ _ _ (.v _ _ _) (by simp[hc]))
 simp at hd0;apply J.skip;refine zS fun _ V=>?_
 simp;apply V;refine J.ite rfl (fun hc=>?_) (fun hd1=>?_)
 ·simp at hc;refine zE fun _ V=>?_
  simp;apply V;exact J.ret func43 (aM.one results43) (hQ _ _ _ _ (.v _ _ _) (by simp[hc]))
 simp at hd1;apply J.skip;refine zS fun _ V=>?_
 simp;apply V;refine J.ite rfl (fun hc=>?_) (fun hd2=>?_)
 ·simp at hc;refine zE fun _ V=>?_
  simp;apply V;exact J.ret func43 (aM.one results43) (hQ _ _ _ _ (.v _ _ _) (by simp[hc]))
 simp at hd2;apply J.skip;refine zE fun _ V=>?_
 simp;apply V;exact J.ret func43 (aM.one results43) (hQ _ _ _ _ (.v _ _ _) (by simp[hd0,hd1,hd2]))
theorem e13:a8 prog 13:=a8.of func13 (by kernel_rfl) rfl
theorem rL (p q:List (Control)) (hp:p.length<=1048576):aF prog 13 [.list false (p.map Control.cells),.list false (q.map Control.cells)] (fun r=>r=bool (decide (p=q))):=by
 refine aF.of func13 rfl ntmps13 (by simp) fun Q hQ=>?_
 refine zE fun _ V=>?_
 simp;apply V;refine zS fun _ V=>?_
 simp;apply V;refine J.ite rfl (fun hc1=>?_) (fun hc1=>?_)
 ·simp at hc1;refine zE fun _ V=>?_
  simp;apply V;refine J.ret func13 (aM.one results13) (hQ _ _ _ _ (.v _ _ _) ?_);have:p ≠ q:=by intro h;subst h;omega
  simp[this]
 ·simp at hc1;have hlen:p.length=q.length:=by omega
  apply J.skip;refine zS fun _ V=>?_
  simp;apply V;refine J.block (J.bS p.length (fun k O H n=>O 0 = .list false (p.map Control.cells)/\O 1 = .list false (q.map Control.cells)/\O 5=int k/\p.take k=q.take k) ?_ ?_)
  ·simp
  ·rintro k O H n hk ⟨h0,h1,h5,heq⟩ IH;refine zS fun _ V=>?_
   simp [h0, h5];apply V;refine J.ite rfl (fun hc2=>?_) (fun hc2=>?_)
   ·simp at hc2;have hq2:k<q.length:=by omega
    apply zK;apply J.block;refine J.gr aw aH bY (by decide) (by kernel_rfl) fun _ V=>?_
    simp [h0, h1, h5, hc2, hq2, Control.cells];refine bA.cY aw aH (tG p[k] q[k]) e43 (.cons (aN.DW p[k]) (.cons (aN.DW q[k]) .nil)) (by decide) rfl (by simp[Control.cells]) ?_;simp;apply V;refine J.ite rfl (fun hc3=>?_) (fun hc3=>?_)
    ·simp at hc3;refine zE fun _ V=>?_
     simp;apply V;refine J.ret func13 (aM.one results13) (hQ _ _ _ _ (.v _ _ _) ?_);have:p ≠ q:=by intro h;subst h;exact hc3 rfl
     simp[this]
    ·simp at hc3;apply J.skip;refine zI fun _ V=>?_
     simp [h5, bg (show k < 4611686018427387904 by omega)];apply V;refine IH hc2 _ _ _ ?_;refine⟨by simp[h0,Control.cells],by simp[h1,Control.cells],by simp,?_⟩;rw[List.take_succ_eq_append_getElem hc2,List.take_succ_eq_append_getElem hq2,heq,hc3]
   ·simp at hc2;refine J.exit rfl ?_;refine zE fun _ V=>?_
    simp;apply V;refine J.ret func13 (aM.one results13) (hQ _ _ _ _ (.v _ _ _) ?_);rw[List.take_of_length_le hc2,List.take_of_length_le (by omega)] at heq;simp[heq]
theorem e112:a8 prog 112:=a8.of func112 (by kernel_rfl) rfl
theorem AO (x y:ay) (hl:x.links.length<=1048576):aF prog 112 [.agg (ay.cells false x),.agg (ay.cells false y)] (fun r=>r=bool (decide (x=y))):=by
 obtain⟨x0,x1,x2⟩:=x;obtain⟨y0,y1,y2⟩:=y;refine aF.of func112 rfl ntmps112 (by simp) fun Q hQ=>?_
 refine zE fun _ V=>?_
 simp [ay.cells, bE, encI, encS, bO];apply V;refine zS fun _ V=>?_
 simp;apply V;refine J.ite rfl (fun hc=>?_) (fun hd0=>?_)
 ·simp at hc;refine zE fun _ V=>?_
  simp;apply V;exact J.ret func112 (aM.one results112) (hQ _ _ _ _ (.v _ _ _) (by simp[hc]))
 simp at hd0;apply J.skip;refine zS fun _ V=>?_
 simp;apply V;refine J.ite rfl (fun hc=>?_) (fun hd1=>?_)
 ·simp at hc;refine zE fun _ V=>?_
  simp;apply V;exact J.ret func112 (aM.one results112) (hQ _ _ _ _ (.v _ _ _) (by simp[hc]))
 simp at hd1;apply J.skip;refine zS fun _ V=>?_
 simp;refine zA (sL x2 y2 hl) e45 (.cons (aN.encI false x2) (.cons (aN.encI false y2) .nil)) (by simp[bE,encI,encS,bO]) ?_;rintro _ rfl;simp;apply V;refine J.ite rfl (fun hc=>?_) (fun hd2=>?_)
 ·simp at hc;refine zE fun _ V=>?_
  simp;apply V;exact J.ret func112 (aM.one results112) (hQ _ _ _ _ (.v _ _ _) (by simp[hc]))
 simp at hd2;apply J.skip;refine zE fun _ V=>?_
 simp;apply V;exact J.ret func112 (aM.one results112) (hQ _ _ _ _ (.v _ _ _) (by simp[hd0,hd1,hd2]))
theorem e44:a8 prog 44:=a8.of func44 (by kernel_rfl) rfl
theorem xd (p q:List (ay)) (hp:p.length<=1048576) (hl:∀ x ∈ p,x.links.length<=1048576):aF prog 44 [.list false (p.map (ay.cells false)),.list false (q.map (ay.cells false))] (fun r=>r=bool (decide (p=q))):=by
 refine aF.of func44 rfl ntmps44 (by simp) fun Q hQ=>?_
 refine zE fun _ V=>?_
 simp;apply V;refine zS fun _ V=>?_
 simp;apply V;refine J.ite rfl (fun hc1=>?_) (fun hc1=>?_)
 ·simp at hc1;refine zE fun _ V=>?_
  simp;apply V;refine J.ret func44 (aM.one results44) (hQ _ _ _ _ (.v _ _ _) ?_);have:p ≠ q:=by intro h;subst h;omega
  simp[this]
 ·simp at hc1;have hlen:p.length=q.length:=by omega
  apply J.skip;refine zS fun _ V=>?_
  simp;apply V;refine J.block (J.bS p.length (fun k O H n=>O 0 = .list false (p.map (ay.cells false))/\O 1 = .list false (q.map (ay.cells false))/\O 5=int k/\p.take k=q.take k) ?_ ?_)
  ·simp
  ·rintro k O H n hk ⟨h0,h1,h5,heq⟩ IH;refine zS fun _ V=>?_
   simp [h0, h5];apply V;refine J.ite rfl (fun hc2=>?_) (fun hc2=>?_)
   ·simp at hc2;have hq2:k<q.length:=by omega
    apply zK;apply J.block;refine J.gr aw aH bY (by decide) (by kernel_rfl) fun _ V=>?_
    simp [h0, h1, h5, hc2, hq2, ay.cells];refine bA.cY aw aH (AO p[k] q[k] (hl _ (List.getElem_mem hc2))) e112 (.cons (aN.yV false p[k]) (.cons (aN.yV false q[k]) .nil)) (by decide) rfl (by simp[ay.cells]) ?_;simp;apply V;refine J.ite rfl (fun hc3=>?_) (fun hc3=>?_)
    ·simp at hc3;refine zE fun _ V=>?_
     simp;apply V;refine J.ret func44 (aM.one results44) (hQ _ _ _ _ (.v _ _ _) ?_);have:p ≠ q:=by intro h;subst h;exact hc3 rfl
     simp[this]
    ·simp at hc3;apply J.skip;refine zI fun _ V=>?_
     simp [h5, bg (show k < 4611686018427387904 by omega)];apply V;refine IH hc2 _ _ _ ?_;refine⟨by simp[h0,ay.cells],by simp[h1,ay.cells],by simp,?_⟩;rw[List.take_succ_eq_append_getElem hc2,List.take_succ_eq_append_getElem hq2,heq,hc3]
   ·simp at hc2;refine J.exit rfl ?_;refine zE fun _ V=>?_
    simp;apply V;refine J.ret func44 (aM.one results44) (hQ _ _ _ _ (.v _ _ _) ?_);rw[List.take_of_length_le hc2,List.take_of_length_le (by omega)] at heq;simp[heq]
theorem e14:a8 prog 14:=a8.of func14 (by kernel_rfl) rfl
theorem gS (x y:aG) (hb:x.nodes.length<=1048576/\(∀ z ∈ x.nodes,z.links.length<=1048576)/\x.sites.length<=1048576/\x.outer.length<=1048576/\x.inner.length<=1048576):aF prog 14 [.agg (aG.cells false x),.agg (aG.cells false y)] (fun r=>r=bool (decide (x=y))):=by
 obtain⟨x0,x1,x2,x3,x4,x5⟩:=x;obtain⟨y0,y1,y2,y3,y4,y5⟩:=y;refine aF.of func14 rfl ntmps14 (by simp) fun Q hQ=>?_
 refine zE fun _ V=>?_
 simp [aG.cells, bE, encI, encS, bO];apply V;refine zS fun _ V=>?_
 simp;apply V;refine J.ite rfl (fun hc=>?_) (fun hd0=>?_)
 ·simp at hc;refine zE fun _ V=>?_
  simp;apply V;exact J.ret func14 (aM.one results14) (hQ _ _ _ _ (.v _ _ _) (by simp[hc]))
 simp at hd0;apply J.skip;refine zS fun _ V=>?_
 simp;refine zA (xd x1 y1 hb.1 hb.2.1) e44 (.cons (aN.bE false x1) (.cons (aN.bE false y1) .nil)) (by simp[bE,encI,encS,bO]) ?_;rintro _ rfl;simp;apply V;refine J.ite rfl (fun hc=>?_) (fun hd1=>?_)
 ·simp at hc;refine zE fun _ V=>?_
  simp;apply V;exact J.ret func14 (aM.one results14) (hQ _ _ _ _ (.v _ _ _) (by simp[hc]))
 simp at hd1;apply J.skip;refine zS fun _ V=>?_
 simp;refine zA (sL x2 y2 hb.2.2.1) e45 (.cons (aN.encI false x2) (.cons (aN.encI false y2) .nil)) (by simp[bE,encI,encS,bO]) ?_;rintro _ rfl;simp;apply V;refine J.ite rfl (fun hc=>?_) (fun hd2=>?_)
 ·simp at hc;refine zE fun _ V=>?_
  simp;apply V;exact J.ret func14 (aM.one results14) (hQ _ _ _ _ (.v _ _ _) (by simp[hc]))
 simp at hd2;apply J.skip;refine zS fun _ V=>?_
 simp;apply V;refine J.ite rfl (fun hc=>?_) (fun hd3=>?_)
 ·simp at hc;refine zE fun _ V=>?_
  simp;apply V;exact J.ret func14 (aM.one results14) (hQ _ _ _ _ (.v _ _ _) (by simp[hc]))
 simp at hd3;apply J.skip;refine zS fun _ V=>?_
 simp;refine zA (tA x4 y4 hb.2.2.2.1) e46 (.cons (aN.encS false x4) (.cons (aN.encS false y4) .nil)) (by simp[bE,encI,encS,bO]) ?_;rintro _ rfl;simp;apply V;refine J.ite rfl (fun hc=>?_) (fun hd4=>?_)
 ·simp at hc;refine zE fun _ V=>?_
  simp;apply V;exact J.ret func14 (aM.one results14) (hQ _ _ _ _ (.v _ _ _) (by simp[hc]))
 simp at hd4;apply J.skip;refine zS fun _ V=>?_
 simp;refine zA (xY x5 y5 hb.2.2.2.2) e47 (.cons (aN.bO false x5) (.cons (aN.bO false y5) .nil)) (by simp[bE,encI,encS,bO]) ?_;rintro _ rfl;simp;apply V;refine J.ite rfl (fun hc=>?_) (fun hd5=>?_)
 ·simp at hc;refine zE fun _ V=>?_
  simp;apply V;exact J.ret func14 (aM.one results14) (hQ _ _ _ _ (.v _ _ _) (by simp[hc]))
 simp at hd5;apply J.skip;refine zE fun _ V=>?_
 simp;apply V;exact J.ret func14 (aM.one results14) (hQ _ _ _ _ (.v _ _ _) (by simp[hd0,hd1,hd2,hd3,hd4,hd5]))
end Go.Ab
namespace Go.Ab
open Go.Proofs
theorem e37:a8 prog 37:=a8.of func37 (by kernel_rfl) rfl
theorem jo (p:List (Int)) (hp:p.length<=1048576):aF prog 37 [.list false (p.map au)] (fun r=>r = .list true (p.map au)):=by
 refine aF.of func37 rfl ntmps37 (by simp) fun Q hQ=>?_
 refine zE fun _ V=>?_
 simp;apply V;refine zE fun _ V=>?_
 simp [show (p.length : Int) <= 1073741824 by omega];apply V;refine zS fun _ V=>?_
 simp;apply V;refine J.block (J.bS p.length (fun k O H n=>O 0 = .list false (p.map au)/\O 4=int k/\O 3 = .arr (0,7) p.length 0 p.length/\H (0,7)=some ⟨1,part au [int 0] p k⟩) ?_ ?_)
 ·simp[au,jn]
 ·rintro k O H n hk ⟨h0,h4,h3,hH⟩ IH;refine zS fun _ V=>?_
  simp [h0, h4];apply V;refine J.ite rfl (fun hc1=>?_) (fun hc1=>?_)
  ·simp at hc1;apply zK;apply J.block;refine zF fun _ V=>?_
   simp [h0, h3, h4, hH, hc1, gf hk, fk hc1, au];apply V;refine zI fun _ V=>?_
   simp [h4, bg (show k < 4611686018427387904 by omega)];apply V;refine IH hc1 _ _ _ ?_;rw[<- kz hc1];simp[h0,h3,au,jy hc1]
  ·simp at hc1;have hke:k=p.length:=by omega
   subst hke;rw[ku] at hH;refine J.exit rfl ?_;refine zE fun _ V=>?_
   simp [h3];apply V;exact J.ret func37 (aM.one results37) (hQ _ _ _ _ (.of (jD.yA (by simp[hH];rfl) (by simp[au,au]))) rfl)
theorem e38:a8 prog 38:=a8.of func38 (by kernel_rfl) rfl
theorem jX (p:List (cH)) (hp:p.length<=1048576):aF prog 38 [.list false (p.map a7)] (fun r=>r = .list true (p.map a7)):=by
 refine aF.of func38 rfl ntmps38 (by simp) fun Q hQ=>?_
 refine zE fun _ V=>?_
 simp;apply V;refine zE fun _ V=>?_
 simp [show (p.length : Int) <= 1073741824 by omega];apply V;refine zS fun _ V=>?_
 simp;apply V;refine J.block (J.bS p.length (fun k O H n=>O 0 = .list false (p.map a7)/\O 4=int k/\O 3 = .arr (0,7) p.length 0 p.length/\H (0,7)=some ⟨1,part a7 [str []] p k⟩) ?_ ?_)
 ·simp[a7,jn]
 ·rintro k O H n hk ⟨h0,h4,h3,hH⟩ IH;refine zS fun _ V=>?_
  simp [h0, h4];apply V;refine J.ite rfl (fun hc1=>?_) (fun hc1=>?_)
  ·simp at hc1;apply zK;apply J.block;refine zF fun _ V=>?_
   simp [h0, h3, h4, hH, hc1, gf hk, fk hc1, a7];apply V;refine zI fun _ V=>?_
   simp [h4, bg (show k < 4611686018427387904 by omega)];apply V;refine IH hc1 _ _ _ ?_;rw[<- kz hc1];simp[h0,h3,a7,jy hc1]
  ·simp at hc1;have hke:k=p.length:=by omega
   subst hke;rw[ku] at hH;refine J.exit rfl ?_;refine zE fun _ V=>?_
   simp [h3];apply V;exact J.ret func38 (aM.one results38) (hQ _ _ _ _ (.of (jD.yA (by simp[hH];rfl) (by simp[a7,au]))) rfl)
end Go.Ab
