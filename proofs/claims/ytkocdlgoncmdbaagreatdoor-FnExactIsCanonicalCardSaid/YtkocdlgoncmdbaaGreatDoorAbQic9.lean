/- Merged texts (9 of 17) of the proof that ends in Icy: Kp Ma Mb Mc Uj Uk Lm Nm Gm Gn. -/
import Derived.Test.YtkocdlgoncmdbaaGreatDoorAbQic8
import Derived.Laws.BytesString
/- The order of the canonical form: impl.canonicalOrder, by hand. -/
namespace Go.Ab.Vg
set_option linter.unusedSimpArgs false
set_option linter.unusedVariables false
open Go.Proofs
section
variable {P:Program} {f:FuncId} {N:Nat} {k:List Item} {Q:AVal→Heap→Nat→Prop} {Ty:Types} {l:List Oper} {ρ:Env} {H:Heap} {n:Nat}
theorem RunK.callS2 {ops:Array Oper} {d:Option Tmp} {g:Operand} {args:Array Operand} {ats:Array TypeId} {ty:TypeId} {pos:String} {af:Array Edge} {post:AVal→Heap→Nat→Prop} {f':FuncId} {as1:List AVal}
  (h:CallsA P f' as1 H n post) (hent:Ent P f') (hd:dok N d=true) (hg:ρ.ev g = .fn (.func f') [] []) (has:args.toList.map ρ.ev=as1)
  (hk:∀ v H1 n1,post v H1 n1→RunK P f N k Q ops l (ρ.put d v) H1 n1):RunK P f N k Q ops (⟨d,.call ⟨.value g,args,ats⟩,ty,pos,af,none⟩::l) ρ H n:=by
 refine RunO.op rfl hd ((OpSem.call (first:=[]) (captured:=[]) hg hent (by rw[has,List.nil_append,List.append_nil];exact h)).mono ?_)
 exact hk
end
theorem rowP_map {b:Big} {φ:AVal→AVal} (hφ:∀ a,Imm a→φ a=a) (p:AttV):(rowA b p).map φ=rowA b (p.1,φ p.2):=by
 rw[rowA,cdE_map hφ (immI _) (.inr trivial),hφ _ (immI _),Option.map_some,hφ _ (immI _)];rfl
theorem rowP_sub {b:Big} {a:Att} {v w:AVal} (h:Sub v w):SubL (rowA b (a,v)) (rowA b (a,w)):=
 SubL.append (.refl _) (SubL.append (.refl _) (.cons (.refl _) (.cons (.refl _) (.cons h .nil))))
def rowL (b:Big) (a:Att):List AVal:=rowA b (a,.list true (a.code.map intC))
def extTo (b:Big) (a:Att) (j:Nat):List Att:=(((List.range j).map fun i:Nat=>(i:Int)).filter (freeP b a.s.pl)).map fun k=>⟨a.order++[k],stepC b a.s k,a.code++(chunkC b a.s k).1⟩
theorem extTo_all (b:Big) (a:Att):extTo b a b.nodes.length=extC b a:=rfl
theorem extTo_yes {b:Big} {a:Att} {j:Nat} (h:freeP b a.s.pl (j:Int)=true):extTo b a (j+1)=extTo b a j++[⟨a.order++[(j:Int)],stepC b a.s j,a.code++(chunkC b a.s j).1⟩]:=by simp[extTo,List.range_succ,h]
theorem extTo_no {b:Big} {a:Att} {j:Nat} (h:freeP b a.s.pl (j:Int)=false):extTo b a (j+1)=extTo b a j:=by simp[extTo,List.range_succ,h]
structure CoS (b:Big) (C L M X:Id) (m i j len qlen:Nat) (rows qrows:List (List AVal)) (xrow:List AVal) (ρ:Env) (H:Heap):Prop where
 r1:ρ 1 = .ptr (0,1) 1 0 0
 r3:ρ 3 = .ptr C 1 0 0
 r5:ρ 5=int m
 r6:ρ 6 = .arr M qlen 0 qlen
 r8:ρ 8 = .ptr X 1 0 0
 r24:ρ 24=int b.nodes.length
 r25:ρ 25=int m
 r29:ρ 29 = .arr L len 0 len
 r30:ρ 30=int len
 r31:ρ 31=int i
 r36:ρ 36 = .list false (b.nodes.map (GNode.cells false))
 r37:ρ 37=int b.nodes.length
 r38:ρ 38=int j
 mB:H (0,1)=some ⟨6,[Big.cells false b]⟩
 mC:∃ cs,H C=some ⟨9,[cs]⟩∧cs.length=9
 mL:H L=some ⟨10,rows⟩
 mM:H M=some ⟨10,qrows⟩
 mX:H X=some ⟨10,[xrow]⟩
theorem CoS.keep {b:Big} {C L M X:Id} {m i j len qlen:Nat} {rows qrows:List (List AVal)} {xrow:List AVal} {ρ ρ':Env} {H H':Heap} (h:CoS b C L M X m i j len qlen rows qrows xrow ρ H)
  (hr:∀ t ∈ [1,3,5,6,8,24,25,29,30,31,36,37,38],ρ' t=ρ t) (hH:∀ k ∈ [X,M,L,C,(0,1)],H' k=H k):CoS b C L M X m i j len qlen rows qrows xrow ρ' H' where
 r1:=(hr 1 (by simp)).trans h.r1
 r3:=(hr 3 (by simp)).trans h.r3
 r5:=(hr 5 (by simp)).trans h.r5
 r6:=(hr 6 (by simp)).trans h.r6
 r8:=(hr 8 (by simp)).trans h.r8
 r24:=(hr 24 (by simp)).trans h.r24
 r25:=(hr 25 (by simp)).trans h.r25
 r29:=(hr 29 (by simp)).trans h.r29
 r30:=(hr 30 (by simp)).trans h.r30
 r31:=(hr 31 (by simp)).trans h.r31
 r36:=(hr 36 (by simp)).trans h.r36
 r37:=(hr 37 (by simp)).trans h.r37
 r38:=(hr 38 (by simp)).trans h.r38
 mB:=(hH _ (by simp)).trans h.mB
 mC:=by obtain⟨cs,h1,h2⟩:=h.mC;exact⟨cs,(hH _ (by simp)).trans h1,h2⟩
 mL:=(hH _ (by simp)).trans h.mL
 mM:=(hH _ (by simp)).trans h.mM
 mX:=(hH _ (by simp)).trans h.mX
theorem cEnt_set {qs:List AttV} {i:Nat} {p:AttV} (h:i<qs.length):cEnt (qs.set i p)=cEnt (qs.take i)++oI p.2 p.1.code::cEnt (qs.drop (i+1)):=by
 rw[List.set_eq_take_append_cons_drop,if_pos h];simp only[cEnt,List.map_append,List.map_cons]
theorem cEnt_split {qs:List AttV} {i:Nat} (h:i<qs.length):cEnt qs=cEnt (qs.take i)++oI qs[i].2 qs[i].1.code::cEnt (qs.drop (i+1)):=by
 have h1:=cEnt_set (p:=qs[i]) h
 rw[List.set_getElem_self] at h1
 exact h1
theorem CoS.fz {b:Big} {C L M X:Id} {m i j len qlen:Nat} {rows qrows:List (List AVal)} {xrow:List AVal} {ρ:Env} {H H':Heap} {φ:AVal→AVal} {ids:List Id} (h:CoS b C L M X m i j len qlen rows qrows xrow ρ H)
  (hin:∀ k ∈ [X,M,L,C,(0,1)],k ∈ ids) (hH:∀ k ∈ ids,H' k=(H k).map fun o=>⟨o.size,o.els.map fun e=>e.map φ⟩) (hφ:∀ a,Imm a→φ a=a) (hp:∀ i ∈ ids,∀ g x y,φ (.ptr i g x y) = .ptr i g x y∧φ (.arr i g x y) = .arr i g x y)
  (h1:rows.map (fun e=>e.map φ)=rows) (h2:qrows.map (fun e=>e.map φ)=qrows) (h3:xrow.map φ=xrow):CoS b C L M X m i j len qlen rows qrows xrow (fun t=>φ (ρ t)) H' where
 r1:=by show φ (ρ 1)=_;rw[h.r1];exact (hp _ (hin _ (by simp)) _ _ _).1
 r3:=by show φ (ρ 3)=_;rw[h.r3];exact (hp _ (hin _ (by simp)) _ _ _).1
 r5:=by show φ (ρ 5)=_;rw[h.r5];exact hφ _ (.v _)
 r6:=by show φ (ρ 6)=_;rw[h.r6];exact (hp _ (hin _ (by simp)) _ _ _).2
 r8:=by show φ (ρ 8)=_;rw[h.r8];exact (hp _ (hin _ (by simp)) _ _ _).1
 r24:=by show φ (ρ 24)=_;rw[h.r24];exact hφ _ (.v _)
 r25:=by show φ (ρ 25)=_;rw[h.r25];exact hφ _ (.v _)
 r29:=by show φ (ρ 29)=_;rw[h.r29];exact (hp _ (hin _ (by simp)) _ _ _).2
 r30:=by show φ (ρ 30)=_;rw[h.r30];exact hφ _ (.v _)
 r31:=by show φ (ρ 31)=_;rw[h.r31];exact hφ _ (.v _)
 r36:=by show φ (ρ 36)=_;rw[h.r36];exact hφ _ (imm_big false b _ (by simp[Big.cells,encN]))
 r37:=by show φ (ρ 37)=_;rw[h.r37];exact hφ _ (.v _)
 r38:=by show φ (ρ 38)=_;rw[h.r38];exact hφ _ (.v _)
 mB:=by
  have hBm:(Big.cells false b).map φ=Big.cells false b:=by
   conv=>rhs;rw[← List.map_id (Big.cells false b)]
   exact List.map_congr_left fun a ha=>hφ a (imm_big false b a ha)
  rw[hH _ (hin _ (by simp)),h.mB];simp[hBm]
 mC:=by obtain⟨cs,q1,q2⟩:=h.mC;exact⟨cs.map φ,by rw[hH _ (hin _ (by simp)),q1];simp,by simp[q2]⟩
 mL:=by rw[hH _ (hin _ (by simp)),h.mL];simp[h1]
 mM:=by rw[hH _ (hin _ (by simp)),h.mM];simp[h2]
 mX:=by rw[hH _ (hin _ (by simp)),h.mX];simp[h3]
section
theorem e144:Ent Tryz.prog 144:=Ent.of Tryz.func144 (by kernel_rfl) rfl
theorem ResOk.pts {H:Heap} {n:Nat} {as1 bs:List AVal} (hl:as1.length=bs.length) (h:∀ (i:Nat) (a c:AVal),as1[i]?=some a→bs[i]?=some c→ResOk H n a c):ResOk H n (.agg as1) (.agg bs)∧ResOk H n (.tup as1) (.tup bs):=by
 constructor
 ·intro c x hH hn g r c' hw hm hB
  cases r with
  | agg _ vs hl' hr=>
  refine .agg _ vs (by omega) fun i a x ha hx=>?_
  obtain⟨a0,ha0⟩:=get_of_len (l:=as1) (i:=i) (by rw[hl];exact (List.getElem?_eq_some_iff.1 ha).1)
  exact h i a0 a ha0 ha c x hH hn g (hr i a0 x ha0 hx) c' hw hm hB
 ·intro c x hH hn g r c' hw hm hB
  cases r with
  | tup _ vs hl' hr=>
  refine .tup _ vs (by omega) fun i a x ha hx=>?_
  obtain⟨a0,ha0⟩:=get_of_len (l:=as1) (i:=i) (by rw[hl];exact (List.getElem?_eq_some_iff.1 ha).1)
  exact h i a0 a ha0 ha c x hH hn g (hr i a0 x ha0 hx) c' hw hm hB
theorem ResOk.ints (H:Heap) (n:Nat) (l:List Int):ResOk H n (.list true (l.map intC)) (.list true (l.map intC)):=.of (Ret.fresh (by
 rw[fresh_list]
 intro e he a ha
 obtain⟨x,_,rfl⟩:=List.mem_map.1 he
 simp only[intC,List.mem_singleton] at ha
 subst ha
 exact .v _))
def lastA (b:Big):List Att:=leastA ((layN b b.nodes.length).map (restC b))
instance:Inhabited Att:=⟨⟨[],⟨[],[],0⟩,[]⟩⟩
def canonA (b:Big):Att:=firstA (lastA b) (at' (lastA b) 0)
def bestP (d:AttV) (l:List AttV):AttV:=l.foldl (fun best x=>if cmpL x.1.order best.1.order<0 then x else best) d
theorem bestP_fst (d:AttV) (l:List AttV):(bestP d l).1=firstA (l.map (·.1)) d.1:=by
 induction l generalizing d with
 | nil=>rfl
 | cons x l ih=>
  have h1:bestP d (x::l)=bestP (if cmpL x.1.order d.1.order<0 then x else d) l:=rfl
  have h2:firstA ((x::l).map (·.1)) d.1=firstA (l.map (·.1)) (if cmpL x.1.order d.1.order<0 then x.1 else d.1):=rfl
  rw[h1,h2,ih]
  congr 1
  split<;>rfl
theorem bestP_mem (d:AttV) (l:List AttV):bestP d l=d∨bestP d l ∈ l:=by
 induction l generalizing d with
 | nil=>exact .inl rfl
 | cons x l ih=>
  have h1:bestP d (x::l)=bestP (if cmpL x.1.order d.1.order<0 then x else d) l:=rfl
  rw[h1]
  rcases ih (if cmpL x.1.order d.1.order<0 then x else d) with h | h
  ·rw[h]
   split
   ·exact .inr (by simp)
   ·exact .inl rfl
  ·exact .inr (by simp[h])
set_option maxRecDepth 100000 in
theorem canonicalOrder_c0 {sig:Sig} {b:Big} (hv:ValidB sig b) (he:Even b) (hdn:Downs b):CallsA Tryz.prog 105 [.agg (Big.cells false b)] noHeap 0 (fun v _ _=>∃ q,Ab.one1 q=true∧v = .tup [.list true ((canonA b).order.map intC),.agg (cdE none b (.list true ((canonA b).s.es.map intC)) (.list true ((canonA b).s.pl.map intC)) q)]):=by
 have hn8:=hv.len
 refine CallsA.of Tryz.func105 rfl Tryz.ntmps105 (by simp) fun Q hQ=>?_
 have sp:Sep noHeap 0 [] []:=Sep.nil (by simp)
 refine Runs.seqE Ty_ok (by decide) fun k' hk'=>?_
 simp[Big.cells]
 apply hk'
 refine Runs.cut (fun ρ H n=>∃ C:Id,ρ 1 = .ptr (0,1) 1 0 0∧ρ 3 = .ptr C 1 0 0∧C ≠ (0,1)∧H (0,1)=some ⟨6,[Big.cells false b]⟩∧(∃ cs,H C=some ⟨9,[cs]⟩∧cs.length=9)∧Sep H n [] [C,(0,1)]) ⟨(1,3),by simp,by simp,by simp,by simp[Big.cells],⟨_,by simp;rfl,rfl⟩,Sep.var (Sep.var sp)⟩ ?_
 clear hk' sp
 rintro ρ H n ⟨C,r1,r3,hCB,mB,⟨cs,mC,hcs⟩,sp⟩
 refine Runs.seqK Ty_ok (by decide) fun k' hk'=>?_
 refine RunK.same1 (v:=.agg (Big.cells false b)) Ty_ok (by decide) rfl (by simp[r1,mB,Big.cells]) ?_
 refine RunK.callS2 (newCoder_c (b:=b) (by omega) sp) e141 (by decide) rfl (by simp) ?_
 rintro _ H1 n1 ⟨X,rfl,hX0,mX,sp2,fr2,hn1⟩
 refine RunK.same1 (v:=.ptr X 1 0 0) Ty_ok (by decide) rfl (by simp[mX]) ?_
 refine RunK.same1 (v:=.agg (cdE none b (.v (.slice none 0 0)) (.list true ((List.replicate b.nodes.length (-1:Int)).map intC)) (.v (.slice none 0 0)))) Ty_ok (by decide) rfl (by simp[mX,cdE,Big.cells]) ?_
 refine RunK.same1 (v:=.agg (cdE (some (.v (.slice none 0 0))) b (.v (.slice none 0 0)) (.list true ((List.replicate b.nodes.length (-1:Int)).map intC)) (.v (.slice none 0 0)))) Ty_ok (by decide) rfl (by simp[cdE,Big.cells]) ?_
 refine RunK.op Ty_ok (by decide) (by decide) rfl (ownF_ok (v:=.arr (n1,21) 1 0 1) (H':=H1.set (n1,21) ⟨10,[cdE (some (.v (.slice none 0 0))) b (.v (.slice none 0 0)) (.list true ((List.replicate b.nodes.length (-1:Int)).map intC)) (.v (.slice none 0 0))]⟩) (n':=n1+1) Ty_ok (by simp[ownF,cdE,Big.cells,List.range_succ])).1 ?_
 rintro _ _ _ ⟨rfl,rfl,rfl⟩
 simp
 apply hk'
 refine Runs.subX (X:=(n1,21)) (rows':=[rowA b (⟨[],s0C b,[]⟩,.v (.slice none 0 0))]) (Heap.get_set_self _ _ _) rfl (fun i e e' he he'=>?_) ?_
 ·match i with
  | 0=>
   simp only[List.getElem?_cons_zero,Option.some.injEq] at he he'
   subst he he'
   exact .cons (Sub.nil true) (@SubL.append (Big.cells false b) (Big.cells false b) _ _ (.refl _) (.cons (Sub.nil true) (.cons (by simp only[s0C,List.map_replicate];exact Sub.refl _) (.refl _))))
  | i+1=>simp at he
 rw[Heap.set_set]
 have hNi:∀ i ∈ [C,(0,1)],i ≠ (n1,21):=fun i hi h=>by have:=sp2.1 i (List.mem_cons_of_mem _ hi);rw[h] at this;simp at this
 have mB1:(H1.set (n1,21) ⟨10,[rowA b (⟨[],s0C b,[]⟩,.v (.slice none 0 0))]⟩) (0,1)=some ⟨6,[Big.cells false b]⟩:=by rw[Heap.get_set_ne _ _ (hNi _ (by simp)),fr2 _ (by simp)];exact mB
 have mC1:(H1.set (n1,21) ⟨10,[rowA b (⟨[],s0C b,[]⟩,.v (.slice none 0 0))]⟩) C=some ⟨9,[cs]⟩:=by rw[Heap.get_set_ne _ _ (hNi _ (by simp)),fr2 _ (by simp)];exact mC
 have sp3:=Sep.addNil (l:=[.c]) (Sep.sub (ids':=[(n1,21),C,(0,1)]) (Sep.var (d:=21) (o:=⟨10,[rowA b (⟨[],s0C b,[]⟩,.v (.slice none 0 0))]⟩) sp2) (by simp +contextual))
 have mL1:=Heap.get_set_self H1 (n1,21) ⟨10,[rowA b (⟨[],s0C b,[]⟩,.v (.slice none 0 0))]⟩
 generalize H1.set (n1,21) ⟨10,[rowA b (⟨[],s0C b,[]⟩,.v (.slice none 0 0))]⟩=H2 at mB1 mC1 sp3 mL1
 refine Runs.seq ?_
 refine Runs.seqE Ty_ok (by decide) fun k' hk'=>?_
 have f1:=fun H=>len_list (H:=H) (fr:=false) (f:=GNode.cells false) (l:=b.nodes) kd_34 rfl
 simp[r1,mB1,Big.cells,encN,f1,-lenF]
 apply hk'
 refine Runs.block (Runs.loopUp b.nodes.length (fun m ρ H n=>∃ (L:Id) (ps:List AttV),ρ 1 = .ptr (0,1) 1 0 0∧ρ 3 = .ptr C 1 0 0∧ρ 4 = .arr L ps.length 0 ps.length∧ρ 24=int b.nodes.length∧ρ 25=int m∧H (0,1)=some ⟨6,[Big.cells false b]⟩∧(∃ cs,H C=some ⟨9,[cs]⟩∧cs.length=9) ∧
   H L=some ⟨10,ps.map (rowA b)⟩∧L ∉ [C,(0,1)]∧ps.map (·.1)=layN b m∧Sep H n (cEnt ps) [L,C,(0,1)])
  ⟨(n1,21),[(⟨[],s0C b,[]⟩,.v (.slice none 0 0))],by simp[r1],by simp[r3],by simp,by simp,by simp,mB1,⟨_,mC1,hcs⟩,mL1,fun h=>hNi _ h rfl,rfl,sp3⟩ ?_)
 clear hk' f1 mB1 mC1 sp3 mL1 hNi hn1 fr2 sp2 mX hX0 r1 r3 mB mC sp
 rintro m ρ H n hm ⟨L,ps,r1,r3,r4,r24,r25,mB,mC,mL,hLi,hps,sp⟩ IH
 refine Runs.seqE Ty_ok (by decide) fun k' hk'=>?_
 simp[r24,r25]
 apply hk'
 refine Runs.seq ?_
 refine Runs.ite rfl (fun hc1=>?_) (fun hc1=>?_)
 ·have hc1:m<b.nodes.length:=by simpa using hc1
  have hok:=layN_ok hv m hm
  refine Runs.skip ?_
  refine Runs.seq ?_
  refine Runs.block ?_
  refine Runs.cut (fun ρ H n=>ρ 1 = .ptr (0,1) 1 0 0∧ρ 3 = .ptr C 1 0 0∧ρ 4 = .arr L ps.length 0 ps.length∧ρ 24=int b.nodes.length∧ρ 25=int m∧H (0,1)=some ⟨6,[Big.cells false b]⟩∧(∃ cs,H C=some ⟨9,[cs]⟩∧cs.length=9)∧H L=some ⟨10,ps.map (rowA b)⟩∧Sep H n (cEnt ps) [L,C,(0,1)]) ⟨by simp[r1],by simp[r3],by simp[r4],by simp[r24],by simp[r25],mB,mC,mL,sp⟩ ?_
  clear hk' r1 r3 r4 r24 r25 mB mC mL sp
  rintro ρ H n ⟨r1,r3,r4,r24,r25,mB,mC,mL,sp⟩
  have spE:Sep H n ((ps.map fun p=>(p.2,p.1.code)).map fun e=>oI e.1 e.2) [L,C,(0,1)]:=by simpa[cEnt,List.map_map,Function.comp_def] using sp
  refine Runs.fzAll _ spE fun H1 φ sp1 fr1 hφ hsub hptr=>?_
  have mB1:=fr1 (0,1) (by simp)
  have mL1:=fr1 L (by simp)
  obtain⟨cs,mC,hcs⟩:=mC
  have mC1:=fr1 C (by simp)
  have hBm:(Big.cells false b).map φ=Big.cells false b:=by
   conv=>rhs;rw[← List.map_id (Big.cells false b)]
   exact List.map_congr_left fun a ha=>hφ a (imm_big false b a ha)
  rw[mB] at mB1
  rw[mL] at mL1
  rw[mC] at mC1
  simp only[Option.map_some,List.map_cons,List.map_nil,hBm] at mB1 mC1
  simp only[Option.map_some,List.map_map,Function.comp_def,rowP_map hφ] at mL1
  refine Runs.subX (X:=L) (rows':=(ps.map (·.1)).map (rowL b)) mL1 (by simp) (fun i e e' he he'=>?_) ?_
  ·rw[List.getElem?_map] at he
   rw[List.map_map,List.getElem?_map] at he'
   cases hpi:ps[i]? with
   | none=>rw[hpi] at he;cases he
   | some p=>
    rw[hpi] at he he'
    simp only[Option.map_some,Option.some.injEq,Function.comp] at he he'
    subst he he'
    exact rowP_sub (hsub (p.2,p.1.code) (List.mem_map.2 ⟨p,List.mem_of_getElem? hpi,rfl⟩))
  have hLn:∀ i ∈ [C,(0,1)],i ≠ L:=fun i hi h=>hLi (h ▸ hi)
  refine Runs.cut (fun ρ H n=>ρ 1 = .ptr (0,1) 1 0 0∧ρ 3 = .ptr C 1 0 0∧ρ 4 = .arr L ps.length 0 ps.length∧ρ 24=int b.nodes.length∧ρ 25=int m∧H (0,1)=some ⟨6,[Big.cells false b]⟩∧(∃ cs,H C=some ⟨9,[cs]⟩∧cs.length=9)∧H L=some ⟨10,(layN b m).map (rowL b)⟩∧Sep H n [] [L,C,(0,1)])
   ⟨by simp only[r1];exact (hptr _ (by simp) _ _ _).1,by simp only[r3];exact (hptr _ (by simp) _ _ _).1,by simp only[r4];exact (hptr _ (by simp) _ _ _).2,by simp only[r24];exact hφ _ (.v _),by simp only[r25];exact hφ _ (.v _),by rw[Heap.get_set_ne _ _ (hLn _ (by simp))];exact mB1,⟨cs.map φ,by rw[Heap.get_set_ne _ _ (hLn _ (by simp))];exact mC1,by simp[hcs]⟩,by rw[Heap.get_set_self,hps],Sep.setVar sp1 (by simp)⟩ ?_
  have hpl:ps.length=(layN b m).length:=by rw[← hps];simp
  rw[hpl]
  clear r1 r3 r4 r24 r25 mB mC mL sp mB1 mC1 mL1 sp1 fr1 hsub hptr hφ spE hps hpl hBm
  clear ps
  rintro ρ H n ⟨r1,r3,r4,r24,r25,mB,mC,mL,sp⟩
  refine Runs.seqE Ty_ok (by decide) fun k' hk'=>?_
  simp[r25]
  apply hk'
  refine Runs.seqE Ty_ok (by decide) fun k' hk'=>?_
  simp
  apply hk'
  have hnN:∀ i ∈ [L,C,(0,1)],i ≠ (n,28):=fun i hi h=>by have:=sp.1 i hi;rw[h] at this;simp at this
  obtain⟨cs,mC,hcs⟩:=mC
  have mN1:=Heap.get_set_self H (n,28) ⟨10,[]⟩
  have mB1:(H.set (n,28) ⟨10,[]⟩) (0,1)=some ⟨6,[Big.cells false b]⟩:=by rw[Heap.get_set_ne _ _ (hnN _ (by simp))];exact mB
  have mC1:(H.set (n,28) ⟨10,[]⟩) C=some ⟨9,[cs]⟩:=by rw[Heap.get_set_ne _ _ (hnN _ (by simp))];exact mC
  have mL1:(H.set (n,28) ⟨10,[]⟩) L=some ⟨10,(layN b m).map (rowL b)⟩:=by rw[Heap.get_set_ne _ _ (hnN _ (by simp))];exact mL
  have sp1:=Sep.var (d:=28) (o:=⟨10,[]⟩) sp
  generalize H.set (n,28) ⟨10,[]⟩=H1 at mN1 mB1 mC1 mL1 sp1
  refine Runs.seq ?_
  refine Runs.seqE Ty_ok (by decide) fun k' hk'=>?_
  simp[r4,mL1]
  apply hk'
  refine Runs.block (Runs.loopUp (layN b m).length (fun i ρ H n=>∃ (M:Id) (qs:List AttV),ρ 1 = .ptr (0,1) 1 0 0∧ρ 3 = .ptr C 1 0 0∧ρ 5=int m∧ρ 6 = .arr M qs.length 0 qs.length∧ρ 24=int b.nodes.length∧ρ 25=int m∧ρ 29 = .arr L (layN b m).length 0 (layN b m).length∧ρ 30=int (layN b m).length∧ρ 31=int i ∧
    H (0,1)=some ⟨6,[Big.cells false b]⟩∧(∃ cs,H C=some ⟨9,[cs]⟩∧cs.length=9)∧H L=some ⟨10,(layN b m).map (rowL b)⟩∧H M=some ⟨10,qs.map (rowA b)⟩∧M ∉ [L,C,(0,1)]∧qs.map (·.1)=((layN b m).take i).flatMap (extC b)∧Sep H n (cEnt qs) [M,L,C,(0,1)])
   ⟨(n,28),[],by simp[r1],by simp[r3],by simp,by simp,by simp[r24],by simp[r25],by simp,by simp,by simp,mB1,⟨cs,mC1,hcs⟩,mL1,mN1,fun h=>hnN _ h rfl,by simp,sp1⟩ ?_)
  clear hk' r1 r3 r4 r24 r25 mB mC mL sp mN1 mB1 mC1 mL1 sp1 hnN hcs
  clear cs
  rintro i ρ H n hi ⟨M,qs,r1,r3,r5,r6,r24,r25,r29,r30,r31,mB,mC,mL,mM,hMi,hqs,sp⟩ IH1
  refine Runs.seqE Ty_ok (by decide) fun k' hk'=>?_
  simp[r30,r31]
  apply hk'
  refine Runs.seq ?_
  refine Runs.ite rfl (fun hc2=>?_) (fun hc2=>?_)
  ·have hc2:i<(layN b m).length:=by simpa using hc2
   refine Runs.skip ?_
   refine Runs.seq ?_
   refine Runs.block ?_
   have ha:=hok _ (List.getElem_mem hc2)
   have htk:((layN b m).take (i+1)).flatMap (extC b)=((layN b m).take i).flatMap (extC b)++extC b (layN b m)[i]:=by rw[← List.take_append_getElem hc2,List.flatMap_append];simp
   have hrow:((layN b m).map (rowL b))[i]?=some (rowL b (layN b m)[i]):=by rw[List.getElem?_map,List.getElem?_eq_getElem hc2];rfl
   generalize ham:(layN b m)[i]=a at ha htk hrow
   refine Runs.seqE Ty_ok (by decide) fun k' hk'=>?_
   simp[r29,r31,mL,hc2,hrow,ham,rowL,rowA,cdE,Big.cells,encN,encI,encS,encW]
   apply hk'
   have hnX:∀ i ∈ [M,L,C,(0,1)],i ≠ (n,8):=fun i hi h=>by have:=sp.1 i hi;rw[h] at this;simp at this
   obtain⟨cs,mC,hcs⟩:=mC
   refine Runs.cut (fun ρ H n'=>ρ 1 = .ptr (0,1) 1 0 0∧ρ 3 = .ptr C 1 0 0∧ρ 5=int m∧ρ 6 = .arr M qs.length 0 qs.length∧ρ 8 = .ptr (n,8) 1 0 0∧ρ 24=int b.nodes.length∧ρ 25=int m∧ρ 29 = .arr L (layN b m).length 0 (layN b m).length∧ρ 30=int (layN b m).length∧ρ 31=int i ∧
    H (0,1)=some ⟨6,[Big.cells false b]⟩∧(∃ cs,H C=some ⟨9,[cs]⟩∧cs.length=9)∧H L=some ⟨10,(layN b m).map (rowL b)⟩∧H M=some ⟨10,qs.map (rowA b)⟩∧H (n,8)=some ⟨10,[rowL b a]⟩∧n<n'∧Sep H n' (cEnt qs) [(n,8),M,L,C,(0,1)])
    ⟨by simp[r1],by simp[r3],by simp[r5],by simp[r6],by simp,by simp[r24],by simp[r25],by simp[r29],by simp[r30],by simp[r31],by rw[Heap.get_set_ne _ _ (hnX _ (by simp))];exact mB,⟨cs,by rw[Heap.get_set_ne _ _ (hnX _ (by simp))];exact mC,hcs⟩,by rw[Heap.get_set_ne _ _ (hnX _ (by simp))];exact mL,by rw[Heap.get_set_ne _ _ (hnX _ (by simp))];exact mM,by simp[rowL,rowA,cdE,Big.cells,encN,encI,encS,encW],by omega,Sep.var sp⟩ ?_
   clear hk' r1 r3 r5 r6 r24 r25 r29 r30 r31 mB mC mL mM sp hcs
   clear cs
   generalize hXe:(n,8)=X at hnX
   rintro ρ H n' ⟨r1,r3,r5,r6,r8,r24,r25,r29,r30,r31,mB,mC,mL,mM,mX,hnn,sp⟩
   refine Runs.seqE Ty_ok (by decide) fun k' hk'=>?_
   have f1:=fun H=>len_list (H:=H) (fr:=false) (f:=GNode.cells false) (l:=b.nodes) kd_34 rfl
   simp[r1,mB,Big.cells,encN,f1,-lenF]
   apply hk'
   refine Runs.block (Runs.loopUp b.nodes.length (fun j ρ H n=>∃ (M:Id) (qs:List AttV),ρ 1 = .ptr (0,1) 1 0 0∧ρ 3 = .ptr C 1 0 0∧ρ 5=int m∧ρ 6 = .arr M qs.length 0 qs.length∧ρ 8 = .ptr X 1 0 0∧ρ 24=int b.nodes.length∧ρ 25=int m∧ρ 29 = .arr L (layN b m).length 0 (layN b m).length∧ρ 30=int (layN b m).length∧ρ 31=int i ∧
    ρ 36 = .list false (b.nodes.map (GNode.cells false))∧ρ 37=int b.nodes.length∧ρ 38=int j ∧
    H (0,1)=some ⟨6,[Big.cells false b]⟩∧(∃ cs,H C=some ⟨9,[cs]⟩∧cs.length=9)∧H L=some ⟨10,(layN b m).map (rowL b)⟩∧H M=some ⟨10,qs.map (rowA b)⟩∧H X=some ⟨10,[rowL b a]⟩∧M ∉ [L,C,(0,1)]∧X ∉ [M,L,C,(0,1)]∧qs.map (·.1)=((layN b m).take i).flatMap (extC b)++extTo b a j∧Sep H n (cEnt qs) [X,M,L,C,(0,1)])
    ⟨M,qs,by simp[r1],by simp[r3],by simp[r5],by simp[r6],by simp[r8,hXe],by simp[r24],by simp[r25],by simp[r29],by simp[r30],by simp[r31],by simp,by simp,by simp,mB,mC,mL,mM,hXe ▸ mX,hMi,fun h=>hnX _ h rfl,by rw[hqs];simp[extTo],hXe ▸ sp⟩ ?_)
   clear hk' f1 r1 r3 r5 r6 r8 r24 r25 r29 r30 r31 mB mC mL mM mX sp hqs hMi hnX hXe hnn
   clear qs M
   rintro j ρ H n hj ⟨M,qs,r1,r3,r5,r6,r8,r24,r25,r29,r30,r31,r36,r37,r38,mB,mC,mL,mM,mX,hMi,hXi,hqs,sp⟩ IH2
   refine Runs.seqE Ty_ok (by decide) fun k' hk'=>?_
   simp[r37,r38]
   apply hk'
   refine Runs.seq ?_
   refine Runs.ite rfl (fun hc3=>?_) (fun hc3=>?_)
   ·have hc3:j<b.nodes.length:=by simpa using hc3
    refine Runs.skip ?_
    refine Runs.seq ?_
    refine Runs.block ?_
    have hjr:0≤(j:Int)∧(j:Int)<b.nodes.length:=⟨by omega,by omega⟩
    refine Runs.seqE Ty_ok (by decide) fun k' hk'=>?_
    have f1:=fun H=>ix_list (H:=H) (fr:=false) (f:=GNode.cells false) (k:=.i64) (l:=b.nodes) (i:=(j:Int)) kd_34 (fun _=>rfl) hjr rfl
    simp[r36,r38,f1,GNode.cells,encI,-indexAddrF]
    apply hk'
    have hS:CoS b C L M X m i j (layN b m).length qs.length ((layN b m).map (rowL b)) (qs.map (rowA b)) (rowL b a) ρ H:=⟨r1,r3,r5,r6,r8,r24,r25,r29,r30,r31,r36,r37,r38,mB,mC,mL,mM,mX⟩
    have hnY:∀ i ∈ [X,M,L,C,(0,1)],i ≠ (n,10):=fun i hi h=>by have:=sp.1 i hi;rw[h] at this;simp at this
    generalize hx:at' b.nodes (j:Int)=x
    refine Runs.cut (fun ρ H n'=>CoS b C L M X m i j (layN b m).length qs.length ((layN b m).map (rowL b)) (qs.map (rowA b)) (rowL b a) ρ H∧ρ 9=int j∧ρ 10 = .ptr (n,10) 1 0 0∧H (n,10)=some ⟨3,[GNode.cells false x]⟩∧Sep H n' (cEnt qs) [(n,10),X,M,L,C,(0,1)])
     ⟨hS.keep (by simp) (fun k hk=>Heap.get_set_ne _ _ (hnY k hk)),by simp,by simp,by simp[GNode.cells,encI,← hx],Sep.var sp⟩ ?_
    clear hk' f1 hS r1 r3 r5 r6 r8 r24 r25 r29 r30 r31 r36 r37 r38 mB mC mL mM mX sp
    generalize hYe:(n,10)=Y at hnY
    clear hYe
    rintro ρ H n ⟨hS,r9,r10,mY,sp⟩
    refine Runs.seq_cut (fun ρ' H' n'=>CoS b C L M X m i j (layN b m).length qs.length ((layN b m).map (rowL b)) (qs.map (rowA b)) (rowL b a) ρ' H'∧ρ' 9=int j∧freeP b a.s.pl (j:Int)=true∧Sep H' n' (cEnt qs) [X,M,L,C,(0,1)]) (fun fin=>?_) ?_
    rotate_left
    ·rintro ρ H n ⟨hS,r9,hfr,sp⟩
     have hnZ:∀ i ∈ [X,M,L,C,(0,1)],i ≠ (n,11):=fun i hi h=>by have:=sp.1 i hi;rw[h] at this;simp at this
     have hol:a.order.length+1≤1073741824:=by have:=ha.ord;omega
     refine Runs.seqC (fun H n=>H X=some ⟨10,[rowL b a]⟩) [9,10] (.free 0 (.free 1 (.free 2 (.free 3 (.free 4 (.free 5 (.free 6 (.free 7 (.free 8 (.hard 9 (.hard 10 .fin .stop) .stop))))))))))
      (fun ρ' H' n'=>CoS b C L M X m i j (layN b m).length qs.length ((layN b m).map (rowL b)) (qs.map (rowA b)) (rowL b a) ρ' H'∧ρ' 9=int j∧ρ' 11 = .ptr (n,11) 1 0 0∧H' (n,11)=some ⟨10,[cdE (some (.list true ((a.order++[(j:Int)]).map intC))) b (.list true (a.s.es.map intC)) (.list true (a.s.pl.map intC)) (.list true (a.code.map intC))]⟩∧Sep H' n' (cEnt qs) [(n,11),X,M,L,C,(0,1)]) draws (by decide) (by kernel_rfl) ?_ ?_
     ·refine RunT.free (.ptr X 1 0 0) rfl rfl hS.mX (fun H n hX=>stepF_ok Ty_ok (by rw[stepF_loc];simp[hS.r8,hX])) ?_
      refine RunT.free (.list true (a.order.map intC)) rfl rfl hS.mX (fun H n hX=>stepF_ok Ty_ok (by rw[stepF_loc];simp[hX,rowL,rowA,cdE])) ?_
      refine RunT.free (.clip true (a.order.map intV)) rfl rfl hS.mX (fun H n hX=>OpSem.stillD (clipZ_ok true a.order H n) e142 (by simp) (by simp)) ?_
      refine RunT.free (int j) rfl rfl hS.mX (fun H n hX=>stepF_ok Ty_ok (by rw[stepF_loc];simp[r9])) ?_
      refine RunT.free (.list true [[int j]]) rfl rfl hS.mX (fun H n hX=>stepF_ok Ty_ok (by rw[stepF_loc];simp[List.range_succ])) ?_
      refine RunT.free (.list true ((a.order++[(j:Int)]).map intC)) rfl rfl hS.mX (fun H n hX=>OpSem.appendD (t':=true) (fr:=true) (l:=a.order) (m:=[(j:Int)]) Ty_ok kd_24 ⟨rfl,rfl,by decide⟩ (by simp) (by simp[intC]) (by simp) (by simpa using hol)) ?_
      refine RunT.free (.ptr X 1 0 1) rfl rfl hS.mX (fun H n hX=>stepF_ok Ty_ok (by rw[stepF_loc];simp[hS.r8,hX])) ?_
      refine RunT.free (.agg (cdE none b (.list true (a.s.es.map intC)) (.list true (a.s.pl.map intC)) (.list true (a.code.map intC)))) rfl rfl hS.mX (fun H n hX=>stepF_ok Ty_ok (by rw[stepF_loc];simp[hX,rowL,rowA,cdE,Big.cells])) ?_
      refine RunT.free (.agg (cdE (some (.list true ((a.order++[(j:Int)]).map intC))) b (.list true (a.s.es.map intC)) (.list true (a.s.pl.map intC)) (.list true (a.code.map intC)))) rfl rfl hS.mX (fun H n hX=>stepF_ok Ty_ok (by rw[stepF_loc];simp[cdE,Big.cells,encN,encI,encS,encW])) ?_
      refine⟨?_,trivial⟩
      refine RunT.step (v:=.ptr (n,11) 1 0 0) (H':=H.set (n,11) ⟨10,[[.v (.slice none 0 0),int 0,.v (.slice none 0 0),.v (.slice none 0 0),int 0,.v (.slice none 0 0),.v (.slice none 0 0),.v (.slice none 0 0),.v (.slice none 0 0),.v (.slice none 0 0)]]⟩) (n':=n+1) Ty_ok rfl rfl (by simp) (fun _=>by rw[Heap.get_set_ne _ _ (hnZ X (by simp))];exact hS.mX) ?_
      refine⟨?_,trivial⟩
      refine RunT.step (v:=.undef) (H':=H.set (n,11) ⟨10,[cdE (some (.list true ((a.order++[(j:Int)]).map intC))) b (.list true (a.s.es.map intC)) (.list true (a.s.pl.map intC)) (.list true (a.code.map intC))]⟩) (n':=n+1) Ty_ok rfl rfl ?_ (fun hl=>absurd (hl.symm.trans (show lateC _ _ _=true by kernel_rfl)) (by decide)) ?_
      ·simp[cdE,Big.cells,encN,encI,encS,encW]
      exact RunT.fin ⟨hS.keep (by simp) (fun k hk=>Heap.get_set_ne _ _ (hnZ k hk)),by simp[r9],by simp,Heap.get_set_self _ _ _,Sep.var sp⟩
     ·generalize hZe:(n,11)=Z at hnZ
      clear hZe hS sp
      rintro ρ H n ⟨hS,r9,r11,mZ,sp⟩
      refine Runs.seqE Ty_ok (by decide) fun k' hk'=>?_
      simp[hS.r5,r9,r11,mZ]
      have hE:=ha.s.es
      have hcl:=ha.code
      have h3:=hv.links3 hjr
      have hZi:Z ∉ [X,M,L,C,(0,1)]:=fun h=>hnZ _ h rfl
      refine RunK.callS Ty_ok (node_c (o:=some (.list true ((a.order++[(j:Int)]).map intC))) (g:=1) (idx:=0) (k:=(j:Int)) (num:=(m:Int)) (code:=a.code) mZ rfl rfl (Sub.refl _) hjr (by rw[ha.s.pl];omega) (by rw[ha.s.pl];have:=(hv.parAt hjr).2;omega) (hv.i64par hjr) (fun h0=>ha.s.at ⟨h0,by rw[ha.s.pl];have:=(hv.parAt hjr).2;omega⟩) (hv.i64lnk hjr) (by omega) (by omega) (by rw[ha.s.pl];omega) hZi sp) e143 (by decide) (by decide) rfl (by simp[cdO]) ?_
      rintro v1 H1 n1 ⟨vp,vc1,mZ1,sp1,fr1,hn1⟩
      simp
      apply hk'
      have hpe:a.s.pl.set (j:Int).toNat (m:Int)=(stepC b a.s j).pl:=by simp[stepC,ha.s.num]
      rw[hpe] at sp1
      generalize hat:(⟨a.order++[(j:Int)],stepC b a.s j,a.code++(chunkC b a.s j).1⟩:Att)=at2
      have mZ2:H1 Z=some ⟨10,[cdE (some (.list true (at2.order.map intC))) b (.list true (at2.s.es.map intC)) vp vc1]⟩:=by rw[← hat];exact mZ1
      have sp2:Sep H1 n1 (oI vp at2.s.pl::oI vc1 at2.code::cEnt qs) [Z,X,M,L,C,(0,1)]:=by rw[← hat];exact sp1
      refine Runs.cut (fun ρ' H' n'=>CoS b C L M X m i j (layN b m).length qs.length ((layN b m).map (rowL b)) (qs.map (rowA b)) (rowL b a) ρ' H'∧ρ' 11 = .ptr Z 1 0 0∧H' Z=some ⟨10,[cdE (some (.list true (at2.order.map intC))) b (.list true (at2.s.es.map intC)) vp vc1]⟩∧Sep H' n' (oI vp at2.s.pl::oI vc1 at2.code::cEnt qs) [Z,X,M,L,C,(0,1)])
       ⟨hS.keep (by simp) fr1,by simp[r11],mZ2,sp2⟩ ?_
      clear hk' hS r9 r11 mZ sp mZ1 mZ2 sp1 sp2 fr1 hn1
      rintro ρ H n ⟨hS,r11,mZ,sp⟩
      have hAI:AllI (oI vc1 at2.code::cEnt qs):=by
       intro e he
       rcases List.mem_cons.1 he with rfl | he
       ·exact⟨_,_,rfl⟩
       ·obtain⟨q,_,rfl⟩:=List.mem_map.1 he;exact⟨_,_,rfl⟩
      refine Runs.fzS sp hAI fun H1 φ sp1 fr1 hφ hkv hptr hsub=>?_
      have hvc:φ vc1=vc1:=hkv (oI vc1 at2.code) (by simp)
      have hvq:∀ q ∈ qs,φ q.2=q.2:=fun q hq=>hkv (oI q.2 q.1.code) (List.mem_cons_of_mem _ (List.mem_map.2 ⟨q,hq,rfl⟩))
      have hrl:∀ a:Att,(rowL b a).map φ=rowL b a:=fun a=>by rw[rowL,rowP_map hφ,hφ _ (immI _)]
      have hS1:=hS.fz (by simp) fr1 hφ hptr (by rw[List.map_map];exact List.map_congr_left fun a _=>hrl a) (by rw[List.map_map];exact List.map_congr_left fun q hq=>by rw[Function.comp,rowP_map hφ,hvq q hq]) (hrl a)
      have mZ1:=fr1 Z (by simp)
      rw[mZ] at mZ1
      simp only[Option.map_some,List.map_cons,List.map_nil,cdE_map hφ (immI _) (.inr trivial),hφ _ (immI _),hvc] at mZ1
      refine Runs.subX (X:=Z) (rows':=[rowA b (at2,vc1)]) mZ1 rfl (fun i e e' he he'=>?_) ?_
      ·match i with
       | 0=>
        simp only[List.getElem?_cons_zero,Option.some.injEq] at he he'
        subst he he'
        exact SubL.append (.refl _) (SubL.append (.refl _) (.cons (.refl _) (.cons hsub (.refl _))))
       | i+1=>simp at he
      refine Runs.cut (fun ρ' H' n'=>CoS b C L M X m i j (layN b m).length qs.length ((layN b m).map (rowL b)) (qs.map (rowA b)) (rowL b a) ρ' H'∧ρ' 11 = .ptr Z 1 0 0∧H' Z=some ⟨10,[rowA b (at2,vc1)]⟩∧Sep H' n' (oI vc1 at2.code::cEnt qs) [Z,X,M,L,C,(0,1)])
       ⟨hS1.keep (fun _ _=>rfl) (fun k hk=>Heap.get_set_ne _ _ (show k ≠ Z from fun h=>hZi (h ▸ hk))),by simp only[r11];exact (hptr _ (by simp) _ _ _).1,Heap.get_set_self _ _ _,Sep.setVar sp1 (by simp)⟩ ?_
      clear hS r11 mZ sp hS1 mZ1 sp1 fr1 hkv hsub hvc hvq hrl hptr hφ hAI
      rintro ρ H n ⟨hS,r11,mZ,sp⟩
      have hoc:=Sep.oc sp
      have hbig:qs.length+1≤1073741824:=by
       have e1:qs.length=(((layN b m).take i).flatMap (extC b)++extTo b a j).length:=by rw[← hqs];simp
       have e2:=flat_len hn8 ((layN b m).take i)
       have e3:=layN_len hn8 m
       have e4:(extTo b a j).length≤j:=by
        have:=List.length_filter_le (freeP b a.s.pl) ((List.range j).map fun i:Nat=>(i:Int))
        simpa[extTo] using this
       have e5:8 ^ m≤8 ^ 8:=Nat.pow_le_pow_right (by omega) (by omega)
       have e6:(8:Nat) ^ 8=16777216:=by decide
       have e7:((layN b m).take i).length≤(layN b m).length:=by simp;omega
       rw[List.length_append] at e1
       omega
      refine Runs.evalE Ty_ok (by decide) fun k' hk'=>?_
      simp[hS.r6,r11,mZ,hS.mM,rowA,cdE,Big.cells,encN,encI,encS,encW,hoc,List.range_succ,hbig,-cellsA,-one1,cAx,o1x]
      apply hk'
      refine Runs.inBlock ?_
      refine Runs.evalE Ty_ok (by decide) fun k' hk'=>?_
      have f2:=ib_add (show I64 ((j:Int)+1) by simp only[I64];omega) (show ((j+1:Nat):Int)=(j:Int)+1 by omega)
      simp[hS.r38,f2,-intBin]
      apply hk'
      have hMn:∀ k ∈ [L,C,(0,1)],k ≠ M:=fun k hk h=>hMi (h ▸ hk)
      have hXM:X ≠ M:=fun h=>hXi (by simp[h])
      obtain⟨cs,mC,hcs⟩:=hS.mC
      refine IH2 hc3 _ _ _ ⟨M,qs++[(at2,vc1)],by simp[hS.r1],by simp[hS.r3],by simp[hS.r5],by simp,by simp[hS.r8],by simp[hS.r24],by simp[hS.r25],by simp[hS.r29],by simp[hS.r30],by simp[hS.r31],by simp[hS.r36],by simp[hS.r37],by simp,by rw[Heap.get_set_ne _ _ (hMn _ (by simp))];exact hS.mB,⟨cs,by rw[Heap.get_set_ne _ _ (hMn _ (by simp))];exact mC,hcs⟩,by rw[Heap.get_set_ne _ _ (hMn _ (by simp))];exact hS.mL,by simp[rowA,cdE,Big.cells,encN,encI,encS,encW],by rw[Heap.get_set_ne _ _ hXM];exact hS.mX,hMi,hXi,by rw[List.map_append,hqs,extTo_yes hfr,hat];simp,?_⟩
      have:=Sep.sub (ids':=[X,M,L,C,(0,1)]) (Sep.setVar (w:=M) (o:=⟨10,qs.map (rowA b)++[rowA b (at2,vc1)]⟩) (Sep.rot sp) (by simp)) (by simp +contextual)
      simpa[cEnt,rowA,cdE,Big.cells,encN,encI,encS,encW] using this
    refine Runs.seqE Ty_ok (by decide) fun k' hk'=>?_
    have hol:a.order.length≤1048576:=by have:=ha.ord;omega
    have hcon:∀ y:Int,PureC Tryz.prog 107 [.list false (a.order.map intC),int y] (fun r=>r=bool (decide (y ∈ a.order))):=fun y=>by
     have:=contains_ok a.order y hol
     have e:(a.order.any fun z=>y == z)=decide (y ∈ a.order):=by
      rw[Bool.eq_iff_iff];simp
     rw[e] at this
     exact this
    have hfree:freeP b a.s.pl (j:Int)=(decide ((j:Int) ∉ a.order) && (decide (x.parent<0) || decide (x.parent ∈ a.order))):=by
     have h1:=ha.mem j hjr
     rw[freeP,hx]
     have e1:decide (at' a.s.pl (j:Int)<0)=decide ((j:Int) ∉ a.order):=by
      rw[Bool.eq_iff_iff];simp only[decide_eq_true_eq];rw[h1];omega
     rw[e1]
     by_cases h2:x.parent<0
     ·simp[h2]
     ·have h3:=hv.parAt hjr
      rw[hx] at h3
      have h4:=ha.mem x.parent ⟨by omega,by omega⟩
      have e2:decide (0≤at' a.s.pl x.parent)=decide (x.parent ∈ a.order):=by
       rw[Bool.eq_iff_iff];simp only[decide_eq_true_eq];exact h4.symm
      rw[e2]
    simp[hS.r8,hS.mX,rowL,rowA,cdE,Big.cells,r9]
    refine RunK.callA Ty_ok (hcon j) e107 (.cons (ArgOk.listF (fr:=true) (els:=a.order.map intC) (by simp[intC])) (.cons (.v _ _ _) .nil)) (by decide) (by decide) rfl (by simp) ?_
    rintro _ rfl
    by_cases h1:(j:Int) ∈ a.order
    ·have hf:freeP b a.s.pl (j:Int)=false:=by rw[hfree];simp[h1]
     simp[h1]
     apply hk'
     refine Runs.ite rfl (fun _=>?_) (fun h=>by cases h)
     refine Runs.exit rfl ?_
     refine Runs.evalE Ty_ok (by decide) fun k' hk'=>?_
     have f2:=ib_add (show I64 ((j:Int)+1) by simp only[I64];omega) (show ((j+1:Nat):Int)=(j:Int)+1 by omega)
     simp[hS.r38,f2,-intBin]
     apply hk'
     exact IH2 hc3 _ _ _ ⟨M,qs,by simp[hS.r1],by simp[hS.r3],by simp[hS.r5],by simp[hS.r6],by simp[hS.r8],by simp[hS.r24],by simp[hS.r25],by simp[hS.r29],by simp[hS.r30],by simp[hS.r31],by simp[hS.r36],by simp[hS.r37],by simp,hS.mB,hS.mC,hS.mL,hS.mM,hS.mX,hMi,hXi,by rw[hqs,extTo_no hf],Sep.sub sp (by simp +contextual)⟩
    by_cases h2:0≤x.parent
    ·simp[h1,h2,hS.r8,hS.mX,r9,r10,mY,GNode.cells,rowL,rowA,cdE,Big.cells]
     refine RunK.callA Ty_ok (hcon x.parent) e107 (.cons (ArgOk.listF (fr:=true) (els:=a.order.map intC) (by simp[intC])) (.cons (.v _ _ _) .nil)) (by decide) (by decide) rfl (by simp) ?_
     rintro _ rfl
     by_cases h3:x.parent ∈ a.order
     ·simp[h3]
      apply hk'
      refine Runs.ite rfl (fun h=>by cases h) (fun _=>?_)
      refine Runs.skip ?_
      exact fin _ _ _ ⟨hS.keep (by simp) (fun _ _=>rfl),by simp[r9],by rw[hfree];simp[h1,h3],Sep.sub sp (by simp +contextual)⟩
     ·have hf:freeP b a.s.pl (j:Int)=false:=by rw[hfree];simp[h1,h3];omega
      simp[h3]
      apply hk'
      refine Runs.ite rfl (fun _=>?_) (fun h=>by cases h)
      refine Runs.exit rfl ?_
      refine Runs.evalE Ty_ok (by decide) fun k' hk'=>?_
      have f2:=ib_add (show I64 ((j:Int)+1) by simp only[I64];omega) (show ((j+1:Nat):Int)=(j:Int)+1 by omega)
      simp[hS.r38,f2,-intBin]
      apply hk'
      exact IH2 hc3 _ _ _ ⟨M,qs,by simp[hS.r1],by simp[hS.r3],by simp[hS.r5],by simp[hS.r6],by simp[hS.r8],by simp[hS.r24],by simp[hS.r25],by simp[hS.r29],by simp[hS.r30],by simp[hS.r31],by simp[hS.r36],by simp[hS.r37],by simp,hS.mB,hS.mC,hS.mL,hS.mM,hS.mX,hMi,hXi,by rw[hqs,extTo_no hf],Sep.sub sp (by simp +contextual)⟩
    ·simp[h1,h2,hS.r8,hS.mX,r9,r10,mY,GNode.cells,rowL,rowA,cdE,Big.cells]
     apply hk'
     refine Runs.ite rfl (fun h=>by cases h) (fun _=>?_)
     refine Runs.skip ?_
     exact fin _ _ _ ⟨hS.keep (by simp) (fun _ _=>rfl),by simp[r9],by rw[hfree];simp[h1];omega,Sep.sub sp (by simp +contextual)⟩
   ·have hc4:¬ j<b.nodes.length:=by simpa using hc3
    have hc5:j=b.nodes.length:=by omega
    subst hc5
    refine Runs.exit rfl ?_
    refine Runs.inBlock ?_
    refine Runs.evalE Ty_ok (by decide) fun k' hk'=>?_
    have hb8:(layN b m).length≤16777216:=by
     have e3:=layN_len hn8 m
     have e5:8 ^ m≤8 ^ 8:=Nat.pow_le_pow_right (by omega) (by omega)
     have e6:(8:Nat) ^ 8=16777216:=by decide
     omega
    have f2:=ib_add (show I64 ((i:Int)+1) by simp only[I64];omega) (show ((i+1:Nat):Int)=(i:Int)+1 by omega)
    simp[r31,f2,-intBin]
    apply hk'
    exact IH1 hc2 _ _ _ ⟨M,qs,by simp[r1],by simp[r3],by simp[r5],by simp[r6],by simp[r24],by simp[r25],by simp[r29],by simp[r30],by simp,mB,mC,mL,mM,hMi,by rw[hqs,htk,extTo_all],Sep.sub sp (by simp +contextual)⟩
  ·have hc4:¬ i<(layN b m).length:=by simpa using hc2
   have hc5:i=(layN b m).length:=by omega
   subst hc5
   refine Runs.exit rfl ?_
   rw[List.take_length] at hqs
   refine Runs.evalE Ty_ok (by decide) fun k' hk'=>?_
   simp[r6]
   have hb8:qs.length≤134217728:=by
    have e1:qs.length=((layN b m).flatMap (extC b)).length:=by rw[← hqs];simp
    have e2:=flat_len hn8 (layN b m)
    have e3:=layN_len hn8 m
    have e5:8 ^ m≤8 ^ 8:=Nat.pow_le_pow_right (by omega) (by omega)
    have e6:(8:Nat) ^ 8=16777216:=by decide
    omega
   have hqo:∀ q ∈ qs,AttOk b (m+1) q.1:=fun q hq=>by
    have h1:q.1 ∈ (layN b m).flatMap (extC b):=by rw[← hqs];exact List.mem_map.2 ⟨q,hq,rfl⟩
    obtain⟨a,ha,h2⟩:=List.mem_flatMap.1 h1
    exact attOk_ext hv (by omega) (hok a ha) h2
   have hqn:qs ≠ []:=by
    intro h
    have h1:(layN b m).flatMap (extC b)=[]:=by rw[← hqs,h];rfl
    exact flat_ne he hdn hc1 h1
   refine RunK.callS Ty_ok (leastOf_c (K:=[]) hqn mM (fun q hq=>by have:=(hqo q hq).code;omega) (by omega) (by simpa using sp) hMi) e144 (by decide) (by decide) rfl (by simp) ?_
   rintro _ H1 n1 ⟨O,rfl,mO,hO,sp1,fr1,hn1⟩
   simp
   apply hk'
   refine Runs.inBlock ?_
   refine Runs.evalE Ty_ok (by decide) fun k' hk'=>?_
   have f2:=ib_add (show I64 ((m:Int)+1) by simp only[I64];omega) (show ((m+1:Nat):Int)=(m:Int)+1 by omega)
   simp[r25,f2,-intBin]
   apply hk'
   obtain⟨cs,mC,hcs⟩:=mC
   refine IH hc1 _ _ _ ⟨O,leastP qs,by simp[r1],by simp[r3],by simp,by simp[r24],by simp,(fr1 _ (by simp)).trans mB,⟨cs,(fr1 _ (by simp)).trans mC,hcs⟩,mO,fun h=>hO (by simp at h ⊢;rcases h with h | h<;>simp[h]),by rw[leastP_fst,hqs];rfl,?_⟩
   have h1:=Sep.sublist (List.Sublist.map (fun p:AttV=>oI p.2 p.1.code) (leastP_subl qs)) [] (by simpa[cEnt] using sp1)
   exact Sep.sub h1 (by simp +contextual)
 ·have hc4:¬ m<b.nodes.length:=by simpa using hc1
  have hc5:m=b.nodes.length:=by omega
  subst hc5
  have hok:=layN_ok hv b.nodes.length (Nat.le_refl _)
  refine Runs.exit rfl ?_
  refine Runs.seq ?_
  refine Runs.seqE Ty_ok (by decide) fun k' hk'=>?_
  simp[r4,mL]
  apply hk'
  have hlen:ps.length=(layN b b.nodes.length).length:=by rw[← hps];simp
  have hb8:ps.length≤16777216:=by
   have e3:=layN_len hn8 b.nodes.length
   have e5:8 ^ b.nodes.length≤8 ^ 8:=Nat.pow_le_pow_right (by omega) (by omega)
   have e6:(8:Nat) ^ 8=16777216:=by decide
   omega
  refine Runs.block (Runs.loopUp ps.length (fun i ρ H n=>∃ qs:List AttV,ρ 1 = .ptr (0,1) 1 0 0∧ρ 3 = .ptr C 1 0 0∧ρ 4 = .arr L ps.length 0 ps.length∧ρ 83=int ps.length∧ρ 84=int i∧H (0,1)=some ⟨6,[Big.cells false b]⟩∧(∃ cs,H C=some ⟨9,[cs]⟩∧cs.length=9) ∧
    H L=some ⟨10,qs.map (rowA b)⟩∧qs.length=ps.length∧qs.map (·.1)=((layN b b.nodes.length).take i).map (restC b)++(layN b b.nodes.length).drop i∧Sep H n (cEnt qs) [L,C,(0,1)])
   ⟨ps,by simp[r1],by simp[r3],by simp[r4],by simp,by simp,mB,mC,mL,rfl,by simpa using hps,sp⟩ ?_)
  clear hk' r1 r3 r4 r24 r25 mB mC mL sp IH
  rintro i ρ H n hi ⟨qs,r1,r3,r4,r83,r84,mB,mC,mL,hql,hqs,sp⟩ IH
  refine Runs.seqE Ty_ok (by decide) fun k' hk'=>?_
  simp[r83,r84]
  apply hk'
  refine Runs.seq ?_
  refine Runs.ite rfl (fun hc2=>?_) (fun hc2=>?_)
  ·have hc2:i<ps.length:=by simpa using hc2
   refine Runs.skip ?_
   refine Runs.seq ?_
   refine Runs.block ?_
   refine Runs.seqE Ty_ok (by decide) fun k' hk'=>?_
   simp[r84]
   apply hk'
   refine Runs.evalE Ty_ok (by decide) fun k' hk'=>?_
   have hiq:i<qs.length:=by omega
   have hrow:(qs.map (rowA b))[i]?=some (rowA b qs[i]):=by rw[List.getElem?_map,List.getElem?_eq_getElem hiq];rfl
   have hil:i<(layN b b.nodes.length).length:=by omega
   have hat:qs[i].1=(layN b b.nodes.length)[i]:=by
    have h1:(qs.map (·.1))[i]?=some qs[i].1:=by rw[List.getElem?_map,List.getElem?_eq_getElem hiq];rfl
    rw[hqs,List.getElem?_append_right (by simp;omega)] at h1
    have h2:i - (((layN b b.nodes.length).take i).map (restC b)).length=0:=by simp;omega
    rw[h2,List.getElem?_drop,Nat.add_zero,List.getElem?_eq_getElem hil] at h1
    injection h1 with h1
    exact h1.symm
   have ha:=hok _ (List.getElem_mem hil)
   rw[← hat] at ha
   have hsplit:=cEnt_split hiq
   rw[hsplit] at sp
   simp[r4,mL,hql,hc2,hiq]
   have hE:=ha.s.es
   have hcl:=ha.code
   have hs4:=hv.slen
   have hi16:=hv.inner
   refine RunK.callS Ty_ok (rest_c (o:=some (.list true (qs[i].1.order.map intC))) (g:=ps.length) (idx:=i) (code:=qs[i].1.code) mL (by simp[hql]) hrow (fun p hp=>by
    have h1:=hv.sites p hp
    have h2:=hv.roots
    exact⟨by rw[ha.s.pl];omega,⟨by omega,by omega⟩,fun h0=>ha.s.at ⟨h0,by rw[ha.s.pl];omega⟩⟩) (fun w hw=>by
    have h1:=hv.wires w hw
    have h2:=hv.edges
    have h3:=hv.outer
    exact⟨by omega,by omega⟩) (by omega) (by omega) hLi (Sep.front sp)) e145 (by decide) (by decide) rfl (by simp[cdO]) ?_
   rintro v1 H1 n1 ⟨vc1,mL1,sp1,fr1,hn1⟩
   simp
   apply hk'
   refine Runs.inBlock ?_
   refine Runs.evalE Ty_ok (by decide) fun k' hk'=>?_
   have f2:=ib_add (show I64 ((i:Int)+1) by simp only[I64];omega) (show ((i+1:Nat):Int)=(i:Int)+1 by omega)
   simp[r84,f2,-intBin]
   apply hk'
   obtain⟨cs,mC,hcs⟩:=mC
   refine IH hc2 _ _ _ ⟨qs.set i (restC b qs[i].1,vc1),by simp[r1],by simp[r3],by simp[r4],by simp[r83],by simp,(fr1 _ (by simp)).trans mB,⟨cs,(fr1 _ (by simp)).trans mC,hcs⟩,?_,by simp[hql],?_,?_⟩
   ·rw[List.map_set];exact mL1
   ·rw[List.map_set,hqs,List.set_append_right _ _ (by simp;omega)]
    have h2:i - (((layN b b.nodes.length).take i).map (restC b)).length=0:=by simp;omega
    rw[h2,hat,List.drop_eq_getElem_cons hil,List.set_cons_zero,← List.take_append_getElem hil,List.map_append]
    simp
   ·rw[cEnt_set hiq]
    exact Sep.unfront sp1
  ·have hc3:¬ i<ps.length:=by simpa using hc2
   have hc5:i=ps.length:=by omega
   subst hc5
   refine Runs.exit rfl ?_
   have hqs2:qs.map (·.1)=(layN b b.nodes.length).map (restC b):=by rw[hqs,hlen,List.take_length,List.drop_length,List.append_nil]
   have hqn:qs ≠ []:=by
    intro h
    have h1:(layN b b.nodes.length).map (restC b)=[]:=by rw[← hqs2,h];rfl
    exact (layN_lay he hdn b.nodes.length (Nat.le_refl _)).2 (List.map_eq_nil_iff.1 h1)
   have hqo:∀ q ∈ qs,q.1.code.length≤1048576∧q.1.order.length≤1048576:=fun q hq=>by
    have h1:q.1 ∈ (layN b b.nodes.length).map (restC b):=by rw[← hqs2];exact List.mem_map.2 ⟨q,hq,rfl⟩
    obtain⟨a,ha,h2⟩:=List.mem_map.1 h1
    have h3:=hok a ha
    have h4:=h3.code
    have h5:=h3.ord
    have h6:=hv.slen
    have h7:=hv.inner
    have h8:(linksC b a.s.es (b.inner.map fun w=>w.link)).1.length=(b.inner.map fun w=>w.link).length:=linksC_len _ _
    simp only[List.length_map] at h8
    rw[← h2]
    simp only[restC,tailC,List.length_append,List.length_map]
    omega
   refine Runs.seqE Ty_ok (by decide) fun k' hk'=>?_
   rw[← hql] at r4
   simp[r4]
   refine RunK.callS Ty_ok (leastOf_c (K:=[]) hqn mL (fun q hq=>(hqo q hq).1) (by omega) (by simpa using sp) hLi) e144 (by decide) (by decide) rfl (by simp) ?_
   rintro _ H1 n1 ⟨O,rfl,mO,hO,sp1,fr1,hn1⟩
   simp
   apply hk'
   have hL2:(leastP qs).map (·.1)=leastA ((layN b b.nodes.length).map (restC b)):=by rw[leastP_fst,hqs2]
   have hmem:∀ q ∈ leastP qs,q ∈ qs:=fun q hq=>(leastP_subl qs).subset hq
   have hne2:0<(leastP qs).length:=by
    have h1:=leastA_ne (l:=(layN b b.nodes.length).map (restC b)) (fun h=>hqn (List.map_eq_nil_iff.1 (hqs2.trans h)))
    rw[← hL2] at h1
    exact List.length_pos_iff.2 (fun h=>h1 (by rw[h];rfl))
   have sp2:=Sep.sublist (List.Sublist.map (fun p:AttV=>oI p.2 p.1.code) (leastP_subl qs)) [] (by simpa[cEnt] using sp1)
   have hle:(leastP qs).length≤16777216:=by have:=(leastP_subl qs).length_le;omega
   obtain⟨cs,mC,hcs⟩:=mC
   refine Runs.cut (fun ρ H n=>ρ 3 = .ptr C 1 0 0∧ρ 4 = .arr O (leastP qs).length 0 (leastP qs).length∧(∃ cs,H C=some ⟨9,[cs]⟩∧cs.length=9)∧H O=some ⟨10,(leastP qs).map (rowA b)⟩∧O ≠ C∧Sep H n (cEnt (leastP qs)) [O,C])
    ⟨by simp[r3],by simp,⟨cs,(fr1 _ (by simp)).trans mC,hcs⟩,mO,fun h=>hO (by simp[h]),Sep.sub sp2 (by simp +contextual)⟩ ?_
   clear hk' r1 r3 r4 r83 r84 mB mC mL sp sp1 sp2 fr1 mO hO
   rintro ρ H n ⟨r3,r4,mC,mO,hOC,sp⟩
   have hL3:(leastP qs).map (·.1)=lastA b:=hL2
   have hco:∀ q ∈ leastP qs,q.1.code.length≤1048576∧q.1.order.length≤1048576:=fun q hq=>hqo q (hmem q hq)
   clear hqn hqo hqs2 hqs hql hL2 hmem
   generalize leastP qs=ws at r4 mO sp hne2 hle hL3 hco
   have hrow0:(ws.map (rowA b))[0]?=some (rowA b ws[0]):=by rw[List.getElem?_map,List.getElem?_eq_getElem hne2];rfl
   have hoc:∀ q ∈ ws,Ab.one1 q.2=true∧cellsA q.2=some [q.2]:=fun q hq=>by
    have:=Sep.memOc sp (v:=q.2) (l:=q.1.code) (List.mem_map.2 ⟨_,hq,rfl⟩)
    exact⟨this.1,this.2.1⟩
   have hoc0:=hoc _ (List.getElem_mem hne2)
   refine Runs.seqE Ty_ok (by decide) fun k' hk'=>?_
   simp[r4,mO,hne2,rowA,cdE,Big.cells,encN,encI,encS,encW,hoc0,-cellsA,-one1,cAx,o1x]
   apply hk'
   have hnW:∀ k ∈ [O,C],k ≠ (n,13):=fun k hk h=>by have:=sp.1 k hk;rw[h] at this;simp at this
   obtain⟨cs,mC,hcs⟩:=mC
   refine Runs.seq ?_
   refine Runs.cut (fun ρ' H' n'=>ρ' 3 = .ptr C 1 0 0∧ρ' 4 = .arr O ws.length 0 ws.length∧ρ' 13 = .ptr (n,13) 1 0 0∧(∃ cs,H' C=some ⟨9,[cs]⟩∧cs.length=9)∧H' O=some ⟨10,ws.map (rowA b)⟩∧H' (n,13)=some ⟨10,[rowA b ws[0]]⟩∧Sep H' n' (cEnt ws) [(n,13),O,C])
    ⟨by simp[r3],by simp[r4],by simp,⟨cs,by rw[Heap.get_set_ne _ _ (hnW _ (by simp))];exact mC,hcs⟩,by rw[Heap.get_set_ne _ _ (hnW _ (by simp))];exact mO,by simp[rowA,cdE,Big.cells,encN,encI,encS,encW],Sep.var sp⟩ ?_
   clear hk' r3 r4 mC mO sp hcs
   clear cs
   generalize hWe:(n,13)=W at hnW
   clear hWe
   rintro ρ H n ⟨r3,r4,r13,mC,mO,mW,sp⟩
   refine Runs.seqE Ty_ok (by decide) fun k' hk'=>?_
   simp[r4,mO]
   apply hk'
   refine Runs.block (Runs.loopUp ws.length (fun i ρ H n=>ρ 3 = .ptr C 1 0 0∧ρ 13 = .ptr W 1 0 0∧ρ 98 = .arr O ws.length 0 ws.length∧ρ 99=int ws.length∧ρ 100=int i∧(∃ cs,H C=some ⟨9,[cs]⟩∧cs.length=9)∧H O=some ⟨10,ws.map (rowA b)⟩∧H W=some ⟨10,[rowA b (bestP ws[0] (ws.take i))]⟩∧Sep H n (cEnt ws) [W,O,C])
    ⟨by simp[r3],by simp[r13],by simp,by simp,by simp,mC,mO,by simpa[bestP] using mW,sp⟩ ?_)
   clear hk' r3 r4 r13 mC mO mW sp
   rintro i ρ H n hi ⟨r3,r13,r98,r99,r100,mC,mO,mW,sp⟩ IH
   have hbm:bestP ws[0] (ws.take i) ∈ ws:=by
    rcases bestP_mem ws[0] (ws.take i) with h | h
    ·rw[h];exact List.getElem_mem hne2
    ·exact List.mem_of_mem_take h
   refine Runs.seqE Ty_ok (by decide) fun k' hk'=>?_
   simp[r99,r100]
   apply hk'
   refine Runs.seq ?_
   refine Runs.ite rfl (fun hc2=>?_) (fun hc2=>?_)
   ·have hc2:i<ws.length:=by simpa using hc2
    refine Runs.skip ?_
    refine Runs.seq ?_
    refine Runs.block ?_
    have htk:bestP ws[0] (ws.take (i+1))=if cmpL ws[i].1.order (bestP ws[0] (ws.take i)).1.order<0 then ws[i] else bestP ws[0] (ws.take i):=by
     rw[← List.take_append_getElem hc2,bestP,List.foldl_append];rfl
    have hrow:(ws.map (rowA b))[i]?=some (rowA b ws[i]):=by rw[List.getElem?_map,List.getElem?_eq_getElem hc2];rfl
    have hci:=hco _ (List.getElem_mem hc2)
    have hcb:=hco _ hbm
    have hoi:=hoc _ (List.getElem_mem hc2)
    generalize hwi:ws[i]=w at htk hrow hci hoi
    generalize bestP ws[0] (ws.take i)=q at htk hcb mW hbm
    have hnV:∀ k ∈ [W,O,C],k ≠ (n,15):=fun k hk h=>by have:=sp.1 k hk;rw[h] at this;simp at this
    refine Runs.seqE Ty_ok (by decide) fun k' hk'=>?_
    simp[r98,r100,mO,hc2,hwi,rowA,cdE,Big.cells,encN,encI,encS,encW,hoi,-cellsA,-one1,cAx,o1x]
    apply hk'
    obtain⟨cs,mC,hcs⟩:=mC
    refine Runs.cut (fun ρ' H' n'=>ρ' 3 = .ptr C 1 0 0∧ρ' 13 = .ptr W 1 0 0∧ρ' 15 = .ptr (n,15) 1 0 0∧ρ' 98 = .arr O ws.length 0 ws.length∧ρ' 99=int ws.length∧ρ' 100=int i∧(∃ cs,H' C=some ⟨9,[cs]⟩∧cs.length=9)∧H' O=some ⟨10,ws.map (rowA b)⟩∧H' W=some ⟨10,[rowA b q]⟩∧H' (n,15)=some ⟨10,[rowA b w]⟩∧Sep H' n' (cEnt ws) [(n,15),W,O,C])
     ⟨by simp[r3],by simp[r13],by simp,by simp[r98],by simp[r99],by simp[r100],⟨cs,by rw[Heap.get_set_ne _ _ (hnV _ (by simp))];exact mC,hcs⟩,by rw[Heap.get_set_ne _ _ (hnV _ (by simp))];exact mO,by rw[Heap.get_set_ne _ _ (hnV _ (by simp))];exact mW,by simp[rowA,cdE,Big.cells,encN,encI,encS,encW],Sep.var sp⟩ ?_
    clear hk' r3 r13 r98 r99 r100 mC mO mW sp hcs
    clear cs
    generalize hVe:(n,15)=V at hnV
    clear hVe
    rintro ρ H n ⟨r3,r13,r15,r98,r99,r100,mC,mO,mW,mV,sp⟩
    refine Runs.seqE Ty_ok (by decide) fun k' hk'=>?_
    simp[r13,r15,mV,mW,rowA,cdE,Big.cells]
    refine RunK.callA Ty_ok (cmpZ_ok w.1.order q.1.order ⟨hci.2,hcb.2⟩) e146 (.cons (ArgOk.listF (fr:=true) (els:=w.1.order.map intC) (by simp[intC])) (.cons (ArgOk.listF (fr:=true) (els:=q.1.order.map intC) (by simp[intC])) .nil)) (by decide) (by decide) rfl (by simp) ?_
    rintro _ rfl
    simp
    apply hk'
    have hVW:W ≠ V:=hnV W (by simp)
    have hCW:C ≠ W:=fun h=>hnW C (by simp) h
    have hOW:O ≠ W:=fun h=>hnW O (by simp) h
    refine Runs.ite rfl (fun hc4=>?_) (fun hc4=>?_)
    ·have hc4:cmpL w.1.order q.1.order<0:=by simpa using hc4
     rw[if_pos hc4] at htk
     refine Runs.evalE Ty_ok (by decide) fun k' hk'=>?_
     simp[r13,r15,mV,mW,rowA,cdE,Big.cells,encN,encI,encS,encW,hoi,-cellsA,-one1,cAx,o1x]
     apply hk'
     refine Runs.inBlock ?_
     refine Runs.evalE Ty_ok (by decide) fun k' hk'=>?_
     have f2:=ib_add (show I64 ((i:Int)+1) by simp only[I64];omega) (show ((i+1:Nat):Int)=(i:Int)+1 by omega)
     simp[r100,f2,-intBin]
     apply hk'
     obtain⟨cs,mC,hcs⟩:=mC
     refine IH hc2 _ _ _ ⟨by simp[r3],by simp[r13],by simp[r98],by simp[r99],by simp,⟨cs,by rw[Heap.get_set_ne _ _ hCW];exact mC,hcs⟩,by rw[Heap.get_set_ne _ _ hOW];exact mO,by rw[htk];simp[rowA,cdE,Big.cells,encN,encI,encS,encW],?_⟩
     exact Sep.sub (Sep.setVar sp (by simp)) (by simp +contextual)
    ·have hc4:¬ cmpL w.1.order q.1.order<0:=by simpa using hc4
     rw[if_neg hc4] at htk
     refine Runs.skip ?_
     refine Runs.inBlock ?_
     refine Runs.evalE Ty_ok (by decide) fun k' hk'=>?_
     have f2:=ib_add (show I64 ((i:Int)+1) by simp only[I64];omega) (show ((i+1:Nat):Int)=(i:Int)+1 by omega)
     simp[r100,f2,-intBin]
     apply hk'
     exact IH hc2 _ _ _ ⟨by simp[r3],by simp[r13],by simp[r98],by simp[r99],by simp,mC,mO,by rw[htk];exact mW,Sep.sub sp (by simp +contextual)⟩
   ·have hc3:¬ i<ws.length:=by simpa using hc2
    have hc5:i=ws.length:=by omega
    subst hc5
    refine Runs.exit rfl ?_
    rw[List.take_length] at mW hbm
    have hbest:(bestP ws[0] ws).1=canonA b:=by
     rw[bestP_fst,hL3,canonA]
     congr 1
     have h1:0<(lastA b).length:=by rw[← hL3];simpa using hne2
     rw[show ((0:Int))=((0:Nat):Int) from rfl,at_lt h1]
     simp only[← hL3,List.getElem_map]
    generalize bestP ws[0] ws=q at mW hbm hbest
    refine Runs.seqD Ty_ok kindOp_ok draws (by decide) (by kernel_rfl) fun k' hk'=>?_
    have hoq:=hoc _ hbm
    obtain⟨cs,mC,hcs⟩:=mC
    have hCW:C ≠ W:=fun h=>hnW C (by simp) h
    simp[r3,r13,mW,mC,hcs,rowA,cdE,Big.cells,encN,encI,encS,encW,hoq,hCW,-cellsA,-one1,cAx,o1x]
    apply hk'
    have hdr:List.drop 9 cs=[]:=List.drop_of_length_le (by omega)
    refine Runs.res2 Ty_ok (v:=.list true (q.1.order.map intC)) (w:=.agg (cdE none b (.list true (q.1.s.es.map intC)) (.list true (q.1.s.pl.map intC)) q.2)) Tryz.func105 Tryz.results105 (by simp[resA]) (by simp[resA,r3,hdr,cdE,Big.cells,encN,encI,encS,encW]) (hQ _ _ _ ⟨q.2,hoq.1,by rw[← hbest]⟩)
theorem canonicalOrder_c {sig:Sig} {b:Big} (hv:ValidB sig b) (he:Even b) (hdn:Downs b):PureC Tryz.prog 105 [.agg (Big.cells false b)] (fun r=>∃ y0 y1 y2 y3 y4 y5 y6:Value,(one y0=true∧one y1=true∧one y2=true∧one y3=true∧one y4=true∧one y5=true∧one y6=true) ∧
  r = .tup [.list true ((canonA b).order.map intC),.agg [.v y0,.v y1,.v y2,.v y3,.v y4,.v y5,.list true ((canonA b).s.es.map intC),.list true ((canonA b).s.pl.map intC),.v y6]]):=by
 intro c xs hH hn g r
 refine (canonicalOrder_c0 hv he hdn c xs hH hn g r).mono ?_
 rintro e w' ⟨x,v,c',he,hw,⟨q,hq,rfl⟩,hrep,hg,hk⟩
 cases hrep with
 | tup _ vs hl h=>
  obtain⟨v0,v1,rfl⟩:∃ v0 v1,vs=[v0,v1]:=by
   match vs,hl with
   | [v0,v1],_=>exact⟨v0,v1,rfl⟩
  have h0:=h 0 _ v0 rfl rfl
  have h1:=h 1 _ v1 rfl rfl
  cases h1 with
  | agg _ us hl1 h1=>
   obtain⟨u0,u1,u2,u3,u4,u5,u6,u7,u8,rfl⟩:∃ u0 u1 u2 u3 u4 u5 u6 u7 u8,us=[u0,u1,u2,u3,u4,u5,u6,u7,u8]:=by
    match us,hl1 with
    | [u0,u1,u2,u3,u4,u5,u6,u7,u8],_=>exact⟨u0,u1,u2,u3,u4,u5,u6,u7,u8,rfl⟩
   have o:∀ (i:Nat) (a:AVal) (u:Value),(cdE none b (.list true ((canonA b).s.es.map intC)) (.list true ((canonA b).s.pl.map intC)) q)[i]?=some a→[u0,u1,u2,u3,u4,u5,u6,u7,u8][i]?=some u→Ab.one1 a=true→one u=true:=fun i a u ha hu h=>one_of (h1 i a u ha hu) h
   have o8:=one_of (h1 8 q u8 rfl rfl) hq
   have o0:=o 0 _ u0 rfl rfl rfl
   have o1:=o 1 _ u1 rfl rfl rfl
   have o2:=o 2 _ u2 rfl rfl rfl
   have o3:=o 3 _ u3 rfl rfl rfl
   have o4:=o 4 _ u4 rfl rfl rfl
   have o5:=o 5 _ u5 rfl rfl rfl
   have h6:=h1 6 _ u6 rfl rfl
   have h7:=h1 7 _ u7 rfl rfl
   refine⟨_,.tup [.list true ((canonA b).order.map intC),.agg [.v u0,.v u1,.v u2,.v u3,.v u4,.v u5,.list true ((canonA b).s.es.map intC),.list true ((canonA b).s.pl.map intC),.v u8]],c',he,hw,⟨_,?_,u0,u1,u2,u3,u4,u5,u8,⟨o0,o1,o2,o3,o4,o5,o8⟩,rfl⟩,?_,hg,hk⟩
   ·refine (ResOk.pts (by simp) fun i a c ha hc=>?_).2
    match i with
    | 0=>simp only[List.getElem?_cons_zero,Option.some.injEq] at ha hc;subst ha hc;exact ResOk.ints _ _ _
    | 1=>
     simp only[List.getElem?_cons_succ,List.getElem?_cons_zero,Option.some.injEq] at ha hc
     subst ha hc
     refine (ResOk.pts (by simp) fun i a c ha hc=>?_).1
     match i with
     | 0 | 1 | 2 | 3 | 4 | 5 | 8=>simp at ha hc;subst ha hc;exact ResOk.v _ _ _
     | 6=>simp only[List.getElem?_cons_succ,List.getElem?_cons_zero,Option.some.injEq] at ha hc;subst ha hc;exact ResOk.ints _ _ _
     | 7=>simp only[List.getElem?_cons_succ,List.getElem?_cons_zero,Option.some.injEq] at ha hc;subst ha hc;exact ResOk.ints _ _ _
     | i+9=>simp at hc
    | i+2=>simp at hc
   ·refine .tup _ _ (by simp) fun i a x ha hx=>?_
    match i with
    | 0=>simp only[List.getElem?_cons_zero,Option.some.injEq] at ha hx;subst ha hx;exact h0
    | 1=>
     simp only[List.getElem?_cons_succ,List.getElem?_cons_zero,Option.some.injEq] at ha hx
     subst ha hx
     refine .agg _ _ (by simp) fun i a x ha hx=>?_
     match i with
     | 0 | 1 | 2 | 3 | 4 | 5 | 8=>simp at ha hx;subst ha hx;exact .v _
     | 6=>simp only[List.getElem?_cons_succ,List.getElem?_cons_zero,Option.some.injEq] at ha hx;subst ha hx;exact h6
     | 7=>simp only[List.getElem?_cons_succ,List.getElem?_cons_zero,Option.some.injEq] at ha hx;subst ha hx;exact h7
     | i+9=>simp at hx
    | i+2=>simp at hx
end
end Go.Ab.Vg
/- Links' points, redexes: pure conditions of the functions of program and reference. -/
namespace Go.Ab.Vg
set_option linter.unusedSimpArgs false
set_option linter.unusedVariables false
def rowP (b:Big) (l:Int) (i k:Nat):List (Int × Int):=(idxs (at' b.nodes (i:Int)).links (fun x=>decide (x=l)) k).map fun z=>((i:Int),z)
def portsTo (b:Big) (l:Int) (i:Nat):List (Int × Int):=((List.range i).map fun j=>rowP b l j (at' b.nodes (j:Int)).links.length).flatten
def portsB (b:Big) (l:Int):List (Int × Int):=portsTo b l b.nodes.length
def endsB (b:Big) (l:Int):List Str:=(b.inner.filter fun w=>decide (w.link=l)).map (·.name)
abbrev l2Idle (b:Big) (l:Int):Bool:=decide ((portsB b l).length=0) && decide ((endsB b l).length=0)
-- spec.l2Idle is not in this seat
abbrev isIdle (b:Big) (l:Int):Bool:=l2Idle b l
-- (impl.Bigraph).isIdle is not in this seat
def OkPlace (b:Big) (p:Int):Prop:=¬ ((p<0∧((kidsB b p).length=0∨0<(holesB b p).length))∨1<(holesB b p).length)
def RedexP (b:Big):Prop:=b.inner.length=0∧b.roots ≠ 0∧(∀ p,-b.roots≤p→p<b.nodes.length→OkPlace b p)∧∀ l,0≤l→l<b.edges+b.outer.length→isIdle b l=false
open Classical in
noncomputable def redexB (b:Big):Bool:=decide (RedexP b)
end Go.Ab.Vg
/- Matches: pure conditions of the functions of program and reference. -/
namespace Go.Ab.Vg
set_option linter.unusedSimpArgs false
set_option linter.unusedVariables false
def hasI (l:List Int) (x:Int):Bool:=l.any fun y=>x == y
theorem hasI_iff {l:List Int} {x:Int}:hasI l x=true↔x ∈ l:=by simp[hasI]
theorem hasI_no {l:List Int} {x:Int}:hasI l x=false↔x ∉ l:=by rw[← hasI_iff];simp
def underF (b:Big) (nodes:List Int):Nat→Int→Bool
 | 0,_=>false
 | m+1,p=>if p<0 then false else if p ∈ nodes then true else underF b nodes m (at' b.nodes p).parent
def underB (b:Big) (nodes:List Int) (p:Int):Bool:=underF b nodes (p+1).toNat p
def imgAt (agent:Big) (nodes:List Int) (p:Int × Int):Int:=at' (at' agent.nodes (at' nodes p.1)).links p.2
def firstOf (agent:Big) (nodes:List Int) (l:List (Int × Int)):Int:=match l with | [] => -1 | p::_=>imgAt agent nodes p
abbrev firstL (redex agent:Big) (nodes:List Int) (l:Int):Int:=firstOf agent nodes (portsB redex l)
def LinkOk (redex agent:Big) (nodes:List Int) (l:Int):Prop:=(∀ p ∈ portsB redex l,imgAt agent nodes p=firstL redex agent nodes l)∧(l<redex.edges→firstL redex agent nodes l<agent.edges∧(portsB agent (firstL redex agent nodes l)).length=(portsB redex l).length)
def LinksP (redex agent:Big) (nodes:List Int):Prop:=∀ l:Int,0≤l→l<redex.edges+redex.outer.length→LinkOk redex agent nodes l
def parentImg (redex:Big) (m:Match) (k:Int):Int:=if 0≤(at' redex.nodes k).parent then at' m.nodes (at' redex.nodes k).parent else at' m.roots (-1 - (at' redex.nodes k).parent)
def ImgOk (redex agent:Big) (m:Match) (k:Int):Prop:=
 (at' agent.nodes (at' m.nodes k)).control=(at' redex.nodes k).control∧(at' agent.nodes (at' m.nodes k)).parent=parentImg redex m k∧((holesB redex k).length=0→∀ c ∈ kidsB agent (at' m.nodes k),c ∈ m.nodes)
def NodesOk (redex agent:Big) (nodes:List Int):Prop:=nodes.length=redex.nodes.length∧∀ i:Nat,i<nodes.length→isNodeB agent (at' nodes (i:Int))=true∧at' nodes (i:Int) ∉ nodes.take i
def RootsOk (redex agent:Big) (m:Match):Prop:=(m.roots.length:Int)=redex.roots∧∀ p ∈ m.roots,-agent.roots≤p∧p<agent.nodes.length∧underB agent m.nodes p=false
def MatchP (redex agent:Big) (m:Match):Prop:=NodesOk redex agent m.nodes∧RootsOk redex agent m∧(∀ k:Nat,k<redex.nodes.length→ImgOk redex agent m (k:Int))∧LinksP redex agent m.nodes
open Classical in
noncomputable def matchB (redex agent:Big) (m:Match):Bool:=decide (MatchP redex agent m)
end Go.Ab.Vg
/- Matches: pure conditions of the reference's functions. -/
namespace Go.Ab.Vg
set_option linter.unusedSimpArgs false
set_option linter.unusedVariables false
end Go.Ab.Vg
/- The conversion of bytes to a string; laws.markText. -/
namespace Go.Ab
set_option linter.unusedSimpArgs false
end Go.Ab
/- Contract of laws.markText. -/
namespace Go.Ab
open Go.Proofs
set_option linter.unusedSimpArgs false
end Go.Ab
/- The laws' own functions on bigraphs' types: copies, marks, and whether marks are held. -/
namespace Go.Ab.Vg
set_option linter.unusedSimpArgs false
set_option linter.unusedVariables false
theorem list_fill {α:Type} [Inhabited α] {a:List α} {k:Nat} (hk:k<a.length):(a.take k++List.replicate (a.length - k) default).set k a[k]=a.take (k+1)++List.replicate (a.length - (k+1)) default:=by
 rw[List.set_append_right _ _ (by simp;omega)]
 rw[List.take_succ_eq_append_getElem hk,List.append_assoc]
 congr 1
 have h1:a.length - k=(a.length - (k+1))+1:=by omega
 have h2:k - (a.take k).length=0:=by simp;omega
 rw[h1,h2,List.replicate_succ]
 rfl
abbrev filled {α:Type} [Inhabited α] (a:List α) (k:Nat):List α:=a.take k++List.replicate (a.length - k) default
theorem filled_len {α:Type} [Inhabited α] {a:List α} {k:Nat} (hk:k≤a.length):(filled a k).length=a.length:=by simp[filled];omega
theorem filled_set {α:Type} [Inhabited α] {a:List α} {k:Nat} (hk:k<a.length):(filled a k).set k (at' a (k:Int))=filled a (k+1):=by rw[at_lt hk];exact list_fill hk
theorem filled_end {α:Type} [Inhabited α] (a:List α):filled a a.length=a:=by simp[filled]
theorem filled_zero {α:Type} [Inhabited α] (a:List α):filled a 0=List.replicate a.length default:=by simp[filled]
abbrev toIntS (a:List Int):=a
abbrev toIntS_pre (a:List Int):Prop:=a.length≤1048576
def toIntS_wp (a:List Int) (Z:(List Int)→Prop):Prop:=
 ∀ len2:Int,len2=(a.length:Int)→(0≤len2∧len2≤1073741824)∧∀ l5:List Int,l5=List.replicate len2.toNat default→loopW (σ:=Int × (List Int)) (fun (i16,l17) K21=>∀ len22:Int,len22=(a.length:Int)→∀ c24:Bool,c24=decide (i16<len22)→((c24=true→(0≤i16∧i16<a.length)∧∀ x27:Int,x27=at' a i16→(0≤i16∧i16<l17.length)∧∀ x34:Int,x34=at' l17 i16→∀ l37:List Int,l37=l17.set i16.toNat x27→(I64 (i16+1))∧∀ v44:Int,v44=i16+1→K21 (v44,l37))∧(c24=false→Z l17))) (0,l5)
theorem toIntS_vc (a:List Int) (h:toIntS_pre a):toIntS_wp a (fun y=>y=toIntS a):=by
 unfold toIntS_wp
 simp only[toIntS_pre] at h
 simp only[forall_eq,Int.toNat_natCast]
 refine⟨by omega,loopW.upL a.length (fun k out=>out=filled a k) _ (filled_zero a).symm ?_⟩
 rintro k out K hk rfl IH
 have hl:=filled_len hk
 simp only[decide_eq_true_eq,decide_eq_false_iff_not,I64,Int.toNat_natCast]
 refine⟨fun h1=>⟨by omega,by omega,by omega,IH (by omega) _ (filled_set (by omega))⟩,fun h1=>?_⟩
 rw[show k=a.length by omega]
 exact filled_end a
abbrev toStringS (a:List Str):=a
abbrev toStringS_pre (a:List Str):Prop:=a.length≤1048576
def toStringS_wp (a:List Str) (Z:(List Str)→Prop):Prop:=
 ∀ len2:Int,len2=(a.length:Int)→(0≤len2∧len2≤1073741824)∧∀ l5:List Str,l5=List.replicate len2.toNat default→loopW (σ:=Int × (List Str)) (fun (i16,l17) K21=>∀ len22:Int,len22=(a.length:Int)→∀ c24:Bool,c24=decide (i16<len22)→((c24=true→(0≤i16∧i16<a.length)∧∀ x27:Str,x27=at' a i16→(0≤i16∧i16<l17.length)∧∀ x34:Str,x34=at' l17 i16→∀ l37:List Str,l37=l17.set i16.toNat x27→(I64 (i16+1))∧∀ v44:Int,v44=i16+1→K21 (v44,l37))∧(c24=false→Z l17))) (0,l5)
theorem toStringS_vc (a:List Str) (h:toStringS_pre a):toStringS_wp a (fun y=>y=toStringS a):=by
 unfold toStringS_wp
 simp only[toStringS_pre] at h
 simp only[forall_eq,Int.toNat_natCast]
 refine⟨by omega,loopW.upL a.length (fun k out=>out=filled a k) _ (filled_zero a).symm ?_⟩
 rintro k out K hk rfl IH
 have hl:=filled_len hk
 simp only[decide_eq_true_eq,decide_eq_false_iff_not,I64,Int.toNat_natCast]
 refine⟨fun h1=>⟨by omega,by omega,by omega,IH (by omega) _ (filled_set (by omega))⟩,fun h1=>?_⟩
 rw[show k=a.length by omega]
 exact filled_end a
abbrev toControl (a:Control):=a
def toControl_wp (a:Control) (Z:Control→Prop):Prop:=
 Z a
theorem toControl_vc (a:Control):toControl_wp a (fun y=>y=toControl a):=rfl
abbrev toControlS (a:List Control):=a
abbrev toControlS_pre (a:List Control):Prop:=a.length≤1048576
def toControlS_wp (a:List Control) (Z:(List Control)→Prop):Prop:=
 ∀ len2:Int,len2=(a.length:Int)→(0≤len2∧len2≤1073741824)∧∀ l5:List Control,l5=List.replicate len2.toNat default→loopW (σ:=Int × (List Control)) (fun (i16,l17) K21=>∀ len22:Int,len22=(a.length:Int)→∀ c24:Bool,c24=decide (i16<len22)→((c24=true→(0≤i16∧i16<a.length)∧∀ x27:Control,x27=at' a i16→∀ r29:Control,r29=toControl x27→(0≤i16∧i16<l17.length)∧∀ x35:Control,x35=at' l17 i16→∀ l38:List Control,l38=l17.set i16.toNat r29→(I64 (i16+1))∧∀ v45:Int,v45=i16+1→K21 (v45,l38))∧(c24=false→Z l17))) (0,l5)
theorem toControlS_vc (a:List Control) (h:toControlS_pre a):toControlS_wp a (fun y=>y=toControlS a):=by
 unfold toControlS_wp
 simp only[toControlS_pre] at h
 simp only[forall_eq,Int.toNat_natCast]
 refine⟨by omega,loopW.upL a.length (fun k out=>out=filled a k) _ (filled_zero a).symm ?_⟩
 rintro k out K hk rfl IH
 have hl:=filled_len hk
 simp only[decide_eq_true_eq,decide_eq_false_iff_not,I64,Int.toNat_natCast]
 refine⟨fun h1=>⟨by omega,by omega,by omega,IH (by omega) _ (filled_set (by omega))⟩,fun h1=>?_⟩
 rw[show k=a.length by omega]
 exact filled_end a
abbrev toWire (a:Wire):=a
def toWire_wp (a:Wire) (Z:Wire→Prop):Prop:=
 Z a
theorem toWire_vc (a:Wire):toWire_wp a (fun y=>y=toWire a):=rfl
abbrev toWireS (a:List Wire):=a
abbrev toWireS_pre (a:List Wire):Prop:=a.length≤1048576
def toWireS_wp (a:List Wire) (Z:(List Wire)→Prop):Prop:=
 ∀ len2:Int,len2=(a.length:Int)→(0≤len2∧len2≤1073741824)∧∀ l5:List Wire,l5=List.replicate len2.toNat default→loopW (σ:=Int × (List Wire)) (fun (i16,l17) K21=>∀ len22:Int,len22=(a.length:Int)→∀ c24:Bool,c24=decide (i16<len22)→((c24=true→(0≤i16∧i16<a.length)∧∀ x27:Wire,x27=at' a i16→∀ r29:Wire,r29=toWire x27→(0≤i16∧i16<l17.length)∧∀ x35:Wire,x35=at' l17 i16→∀ l38:List Wire,l38=l17.set i16.toNat r29→(I64 (i16+1))∧∀ v45:Int,v45=i16+1→K21 (v45,l38))∧(c24=false→Z l17))) (0,l5)
theorem toWireS_vc (a:List Wire) (h:toWireS_pre a):toWireS_wp a (fun y=>y=toWireS a):=by
 unfold toWireS_wp
 simp only[toWireS_pre] at h
 simp only[forall_eq,Int.toNat_natCast]
 refine⟨by omega,loopW.upL a.length (fun k out=>out=filled a k) _ (filled_zero a).symm ?_⟩
 rintro k out K hk rfl IH
 have hl:=filled_len hk
 simp only[decide_eq_true_eq,decide_eq_false_iff_not,I64,Int.toNat_natCast]
 refine⟨fun h1=>⟨by omega,by omega,by omega,IH (by omega) _ (filled_set (by omega))⟩,fun h1=>?_⟩
 rw[show k=a.length by omega]
 exact filled_end a
abbrev toNode (a:GNode):=a
abbrev toNode_pre (a:GNode):Prop:=a.links.length≤1048576
def toNode_wp (a:GNode) (Z:GNode→Prop):Prop:=
 (toIntS_pre a.links)∧∀ r10:List Int,r10=toIntS a.links→Z (GNode.mk a.control a.parent r10)
theorem toNode_vc (a:GNode) (h:toNode_pre a):toNode_wp a (fun y=>y=toNode a):=by
 unfold toNode_wp
 exact⟨h,by rintro _ rfl;rfl⟩
abbrev toNodeS (a:List GNode):=a
abbrev toNodeS_pre (a:List GNode):Prop:=a.length≤1048576∧∀ x ∈ a,x.links.length≤1048576
def toNodeS_wp (a:List GNode) (Z:(List GNode)→Prop):Prop:=
 ∀ len2:Int,len2=(a.length:Int)→(0≤len2∧len2≤1073741824)∧∀ l5:List GNode,l5=List.replicate len2.toNat default→loopW (σ:=Int × (List GNode)) (fun (i16,l17) K21=>∀ len22:Int,len22=(a.length:Int)→∀ c24:Bool,c24=decide (i16<len22)→((c24=true→(0≤i16∧i16<a.length)∧∀ x27:GNode,x27=at' a i16→(toNode_pre x27)∧∀ r30:GNode,r30=toNode x27→(0≤i16∧i16<l17.length)∧∀ x44:GNode,x44=at' l17 i16→∀ l63:List GNode,l63=l17.set i16.toNat r30→(I64 (i16+1))∧∀ v70:Int,v70=i16+1→K21 (v70,l63))∧(c24=false→Z l17))) (0,l5)
theorem toNodeS_vc (a:List GNode) (h:toNodeS_pre a):toNodeS_wp a (fun y=>y=toNodeS a):=by
 unfold toNodeS_wp
 obtain⟨h,h'⟩:=h
 simp only[forall_eq,Int.toNat_natCast]
 refine⟨by omega,loopW.upL a.length (fun k out=>out=filled a k) _ (filled_zero a).symm ?_⟩
 rintro k out K hk rfl IH
 have hl:=filled_len hk
 simp only[decide_eq_true_eq,decide_eq_false_iff_not,I64,Int.toNat_natCast]
 refine⟨fun h1=>⟨by omega,?_,by omega,by omega,IH (by omega) _ (filled_set (by omega))⟩,fun h1=>?_⟩
 ·rw[at_lt (show k<a.length by omega)]
  exact h' _ (List.getElem_mem _)
 ·rw[show k=a.length by omega]
  exact filled_end a
abbrev toBigraph (a:Big):=a
abbrev toBigraph_pre (a:Big):Prop:=(a.nodes.length≤1048576∧∀ x ∈ a.nodes,x.links.length≤1048576)∧a.sites.length≤1048576∧a.outer.length≤1048576∧a.inner.length≤1048576
def toBigraph_wp (a:Big) (Z:Big→Prop):Prop:=
 (toNodeS_pre a.nodes)∧∀ r9:List GNode,r9=toNodeS a.nodes→(toIntS_pre a.sites)∧∀ r21:List Int,r21=toIntS a.sites→(toStringS_pre a.outer)∧∀ r37:List Str,r37=toStringS a.outer→(toWireS_pre a.inner)∧∀ r51:List Wire,r51=toWireS a.inner→Z (Big.mk a.roots r9 r21 a.edges r37 r51)
theorem toBigraph_vc (a:Big) (h:toBigraph_pre a):toBigraph_wp a (fun y=>y=toBigraph a):=by
 unfold toBigraph_wp
 simp only[forall_eq]
 exact⟨h.1,h.2.1,h.2.2.1,h.2.2.2,trivial⟩
section
variable {α:Type} (g:α→Int→α) (c:Int) (l:List α) (k:Int)
end
end Go.Ab.Vg
/- Marks on nodes and bigraphs, told. -/
namespace Go.Ab.Vg
set_option linter.unusedSimpArgs false
set_option linter.unusedVariables false
section
variable {α:Type} (m:α→Int→α × Int)
end
end Go.Ab.Vg
/- Contracts of the laws' eq.. functions of bigraphs. By program. -/
namespace Go.Ab
open Go.Proofs
set_option linter.unusedSimpArgs false
theorem ArgOk.nodeB {H:Heap} {n:Nat} (t:Bool) (x:GNode):ArgOk H n (.agg (x.cells t)) (.agg (x.cells false)):=ArgOk.imm' (.agg _ (imm_node t x)) (by rw[old_agg,old_node])
theorem ArgOk.wireB {H:Heap} {n:Nat} (x:Wire):ArgOk H n (.agg x.cells) (.agg x.cells):=ArgOk.aggF (by simp[Wire.cells])
theorem ArgOk.ctlB {H:Heap} {n:Nat} (x:Control):ArgOk H n (.agg x.cells) (.agg x.cells):=ArgOk.aggF (by simp[Control.cells])
theorem e45:Ent Tryz.prog 45:=Ent.of Tryz.func45 (by kernel_rfl) rfl
theorem eqIntS_ok (p q:List (Int)) (hp:p.length≤1048576):PureC Tryz.prog 45 [.list false (p.map intC),.list false (q.map intC)] (fun r=>r=bool (decide (p=q))):=by
 refine PureC.of Tryz.func45 rfl Tryz.ntmps45 (by simp) fun Q hQ=>?_
 refine Runs.seqE Ty_ok (by decide) fun k' hk'=>?_
 simp   -- R0
 apply hk'
 refine Runs.seq ?_
 refine Runs.seqE Ty_ok (by decide) fun k' hk'=>?_
 simp   -- R1
 apply hk'
 refine Runs.ite rfl (fun hc1=>?_) (fun hc1=>?_)
 ·simp at hc1
  refine Runs.seqE Ty_ok (by decide) fun k' hk'=>?_
  simp   -- R2
  apply hk'
  refine Runs.ret Tryz.func45 (RetOk.one Tryz.results45) (hQ _ _ _ _ (.v _ _ _) ?_)
  have:p ≠ q:=by intro h;subst h;omega
  simp[this]
 ·simp at hc1
  have hlen:p.length=q.length:=by omega
  refine Runs.skip ?_
  refine Runs.seq ?_
  refine Runs.seqE Ty_ok (by decide) fun k' hk'=>?_
  simp   -- R3
  apply hk'
  refine Runs.block (Runs.loopUp p.length (fun k ρ H n=>ρ 0 = .list false (p.map intC)∧ρ 1 = .list false (q.map intC)∧ρ 5=int k∧p.take k=q.take k) ?_ ?_)
  ·simp
  ·rintro k ρ H n hk ⟨h0,h1,h5,heq⟩ IH
   refine Runs.seq ?_
   refine Runs.seqE Ty_ok (by decide) fun k' hk'=>?_
   simp [h0, h5]   -- R4
   apply hk'
   refine Runs.ite rfl (fun hc2=>?_) (fun hc2=>?_)
   ·simp at hc2
    have hq2:k<q.length:=by omega
    refine Runs.skip ?_
    refine Runs.seq ?_
    refine Runs.block ?_
    refine Runs.seqD Ty_ok kindOp_ok draws (by decide) (by kernel_rfl) fun k' hk'=>?_
    simp [h0, h1, h5, hc2, hq2, intC]   -- R6
    apply hk'
    refine Runs.ite rfl (fun hc3=>?_) (fun hc3=>?_)
    ·simp at hc3
     refine Runs.seqE Ty_ok (by decide) fun k' hk'=>?_
     simp   -- R7
     apply hk'
     refine Runs.ret Tryz.func45 (RetOk.one Tryz.results45) (hQ _ _ _ _ (.v _ _ _) ?_)
     have:p ≠ q:=by intro h;subst h;exact hc3 rfl
     simp[this]
    ·simp at hc3
     refine Runs.skip ?_
     refine Runs.inBlock ?_
     refine Runs.evalE Ty_ok (by decide) fun k' hk'=>?_
     simp [h5, wrap_succ (show k < 4611686018427387904 by omega)]   -- R5
     apply hk'
     refine IH hc2 _ _ _ ?_
     refine⟨by simp[h0,intC],by simp[h1,intC],by simp,?_⟩
     rw[List.take_succ_eq_append_getElem hc2,List.take_succ_eq_append_getElem hq2,heq,hc3]
   ·simp at hc2
    refine Runs.exit rfl ?_
    refine Runs.seqE Ty_ok (by decide) fun k' hk'=>?_
    simp   -- R8
    apply hk'
    refine Runs.ret Tryz.func45 (RetOk.one Tryz.results45) (hQ _ _ _ _ (.v _ _ _) ?_)
    rw[List.take_of_length_le hc2,List.take_of_length_le (by omega)] at heq
    simp[heq]
theorem e46:Ent Tryz.prog 46:=Ent.of Tryz.func46 (by kernel_rfl) rfl
theorem eqStringS_ok (p q:List (Str)) (hp:p.length≤1048576):PureC Tryz.prog 46 [.list false (p.map strC),.list false (q.map strC)] (fun r=>r=bool (decide (p=q))):=by
 refine PureC.of Tryz.func46 rfl Tryz.ntmps46 (by simp) fun Q hQ=>?_
 refine Runs.seqE Ty_ok (by decide) fun k' hk'=>?_
 simp   -- R0
 apply hk'
 refine Runs.seq ?_
 refine Runs.seqE Ty_ok (by decide) fun k' hk'=>?_
 simp   -- R1
 apply hk'
 refine Runs.ite rfl (fun hc1=>?_) (fun hc1=>?_)
 ·simp at hc1
  refine Runs.seqE Ty_ok (by decide) fun k' hk'=>?_
  simp   -- R2
  apply hk'
  refine Runs.ret Tryz.func46 (RetOk.one Tryz.results46) (hQ _ _ _ _ (.v _ _ _) ?_)
  have:p ≠ q:=by intro h;subst h;omega
  simp[this]
 ·simp at hc1
  have hlen:p.length=q.length:=by omega
  refine Runs.skip ?_
  refine Runs.seq ?_
  refine Runs.seqE Ty_ok (by decide) fun k' hk'=>?_
  simp   -- R3
  apply hk'
  refine Runs.block (Runs.loopUp p.length (fun k ρ H n=>ρ 0 = .list false (p.map strC)∧ρ 1 = .list false (q.map strC)∧ρ 5=int k∧p.take k=q.take k) ?_ ?_)
  ·simp
  ·rintro k ρ H n hk ⟨h0,h1,h5,heq⟩ IH
   refine Runs.seq ?_
   refine Runs.seqE Ty_ok (by decide) fun k' hk'=>?_
   simp [h0, h5]   -- R4
   apply hk'
   refine Runs.ite rfl (fun hc2=>?_) (fun hc2=>?_)
   ·simp at hc2
    have hq2:k<q.length:=by omega
    refine Runs.skip ?_
    refine Runs.seq ?_
    refine Runs.block ?_
    refine Runs.seqD Ty_ok kindOp_ok draws (by decide) (by kernel_rfl) fun k' hk'=>?_
    simp [h0, h1, h5, hc2, hq2, strC]   -- R6
    apply hk'
    refine Runs.ite rfl (fun hc3=>?_) (fun hc3=>?_)
    ·simp at hc3
     refine Runs.seqE Ty_ok (by decide) fun k' hk'=>?_
     simp   -- R7
     apply hk'
     refine Runs.ret Tryz.func46 (RetOk.one Tryz.results46) (hQ _ _ _ _ (.v _ _ _) ?_)
     have:p ≠ q:=by intro h;subst h;exact hc3 rfl
     simp[this]
    ·simp at hc3
     refine Runs.skip ?_
     refine Runs.inBlock ?_
     refine Runs.evalE Ty_ok (by decide) fun k' hk'=>?_
     simp [h5, wrap_succ (show k < 4611686018427387904 by omega)]   -- R5
     apply hk'
     refine IH hc2 _ _ _ ?_
     refine⟨by simp[h0,strC],by simp[h1,strC],by simp,?_⟩
     rw[List.take_succ_eq_append_getElem hc2,List.take_succ_eq_append_getElem hq2,heq,hc3]
   ·simp at hc2
    refine Runs.exit rfl ?_
    refine Runs.seqE Ty_ok (by decide) fun k' hk'=>?_
    simp   -- R8
    apply hk'
    refine Runs.ret Tryz.func46 (RetOk.one Tryz.results46) (hQ _ _ _ _ (.v _ _ _) ?_)
    rw[List.take_of_length_le hc2,List.take_of_length_le (by omega)] at heq
    simp[heq]
theorem e113:Ent Tryz.prog 113:=Ent.of Tryz.func113 (by kernel_rfl) rfl
theorem eqWire_ok (x y:Wire):PureC Tryz.prog 113 [.agg (Wire.cells x),.agg (Wire.cells y)] (fun r=>r=bool (decide (x=y))):=by
 obtain⟨x0,x1⟩:=x
 obtain⟨y0,y1⟩:=y
 refine PureC.of Tryz.func113 rfl Tryz.ntmps113 (by simp) fun Q hQ=>?_
 refine Runs.seqE Ty_ok (by decide) fun k' hk'=>?_
 simp [Wire.cells, encN, encI, encS, encW]   -- R0
 apply hk'
 refine Runs.seq ?_
 refine Runs.seqE Ty_ok (by decide) fun k' hk'=>?_
 simp
 apply hk'
 refine Runs.ite rfl (fun hc=>?_) (fun hd0=>?_)
 ·simp at hc
  refine Runs.seqE Ty_ok (by decide) fun k' hk'=>?_
  simp
  apply hk'
  exact Runs.ret Tryz.func113 (RetOk.one Tryz.results113) (hQ _ _ _ _ (.v _ _ _) (by simp[hc]))
 simp at hd0
 refine Runs.skip ?_
 refine Runs.seq ?_
 refine Runs.seqE Ty_ok (by decide) fun k' hk'=>?_
 simp
 apply hk'
 refine Runs.ite rfl (fun hc=>?_) (fun hd1=>?_)
 ·simp at hc
  refine Runs.seqE Ty_ok (by decide) fun k' hk'=>?_
  simp
  apply hk'
  exact Runs.ret Tryz.func113 (RetOk.one Tryz.results113) (hQ _ _ _ _ (.v _ _ _) (by simp[hc]))
 simp at hd1
 refine Runs.skip ?_
 refine Runs.seqE Ty_ok (by decide) fun k' hk'=>?_
 simp
 apply hk'
 exact Runs.ret Tryz.func113 (RetOk.one Tryz.results113) (hQ _ _ _ _ (.v _ _ _) (by simp[hd0,hd1]))
theorem e47:Ent Tryz.prog 47:=Ent.of Tryz.func47 (by kernel_rfl) rfl
theorem eqWireS_ok (p q:List (Wire)) (hp:p.length≤1048576):PureC Tryz.prog 47 [.list false (p.map Wire.cells),.list false (q.map Wire.cells)] (fun r=>r=bool (decide (p=q))):=by
 refine PureC.of Tryz.func47 rfl Tryz.ntmps47 (by simp) fun Q hQ=>?_
 refine Runs.seqE Ty_ok (by decide) fun k' hk'=>?_
 simp   -- R0
 apply hk'
 refine Runs.seq ?_
 refine Runs.seqE Ty_ok (by decide) fun k' hk'=>?_
 simp   -- R1
 apply hk'
 refine Runs.ite rfl (fun hc1=>?_) (fun hc1=>?_)
 ·simp at hc1
  refine Runs.seqE Ty_ok (by decide) fun k' hk'=>?_
  simp   -- R2
  apply hk'
  refine Runs.ret Tryz.func47 (RetOk.one Tryz.results47) (hQ _ _ _ _ (.v _ _ _) ?_)
  have:p ≠ q:=by intro h;subst h;omega
  simp[this]
 ·simp at hc1
  have hlen:p.length=q.length:=by omega
  refine Runs.skip ?_
  refine Runs.seq ?_
  refine Runs.seqE Ty_ok (by decide) fun k' hk'=>?_
  simp   -- R3
  apply hk'
  refine Runs.block (Runs.loopUp p.length (fun k ρ H n=>ρ 0 = .list false (p.map Wire.cells)∧ρ 1 = .list false (q.map Wire.cells)∧ρ 5=int k∧p.take k=q.take k) ?_ ?_)
  ·simp
  ·rintro k ρ H n hk ⟨h0,h1,h5,heq⟩ IH
   refine Runs.seq ?_
   refine Runs.seqE Ty_ok (by decide) fun k' hk'=>?_
   simp [h0, h5]   -- R4
   apply hk'
   refine Runs.ite rfl (fun hc2=>?_) (fun hc2=>?_)
   ·simp at hc2
    have hq2:k<q.length:=by omega
    refine Runs.skip ?_
    refine Runs.seq ?_
    refine Runs.block ?_
    refine Runs.seqD Ty_ok kindOp_ok draws (by decide) (by kernel_rfl) fun k' hk'=>?_
    simp [h0, h1, h5, hc2, hq2, Wire.cells]   -- R6
    refine RunDK.callA Ty_ok kindOp_ok (eqWire_ok p[k] q[k]) e113 (.cons (ArgOk.wireB p[k]) (.cons (ArgOk.wireB q[k]) .nil)) (by decide) rfl (by simp[Wire.cells]) ?_
    simp
    apply hk'
    refine Runs.ite rfl (fun hc3=>?_) (fun hc3=>?_)
    ·simp at hc3
     refine Runs.seqE Ty_ok (by decide) fun k' hk'=>?_
     simp   -- R7
     apply hk'
     refine Runs.ret Tryz.func47 (RetOk.one Tryz.results47) (hQ _ _ _ _ (.v _ _ _) ?_)
     have:p ≠ q:=by intro h;subst h;exact hc3 rfl
     simp[this]
    ·simp at hc3
     refine Runs.skip ?_
     refine Runs.inBlock ?_
     refine Runs.evalE Ty_ok (by decide) fun k' hk'=>?_
     simp [h5, wrap_succ (show k < 4611686018427387904 by omega)]   -- R5
     apply hk'
     refine IH hc2 _ _ _ ?_
     refine⟨by simp[h0,Wire.cells],by simp[h1,Wire.cells],by simp,?_⟩
     rw[List.take_succ_eq_append_getElem hc2,List.take_succ_eq_append_getElem hq2,heq,hc3]
   ·simp at hc2
    refine Runs.exit rfl ?_
    refine Runs.seqE Ty_ok (by decide) fun k' hk'=>?_
    simp   -- R8
    apply hk'
    refine Runs.ret Tryz.func47 (RetOk.one Tryz.results47) (hQ _ _ _ _ (.v _ _ _) ?_)
    rw[List.take_of_length_le hc2,List.take_of_length_le (by omega)] at heq
    simp[heq]
theorem e43:Ent Tryz.prog 43:=Ent.of Tryz.func43 (by kernel_rfl) rfl
theorem eqControl_ok (x y:Control):PureC Tryz.prog 43 [.agg (Control.cells x),.agg (Control.cells y)] (fun r=>r=bool (decide (x=y))):=by
 obtain⟨x0,x1,x2⟩:=x
 obtain⟨y0,y1,y2⟩:=y
 refine PureC.of Tryz.func43 rfl Tryz.ntmps43 (by simp) fun Q hQ=>?_
 refine Runs.seqE Ty_ok (by decide) fun k' hk'=>?_
 simp [Control.cells, encN, encI, encS, encW]   -- R0
 apply hk'
 refine Runs.seq ?_
 refine Runs.seqE Ty_ok (by decide) fun k' hk'=>?_
 simp
 apply hk'
 refine Runs.ite rfl (fun hc=>?_) (fun hd0=>?_)
 ·simp at hc
  refine Runs.seqE Ty_ok (by decide) fun k' hk'=>?_
  simp
  apply hk'
  exact Runs.ret Tryz.func43 (RetOk.one Tryz.results43) (hQ _ _ _ _ (.v _ _ _) (by simp[hc]))
 simp at hd0
 refine Runs.skip ?_
 refine Runs.seq ?_
 refine Runs.seqE Ty_ok (by decide) fun k' hk'=>?_
 simp
 apply hk'
 refine Runs.ite rfl (fun hc=>?_) (fun hd1=>?_)
 ·simp at hc
  refine Runs.seqE Ty_ok (by decide) fun k' hk'=>?_
  simp
  apply hk'
  exact Runs.ret Tryz.func43 (RetOk.one Tryz.results43) (hQ _ _ _ _ (.v _ _ _) (by simp[hc]))
 simp at hd1
 refine Runs.skip ?_
 refine Runs.seq ?_
 refine Runs.seqE Ty_ok (by decide) fun k' hk'=>?_
 simp
 apply hk'
 refine Runs.ite rfl (fun hc=>?_) (fun hd2=>?_)
 ·simp at hc
  refine Runs.seqE Ty_ok (by decide) fun k' hk'=>?_
  simp
  apply hk'
  exact Runs.ret Tryz.func43 (RetOk.one Tryz.results43) (hQ _ _ _ _ (.v _ _ _) (by simp[hc]))
 simp at hd2
 refine Runs.skip ?_
 refine Runs.seqE Ty_ok (by decide) fun k' hk'=>?_
 simp
 apply hk'
 exact Runs.ret Tryz.func43 (RetOk.one Tryz.results43) (hQ _ _ _ _ (.v _ _ _) (by simp[hd0,hd1,hd2]))
theorem e13:Ent Tryz.prog 13:=Ent.of Tryz.func13 (by kernel_rfl) rfl
theorem eqControlS_ok (p q:List (Control)) (hp:p.length≤1048576):PureC Tryz.prog 13 [.list false (p.map Control.cells),.list false (q.map Control.cells)] (fun r=>r=bool (decide (p=q))):=by
 refine PureC.of Tryz.func13 rfl Tryz.ntmps13 (by simp) fun Q hQ=>?_
 refine Runs.seqE Ty_ok (by decide) fun k' hk'=>?_
 simp   -- R0
 apply hk'
 refine Runs.seq ?_
 refine Runs.seqE Ty_ok (by decide) fun k' hk'=>?_
 simp   -- R1
 apply hk'
 refine Runs.ite rfl (fun hc1=>?_) (fun hc1=>?_)
 ·simp at hc1
  refine Runs.seqE Ty_ok (by decide) fun k' hk'=>?_
  simp   -- R2
  apply hk'
  refine Runs.ret Tryz.func13 (RetOk.one Tryz.results13) (hQ _ _ _ _ (.v _ _ _) ?_)
  have:p ≠ q:=by intro h;subst h;omega
  simp[this]
 ·simp at hc1
  have hlen:p.length=q.length:=by omega
  refine Runs.skip ?_
  refine Runs.seq ?_
  refine Runs.seqE Ty_ok (by decide) fun k' hk'=>?_
  simp   -- R3
  apply hk'
  refine Runs.block (Runs.loopUp p.length (fun k ρ H n=>ρ 0 = .list false (p.map Control.cells)∧ρ 1 = .list false (q.map Control.cells)∧ρ 5=int k∧p.take k=q.take k) ?_ ?_)
  ·simp
  ·rintro k ρ H n hk ⟨h0,h1,h5,heq⟩ IH
   refine Runs.seq ?_
   refine Runs.seqE Ty_ok (by decide) fun k' hk'=>?_
   simp [h0, h5]   -- R4
   apply hk'
   refine Runs.ite rfl (fun hc2=>?_) (fun hc2=>?_)
   ·simp at hc2
    have hq2:k<q.length:=by omega
    refine Runs.skip ?_
    refine Runs.seq ?_
    refine Runs.block ?_
    refine Runs.seqD Ty_ok kindOp_ok draws (by decide) (by kernel_rfl) fun k' hk'=>?_
    simp [h0, h1, h5, hc2, hq2, Control.cells]   -- R6
    refine RunDK.callA Ty_ok kindOp_ok (eqControl_ok p[k] q[k]) e43 (.cons (ArgOk.ctlB p[k]) (.cons (ArgOk.ctlB q[k]) .nil)) (by decide) rfl (by simp[Control.cells]) ?_
    simp
    apply hk'
    refine Runs.ite rfl (fun hc3=>?_) (fun hc3=>?_)
    ·simp at hc3
     refine Runs.seqE Ty_ok (by decide) fun k' hk'=>?_
     simp   -- R7
     apply hk'
     refine Runs.ret Tryz.func13 (RetOk.one Tryz.results13) (hQ _ _ _ _ (.v _ _ _) ?_)
     have:p ≠ q:=by intro h;subst h;exact hc3 rfl
     simp[this]
    ·simp at hc3
     refine Runs.skip ?_
     refine Runs.inBlock ?_
     refine Runs.evalE Ty_ok (by decide) fun k' hk'=>?_
     simp [h5, wrap_succ (show k < 4611686018427387904 by omega)]   -- R5
     apply hk'
     refine IH hc2 _ _ _ ?_
     refine⟨by simp[h0,Control.cells],by simp[h1,Control.cells],by simp,?_⟩
     rw[List.take_succ_eq_append_getElem hc2,List.take_succ_eq_append_getElem hq2,heq,hc3]
   ·simp at hc2
    refine Runs.exit rfl ?_
    refine Runs.seqE Ty_ok (by decide) fun k' hk'=>?_
    simp   -- R8
    apply hk'
    refine Runs.ret Tryz.func13 (RetOk.one Tryz.results13) (hQ _ _ _ _ (.v _ _ _) ?_)
    rw[List.take_of_length_le hc2,List.take_of_length_le (by omega)] at heq
    simp[heq]
theorem e112:Ent Tryz.prog 112:=Ent.of Tryz.func112 (by kernel_rfl) rfl
theorem eqNode_ok (x y:GNode) (hl:x.links.length≤1048576):PureC Tryz.prog 112 [.agg (GNode.cells false x),.agg (GNode.cells false y)] (fun r=>r=bool (decide (x=y))):=by
 obtain⟨x0,x1,x2⟩:=x
 obtain⟨y0,y1,y2⟩:=y
 refine PureC.of Tryz.func112 rfl Tryz.ntmps112 (by simp) fun Q hQ=>?_
 refine Runs.seqE Ty_ok (by decide) fun k' hk'=>?_
 simp [GNode.cells, encN, encI, encS, encW]   -- R0
 apply hk'
 refine Runs.seq ?_
 refine Runs.seqE Ty_ok (by decide) fun k' hk'=>?_
 simp
 apply hk'
 refine Runs.ite rfl (fun hc=>?_) (fun hd0=>?_)
 ·simp at hc
  refine Runs.seqE Ty_ok (by decide) fun k' hk'=>?_
  simp
  apply hk'
  exact Runs.ret Tryz.func112 (RetOk.one Tryz.results112) (hQ _ _ _ _ (.v _ _ _) (by simp[hc]))
 simp at hd0
 refine Runs.skip ?_
 refine Runs.seq ?_
 refine Runs.seqE Ty_ok (by decide) fun k' hk'=>?_
 simp
 apply hk'
 refine Runs.ite rfl (fun hc=>?_) (fun hd1=>?_)
 ·simp at hc
  refine Runs.seqE Ty_ok (by decide) fun k' hk'=>?_
  simp
  apply hk'
  exact Runs.ret Tryz.func112 (RetOk.one Tryz.results112) (hQ _ _ _ _ (.v _ _ _) (by simp[hc]))
 simp at hd1
 refine Runs.skip ?_
 refine Runs.seq ?_
 refine Runs.seqE Ty_ok (by decide) fun k' hk'=>?_
 simp
 refine RunK.callA Ty_ok (eqIntS_ok x2 y2 hl) e45 (.cons (ArgOk.encI false x2) (.cons (ArgOk.encI false y2) .nil)) (by decide) (by decide) rfl (by simp[encN,encI,encS,encW]) ?_
 rintro _ rfl
 simp
 apply hk'
 refine Runs.ite rfl (fun hc=>?_) (fun hd2=>?_)
 ·simp at hc
  refine Runs.seqE Ty_ok (by decide) fun k' hk'=>?_
  simp
  apply hk'
  exact Runs.ret Tryz.func112 (RetOk.one Tryz.results112) (hQ _ _ _ _ (.v _ _ _) (by simp[hc]))
 simp at hd2
 refine Runs.skip ?_
 refine Runs.seqE Ty_ok (by decide) fun k' hk'=>?_
 simp
 apply hk'
 exact Runs.ret Tryz.func112 (RetOk.one Tryz.results112) (hQ _ _ _ _ (.v _ _ _) (by simp[hd0,hd1,hd2]))
theorem e44:Ent Tryz.prog 44:=Ent.of Tryz.func44 (by kernel_rfl) rfl
theorem eqNodeS_ok (p q:List (GNode)) (hp:p.length≤1048576) (hl:∀ x ∈ p,x.links.length≤1048576):PureC Tryz.prog 44 [.list false (p.map (GNode.cells false)),.list false (q.map (GNode.cells false))] (fun r=>r=bool (decide (p=q))):=by
 refine PureC.of Tryz.func44 rfl Tryz.ntmps44 (by simp) fun Q hQ=>?_
 refine Runs.seqE Ty_ok (by decide) fun k' hk'=>?_
 simp   -- R0
 apply hk'
 refine Runs.seq ?_
 refine Runs.seqE Ty_ok (by decide) fun k' hk'=>?_
 simp   -- R1
 apply hk'
 refine Runs.ite rfl (fun hc1=>?_) (fun hc1=>?_)
 ·simp at hc1
  refine Runs.seqE Ty_ok (by decide) fun k' hk'=>?_
  simp   -- R2
  apply hk'
  refine Runs.ret Tryz.func44 (RetOk.one Tryz.results44) (hQ _ _ _ _ (.v _ _ _) ?_)
  have:p ≠ q:=by intro h;subst h;omega
  simp[this]
 ·simp at hc1
  have hlen:p.length=q.length:=by omega
  refine Runs.skip ?_
  refine Runs.seq ?_
  refine Runs.seqE Ty_ok (by decide) fun k' hk'=>?_
  simp   -- R3
  apply hk'
  refine Runs.block (Runs.loopUp p.length (fun k ρ H n=>ρ 0 = .list false (p.map (GNode.cells false))∧ρ 1 = .list false (q.map (GNode.cells false))∧ρ 5=int k∧p.take k=q.take k) ?_ ?_)
  ·simp
  ·rintro k ρ H n hk ⟨h0,h1,h5,heq⟩ IH
   refine Runs.seq ?_
   refine Runs.seqE Ty_ok (by decide) fun k' hk'=>?_
   simp [h0, h5]   -- R4
   apply hk'
   refine Runs.ite rfl (fun hc2=>?_) (fun hc2=>?_)
   ·simp at hc2
    have hq2:k<q.length:=by omega
    refine Runs.skip ?_
    refine Runs.seq ?_
    refine Runs.block ?_
    refine Runs.seqD Ty_ok kindOp_ok draws (by decide) (by kernel_rfl) fun k' hk'=>?_
    simp [h0, h1, h5, hc2, hq2, GNode.cells]   -- R6
    refine RunDK.callA Ty_ok kindOp_ok (eqNode_ok p[k] q[k] (hl _ (List.getElem_mem hc2))) e112 (.cons (ArgOk.nodeB false p[k]) (.cons (ArgOk.nodeB false q[k]) .nil)) (by decide) rfl (by simp[GNode.cells]) ?_
    simp
    apply hk'
    refine Runs.ite rfl (fun hc3=>?_) (fun hc3=>?_)
    ·simp at hc3
     refine Runs.seqE Ty_ok (by decide) fun k' hk'=>?_
     simp   -- R7
     apply hk'
     refine Runs.ret Tryz.func44 (RetOk.one Tryz.results44) (hQ _ _ _ _ (.v _ _ _) ?_)
     have:p ≠ q:=by intro h;subst h;exact hc3 rfl
     simp[this]
    ·simp at hc3
     refine Runs.skip ?_
     refine Runs.inBlock ?_
     refine Runs.evalE Ty_ok (by decide) fun k' hk'=>?_
     simp [h5, wrap_succ (show k < 4611686018427387904 by omega)]   -- R5
     apply hk'
     refine IH hc2 _ _ _ ?_
     refine⟨by simp[h0,GNode.cells],by simp[h1,GNode.cells],by simp,?_⟩
     rw[List.take_succ_eq_append_getElem hc2,List.take_succ_eq_append_getElem hq2,heq,hc3]
   ·simp at hc2
    refine Runs.exit rfl ?_
    refine Runs.seqE Ty_ok (by decide) fun k' hk'=>?_
    simp   -- R8
    apply hk'
    refine Runs.ret Tryz.func44 (RetOk.one Tryz.results44) (hQ _ _ _ _ (.v _ _ _) ?_)
    rw[List.take_of_length_le hc2,List.take_of_length_le (by omega)] at heq
    simp[heq]
theorem e14:Ent Tryz.prog 14:=Ent.of Tryz.func14 (by kernel_rfl) rfl
theorem eqBigraph_ok (x y:Big) (hb:x.nodes.length≤1048576∧(∀ z ∈ x.nodes,z.links.length≤1048576)∧x.sites.length≤1048576∧x.outer.length≤1048576∧x.inner.length≤1048576):PureC Tryz.prog 14 [.agg (Big.cells false x),.agg (Big.cells false y)] (fun r=>r=bool (decide (x=y))):=by
 obtain⟨x0,x1,x2,x3,x4,x5⟩:=x
 obtain⟨y0,y1,y2,y3,y4,y5⟩:=y
 refine PureC.of Tryz.func14 rfl Tryz.ntmps14 (by simp) fun Q hQ=>?_
 refine Runs.seqE Ty_ok (by decide) fun k' hk'=>?_
 simp [Big.cells, encN, encI, encS, encW]   -- R0
 apply hk'
 refine Runs.seq ?_
 refine Runs.seqE Ty_ok (by decide) fun k' hk'=>?_
 simp
 apply hk'
 refine Runs.ite rfl (fun hc=>?_) (fun hd0=>?_)
 ·simp at hc
  refine Runs.seqE Ty_ok (by decide) fun k' hk'=>?_
  simp
  apply hk'
  exact Runs.ret Tryz.func14 (RetOk.one Tryz.results14) (hQ _ _ _ _ (.v _ _ _) (by simp[hc]))
 simp at hd0
 refine Runs.skip ?_
 refine Runs.seq ?_
 refine Runs.seqE Ty_ok (by decide) fun k' hk'=>?_
 simp
 refine RunK.callA Ty_ok (eqNodeS_ok x1 y1 hb.1 hb.2.1) e44 (.cons (ArgOk.encN false x1) (.cons (ArgOk.encN false y1) .nil)) (by decide) (by decide) rfl (by simp[encN,encI,encS,encW]) ?_
 rintro _ rfl
 simp
 apply hk'
 refine Runs.ite rfl (fun hc=>?_) (fun hd1=>?_)
 ·simp at hc
  refine Runs.seqE Ty_ok (by decide) fun k' hk'=>?_
  simp
  apply hk'
  exact Runs.ret Tryz.func14 (RetOk.one Tryz.results14) (hQ _ _ _ _ (.v _ _ _) (by simp[hc]))
 simp at hd1
 refine Runs.skip ?_
 refine Runs.seq ?_
 refine Runs.seqE Ty_ok (by decide) fun k' hk'=>?_
 simp
 refine RunK.callA Ty_ok (eqIntS_ok x2 y2 hb.2.2.1) e45 (.cons (ArgOk.encI false x2) (.cons (ArgOk.encI false y2) .nil)) (by decide) (by decide) rfl (by simp[encN,encI,encS,encW]) ?_
 rintro _ rfl
 simp
 apply hk'
 refine Runs.ite rfl (fun hc=>?_) (fun hd2=>?_)
 ·simp at hc
  refine Runs.seqE Ty_ok (by decide) fun k' hk'=>?_
  simp
  apply hk'
  exact Runs.ret Tryz.func14 (RetOk.one Tryz.results14) (hQ _ _ _ _ (.v _ _ _) (by simp[hc]))
 simp at hd2
 refine Runs.skip ?_
 refine Runs.seq ?_
 refine Runs.seqE Ty_ok (by decide) fun k' hk'=>?_
 simp
 apply hk'
 refine Runs.ite rfl (fun hc=>?_) (fun hd3=>?_)
 ·simp at hc
  refine Runs.seqE Ty_ok (by decide) fun k' hk'=>?_
  simp
  apply hk'
  exact Runs.ret Tryz.func14 (RetOk.one Tryz.results14) (hQ _ _ _ _ (.v _ _ _) (by simp[hc]))
 simp at hd3
 refine Runs.skip ?_
 refine Runs.seq ?_
 refine Runs.seqE Ty_ok (by decide) fun k' hk'=>?_
 simp
 refine RunK.callA Ty_ok (eqStringS_ok x4 y4 hb.2.2.2.1) e46 (.cons (ArgOk.encS false x4) (.cons (ArgOk.encS false y4) .nil)) (by decide) (by decide) rfl (by simp[encN,encI,encS,encW]) ?_
 rintro _ rfl
 simp
 apply hk'
 refine Runs.ite rfl (fun hc=>?_) (fun hd4=>?_)
 ·simp at hc
  refine Runs.seqE Ty_ok (by decide) fun k' hk'=>?_
  simp
  apply hk'
  exact Runs.ret Tryz.func14 (RetOk.one Tryz.results14) (hQ _ _ _ _ (.v _ _ _) (by simp[hc]))
 simp at hd4
 refine Runs.skip ?_
 refine Runs.seq ?_
 refine Runs.seqE Ty_ok (by decide) fun k' hk'=>?_
 simp
 refine RunK.callA Ty_ok (eqWireS_ok x5 y5 hb.2.2.2.2) e47 (.cons (ArgOk.encW false x5) (.cons (ArgOk.encW false y5) .nil)) (by decide) (by decide) rfl (by simp[encN,encI,encS,encW]) ?_
 rintro _ rfl
 simp
 apply hk'
 refine Runs.ite rfl (fun hc=>?_) (fun hd5=>?_)
 ·simp at hc
  refine Runs.seqE Ty_ok (by decide) fun k' hk'=>?_
  simp
  apply hk'
  exact Runs.ret Tryz.func14 (RetOk.one Tryz.results14) (hQ _ _ _ _ (.v _ _ _) (by simp[hc]))
 simp at hd5
 refine Runs.skip ?_
 refine Runs.seqE Ty_ok (by decide) fun k' hk'=>?_
 simp
 apply hk'
 exact Runs.ret Tryz.func14 (RetOk.one Tryz.results14) (hQ _ _ _ _ (.v _ _ _) (by simp[hd0,hd1,hd2,hd3,hd4,hd5]))
end Go.Ab
/- Contracts of the laws' to.. functions of bigraphs' slices. By program. -/
namespace Go.Ab
open Go.Proofs
set_option linter.unusedSimpArgs false
theorem e37:Ent Tryz.prog 37:=Ent.of Tryz.func37 (by kernel_rfl) rfl
theorem toIntS_ok (p:List (Int)) (hp:p.length≤1048576):PureC Tryz.prog 37 [.list false (p.map intC)] (fun r=>r = .list true (p.map intC)):=by
 refine PureC.of Tryz.func37 rfl Tryz.ntmps37 (by simp) fun Q hQ=>?_
 refine Runs.seqE Ty_ok (by decide) fun k' hk'=>?_
 simp   -- R0
 apply hk'
 refine Runs.seqE Ty_ok (by decide) fun k' hk'=>?_
 simp [show (p.length : Int) ≤ 1073741824 by omega]   -- R1
 apply hk'
 refine Runs.seq ?_
 refine Runs.seqE Ty_ok (by decide) fun k' hk'=>?_
 simp   -- R2
 apply hk'
 refine Runs.block (Runs.loopUp p.length (fun k ρ H n=>ρ 0 = .list false (p.map intC)∧ρ 4=int k∧ρ 3 = .arr (0,7) p.length 0 p.length∧H (0,7)=some ⟨1,part intC [int 0] p k⟩) ?_ ?_)
 ·simp[intC,part_zero]
 ·rintro k ρ H n hk ⟨h0,h4,h3,hH⟩ IH
  refine Runs.seq ?_
  refine Runs.seqE Ty_ok (by decide) fun k' hk'=>?_
  simp [h0, h4]   -- R3
  apply hk'
  refine Runs.ite rfl (fun hc1=>?_) (fun hc1=>?_)
  ·simp at hc1
   refine Runs.skip ?_
   refine Runs.seq ?_
   refine Runs.block ?_
   refine Runs.evalE Ty_ok (by decide) fun k' hk'=>?_
   simp [h0, h3, h4, hH, hc1, part_len hk, part_get hc1, intC]   -- R5
   apply hk'
   refine Runs.inBlock ?_
   refine Runs.evalE Ty_ok (by decide) fun k' hk'=>?_
   simp [h4, wrap_succ (show k < 4611686018427387904 by omega)]   -- R4
   apply hk'
   refine IH hc1 _ _ _ ?_
   rw[← part_set hc1]
   simp[h0,h3,intC,part_get' hc1]
  ·simp at hc1
   have hke:k=p.length:=by omega
   subst hke
   rw[part_end] at hH
   refine Runs.exit rfl ?_
   refine Runs.seqE Ty_ok (by decide) fun k' hk'=>?_
   simp [h3]   -- R6
   apply hk'
   exact Runs.ret Tryz.func37 (RetOk.one Tryz.results37) (hQ _ _ _ _ (.of (Ret.arrF (by simp[hH];rfl) (by simp[intC,intC]))) rfl)
theorem e38:Ent Tryz.prog 38:=Ent.of Tryz.func38 (by kernel_rfl) rfl
theorem toStringS_ok (p:List (Str)) (hp:p.length≤1048576):PureC Tryz.prog 38 [.list false (p.map strC)] (fun r=>r = .list true (p.map strC)):=by
 refine PureC.of Tryz.func38 rfl Tryz.ntmps38 (by simp) fun Q hQ=>?_
 refine Runs.seqE Ty_ok (by decide) fun k' hk'=>?_
 simp   -- R0
 apply hk'
 refine Runs.seqE Ty_ok (by decide) fun k' hk'=>?_
 simp [show (p.length : Int) ≤ 1073741824 by omega]   -- R1
 apply hk'
 refine Runs.seq ?_
 refine Runs.seqE Ty_ok (by decide) fun k' hk'=>?_
 simp   -- R2
 apply hk'
 refine Runs.block (Runs.loopUp p.length (fun k ρ H n=>ρ 0 = .list false (p.map strC)∧ρ 4=int k∧ρ 3 = .arr (0,7) p.length 0 p.length∧H (0,7)=some ⟨1,part strC [str []] p k⟩) ?_ ?_)
 ·simp[strC,part_zero]
 ·rintro k ρ H n hk ⟨h0,h4,h3,hH⟩ IH
  refine Runs.seq ?_
  refine Runs.seqE Ty_ok (by decide) fun k' hk'=>?_
  simp [h0, h4]   -- R3
  apply hk'
  refine Runs.ite rfl (fun hc1=>?_) (fun hc1=>?_)
  ·simp at hc1
   refine Runs.skip ?_
   refine Runs.seq ?_
   refine Runs.block ?_
   refine Runs.evalE Ty_ok (by decide) fun k' hk'=>?_
   simp [h0, h3, h4, hH, hc1, part_len hk, part_get hc1, strC]   -- R5
   apply hk'
   refine Runs.inBlock ?_
   refine Runs.evalE Ty_ok (by decide) fun k' hk'=>?_
   simp [h4, wrap_succ (show k < 4611686018427387904 by omega)]   -- R4
   apply hk'
   refine IH hc1 _ _ _ ?_
   rw[← part_set hc1]
   simp[h0,h3,strC,part_get' hc1]
  ·simp at hc1
   have hke:k=p.length:=by omega
   subst hke
   rw[part_end] at hH
   refine Runs.exit rfl ?_
   refine Runs.seqE Ty_ok (by decide) fun k' hk'=>?_
   simp [h3]   -- R6
   apply hk'
   exact Runs.ret Tryz.func38 (RetOk.one Tryz.results38) (hQ _ _ _ _ (.of (Ret.arrF (by simp[hH];rfl) (by simp[strC,intC]))) rfl)
end Go.Ab
