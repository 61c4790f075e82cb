/- Merged texts (3 of 16) of the proof that ends in Kyy: Sp Sq Sr Ss Sv Sw Sk Tg. -/
import Derived.Test.YtkgmflihalaheaaGreatDoorAbQky2
import Derived.Lib.LaidTab
import Derived.Lib.ItoaNum
import Derived.Stop.LaidErr
import Derived.MakeChecks
set_option linter.unusedSectionVars false
set_option linter.unusedSimpArgs false
set_option linter.unusedVariables false
namespace Go.Ab
variable [Inhabited cD]
inductive Sh where
 | c
 | s (l:List Sh)
 | a (l:List Sh)
 | t (l:List Sh)
def bE (R:List I->List I->List Id->Prop):List (List I)->List (List I)->List Id->Prop
 | [],[],T=>T=[]
 | e::es,f::fs,T=>∃ T1 T2,R e f T1/\bE R es fs T2/\T=T1++T2/\∀ i ∈ T1,i ∉ T2
 | _,_,_=>False
mutual
def Tr (H:Heap):Sh->I->I->List Id->Prop
 | .c,a,b,S=>a=b/\bV a/\S=[]
 | .s l,a,b,S=>(a = .v (.slice none 0 0)/\b = .list true []/\S=[])\/∃ id els es T,a = .arr id els.length 0 els.length/\b = .list true es/\H id=some ⟨l.length,els⟩/\bE (Row H l) els es T/\id ∉ T/\S=id::T
 | .a l,a,b,S=>∃ as1 bs,a = .agg as1/\b = .agg bs/\Row H l as1 bs S
 | .t l,a,b,S=>∃ as1 bs,a = .tup as1/\b = .tup bs/\Row H l as1 bs S
def Row (H:Heap):List Sh->List I->List I->List Id->Prop
 | [],[],[],S=>S=[]
 | h::l,a::as1,b::bs,S=>∃ S1 S2,Tr H h a b S1/\Row H l as1 bs S2/\S=S1++S2/\∀ i ∈ S1,i ∉ S2
 | _,_,_,_=>False
end
section
variable {R R':List I->List I->List Id->Prop}
theorem bE.mono:∀ {as1 bs:List (List I)} {S:List Id},bE R as1 bs S->(∀ (e f:List I) (T:List Id),R e f T->(∀ i ∈ T,i ∈ S)->R' e f T)->bE R' as1 bs S
 | [],[],_,h,_=>h
 | _::_,_::_,_,⟨T1,T2,h1,h2,h3,h4⟩,hm=>⟨T1,T2,hm _ _ _ h1 (fun i hi=>by simp[h3,hi]),bE.mono h2 (fun e f T h hs=>hm e f T h fun i hi=>by simp[h3,hs i hi]),h3,h4⟩
 | [],_::_,_,h,_=>h.elim
 | _::_,[],_,h,_=>h.elim
theorem bE.len:∀ {as1 bs:List (List I)} {S:List Id},bE R as1 bs S->as1.length=bs.length
 | [],[],_,_=>rfl
 | _::_,_::_,_,⟨_,_,_,h2,_,_⟩=>by simp[h2.len]
 | [],_::_,_,h=>h.elim
 | _::_,[],_,h=>h.elim
theorem bE.append:∀ {as1 bs cs ds:List (List I)} {S T:List Id},bE R as1 bs S->bE R cs ds T->(∀ i ∈ S,i ∉ T)->bE R (as1++cs) (bs++ds) (S++T)
 | [],[],_,_,_,_,h,k,_=>by rw[show _=[] from h];exact k
 | _::_,_::_,_,_,_,T,⟨T1,T2,h1,h2,h3,h4⟩,k,hd=>by
  subst h3;refine⟨T1,T2++T,h1,bE.append h2 k (fun i hi=>hd i (by simp[hi])),by simp,fun i hi hm=>?_⟩;rcases List.mem_append.1 hm with hm | hm
  ·exact h4 i hi hm
  ·exact hd i (by simp[hi]) hm
 | [],_::_,_,_,_,_,h,_,_=>h.elim
 | _::_,[],_,_,_,_,h,_,_=>h.elim
theorem bE.at:∀ {as1 bs:List (List I)} {S:List Id} {k:Nat},bE R as1 bs S->k<as1.length->∃ (e f:List I) (T ah:List Id),as1[k]?=some e/\bs[k]?=some f/\R e f T/\(∀ i ∈ T,i ∈ S)/\(∀ i ∈ T,i ∉ ah)/\(∀ i ∈ ah,i ∈ S) /\
  ∀ (R'':List I->List I->List Id->Prop) e' f' T',R'' e' f' T'->(∀ (e f:List I) (T:List Id),R e f T->(∀ i ∈ T,i ∈ ah)->R'' e f T)->(∀ i ∈ T',i ∉ ah)->∃ S',bE R'' (as1.set k e') (bs.set k f') S'/\∀ i ∈ S',i ∈ T'\/i ∈ ah
 | e::as1,f::bs,_,0,⟨T1,T2,h1,h2,h3,h4⟩,_=>⟨e,f,T1,T2,rfl,rfl,h1,fun i hi=>by simp[h3,hi],h4,fun i hi=>by simp[h3,hi],fun R'' e' f' T' hr hm hd=>⟨T'++T2,⟨T',T2,hr,h2.mono hm,rfl,hd⟩,fun i hi=>by simpa using hi⟩⟩
 | e::as1,f::bs,_,k+1,⟨T1,T2,h1,h2,h3,h4⟩,hk=>by
  obtain⟨e1,f1,T,ah,p1,p2,p3,p4,p5,p6,p7⟩:=bE.at h2 (k:=k) (by simpa using hk);refine⟨e1,f1,T,T1++ah,by simpa using p1,by simpa using p2,p3,fun i hi=>by simp[h3,p4 i hi],fun i hi hm=>?_,fun i hi=>?_,fun R'' e' f' T' hr hm hd=>?_⟩
  ·rcases List.mem_append.1 hm with hm | hm
   ·exact h4 i hm (p4 i hi)
   ·exact p5 i hi hm
  ·rcases List.mem_append.1 hi with hi | hi
   ·simp[h3,hi]
   ·simp[h3,p6 i hi]
  ·obtain⟨S',q1,q2⟩:=p7 R'' e' f' T' hr (fun e f T h hs=>hm e f T h fun i hi=>by simp[hs i hi]) (fun i hi hm=>hd i hi (by simp[hm]));refine⟨T1++S',⟨T1,S',hm _ _ _ h1 (fun i hi=>by simp[hi]),q1,rfl,fun i hi hs=>?_⟩,fun i hi=>?_⟩
   ·rcases q2 i hs with h | h
    ·exact hd i h (by simp[hi])
    ·exact h4 i hi (p6 i h)
   ·rcases List.mem_append.1 hi with hi | hi
    ·exact .inr (by simp[hi])
    ·rcases q2 i hi with h | h
     ·exact .inl h
     ·exact .inr (by simp[h])
 | [],[],_,_,_,hk=>by simp at hk
 | [],_::_,_,_,h,_=>h.elim
 | _::_,[],_,_,h,_=>h.elim
theorem bE.map {f:I->I} {g:Id->Id} (hg:∀ i j,g i=g j->i=j):∀ {as1 bs:List (List I)} {S:List Id},bE R as1 bs S->(∀ (e d:List I) (T:List Id),R e d T->(∀ i ∈ T,i ∈ S)->R' (e.map f) d (T.map g))->bE R' (as1.map fun e=>e.map f) bs (S.map g)
 | [],[],_,h,_=>by rw[show _=[] from h];rfl
 | _::_,_::_,_,⟨T1,T2,h1,h2,h3,h4⟩,hm=>⟨T1.map g,T2.map g,hm _ _ _ h1 (fun i hi=>by simp[h3,hi]),bE.map hg h2 (fun e d T h hs=>hm e d T h fun i hi=>by simp[h3,hs i hi]),by simp[h3],fun i hi hm=>by
   obtain⟨j,hj,rfl⟩:=List.mem_map.1 hi;obtain⟨j2,hj2,he⟩:=List.mem_map.1 hm;rw[hg _ _ he] at hj2;exact h4 j hj hj2⟩
 | [],_::_,_,h,_=>h.elim
 | _::_,[],_,h,_=>h.elim
end
mutual
theorem Tr.frame {H H':Heap}:∀ {h:Sh} {a b:I} {S:List Id},Tr H h a b S->(∀ i ∈ S,H' i=H i)->Tr H' h a b S
 | .c,_,_,_,h,_=>by simpa[Tr] using h
 | .s l,a,b,S,h,hf=>by
  simp only[Tr] at h ⊢;rcases h with h | ⟨id,els,es,T,h1,h2,h3,h4,h5,rfl⟩
  ·exact .inl h
  ·exact .inr ⟨id,els,es,T,h1,h2,by rw[hf id (by simp)];exact h3,h4.mono fun e f T' hr hs=>Row.frame hr fun i hi=>hf i (by simp[hs i hi]),h5,rfl⟩
 | .a l,a,b,S,h,hf=>by
  simp only[Tr] at h ⊢;obtain⟨as1,bs,h1,h2,h3⟩:=h;exact⟨as1,bs,h1,h2,Row.frame h3 hf⟩
 | .t l,a,b,S,h,hf=>by
  simp only[Tr] at h ⊢;obtain⟨as1,bs,h1,h2,h3⟩:=h;exact⟨as1,bs,h1,h2,Row.frame h3 hf⟩
theorem Row.frame {H H':Heap}:∀ {l:List Sh} {as1 bs:List I} {S:List Id},Row H l as1 bs S->(∀ i ∈ S,H' i=H i)->Row H' l as1 bs S
 | [],[],[],_,h,_=>by simpa[Row] using h
 | _::_,_::_,_::_,_,h,hf=>by
  simp only[Row] at h ⊢;obtain⟨S1,S2,h1,h2,h3,h4⟩:=h;exact⟨S1,S2,h1.frame fun i hi=>hf i (by simp[h3,hi]),Row.frame h2 fun i hi=>hf i (by simp[h3,hi]),h3,h4⟩
 | [],[],_::_,_,h,_=>by simp[Row] at h
 | [],_::_,_,_,h,_=>by simp[Row] at h
 | _::_,[],_,_,h,_=>by simp[Row] at h
 | _::_,_::_,[],_,h,_=>by simp[Row] at h
end
mutual
theorem Tr.has {H:Heap}:∀ {h:Sh} {a b:I} {S:List Id},Tr H h a b S->∀ i ∈ S,∃ o,H i=some o
 | .c,_,_,_,h,i,hi=>by simp only[Tr] at h;obtain⟨_,_,rfl⟩:=h;cases hi
 | .s l,a,b,S,h,i,hi=>by
  simp only[Tr] at h;rcases h with ⟨_,_,rfl⟩ | ⟨id,els,es,T,h1,h2,h3,h4,h5,rfl⟩
  ·cases hi
  ·rcases List.mem_cons.1 hi with rfl | hi
   ·exact⟨_,h3⟩
   ·exact tJ (l:=l) (fun e f T hr=>Row.has hr) h4 i hi
 | .a l,a,b,S,h,i,hi=>by simp only[Tr] at h;obtain⟨as1,bs,_,_,h3⟩:=h;exact Row.has h3 i hi
 | .t l,a,b,S,h,i,hi=>by simp only[Tr] at h;obtain⟨as1,bs,_,_,h3⟩:=h;exact Row.has h3 i hi
theorem Row.has {H:Heap}:∀ {l:List Sh} {as1 bs:List I} {S:List Id},Row H l as1 bs S->∀ i ∈ S,∃ o,H i=some o
 | [],[],[],_,h,i,hi=>by simp only[Row] at h;subst h;cases hi
 | _::_,_::_,_::_,_,h,i,hi=>by
  simp only[Row] at h;obtain⟨S1,S2,h1,h2,h3,_⟩:=h;subst h3;rcases List.mem_append.1 hi with hi | hi
  ·exact h1.has i hi
  ·exact Row.has h2 i hi
 | [],[],_::_,_,h,_,_=>by simp[Row] at h
 | [],_::_,_,_,h,_,_=>by simp[Row] at h
 | _::_,[],_,_,h,_,_=>by simp[Row] at h
 | _::_,_::_,[],_,h,_,_=>by simp[Row] at h
theorem tJ {H:Heap} {l:List Sh} (hr:∀ (e f:List I) (T:List Id),Row H l e f T->∀ i ∈ T,∃ o,H i=some o):∀ {as1 bs:List (List I)} {S:List Id},bE (Row H l) as1 bs S->∀ i ∈ S,∃ o,H i=some o
 | [],[],_,h,i,hi=>by rw[show _=[] from h] at hi;cases hi
 | _::_,_::_,_,⟨T1,T2,h1,h2,h3,_⟩,i,hi=>by
  subst h3;rcases List.mem_append.1 hi with hi | hi
  ·exact hr _ _ _ h1 i hi
  ·exact tJ hr h2 i hi
 | [],_::_,_,h,_,_=>h.elim
 | _::_,[],_,h,_,_=>h.elim
end
mutual
def Sh.dep:Sh->Nat
 | .c=>0
 | .s l=>Sh.C8 l+1
 | .a l=>Sh.C8 l+1
 | .t l=>Sh.C8 l+1
def Sh.C8:List Sh->Nat
 | []=>0
 | h::l=>max (Sh.dep h) (Sh.C8 l)
end
theorem jk.up {H:Heap}:∀ {d:Nat} {a b:I} {S:List Id},jk H d a b S->jk H (d+1) a b S
 | 0,_,_,_,h=>.inl h
 | d+1,a,b,S,h=>by
  rcases h with h | ⟨cs,ds,h1,h2,h3⟩ | ⟨cs,ds,h1,h2,h3⟩ | h | ⟨id,o,els,T,h1,h2,h3,h4,h5⟩
  ·exact .inl h
  ·exact .inr (.inl ⟨cs,ds,h1,h2,h3.mono fun _ _ _ _ h _=>jk.up h⟩)
  ·exact .inr (.inr (.inl ⟨cs,ds,h1,h2,h3.mono fun _ _ _ _ h _=>jk.up h⟩))
  ·exact .inr (.inr (.inr (.inl h)))
  ·exact .inr (.inr (.inr (.inr ⟨id,o,els,T,h1,h2,h3,h4.mono fun _ _ _ _ _ _ h _=>jk.up h,h5⟩)))
theorem jk.le {H:Heap} {d e:Nat} {a b:I} {S:List Id} (hd:d<=e) (h:jk H d a b S):jk H e a b S:=by
 induction hd with
 | refl=>exact h
 | step _ ih=>exact ih.up
mutual
theorem Tr.own {H:Heap}:∀ {h:Sh} {a b:I} {S:List Id},Tr H h a b S->jk H h.dep a b S
 | .c,_,_,_,h=>by
  simp only[Tr] at h;obtain⟨rfl,hF,rfl⟩:=h;exact⟨⟨rfl,hF⟩,rfl⟩
 | .s l,a,b,S,h=>by
  simp only[Tr] at h;rcases h with ⟨rfl,rfl,rfl⟩ | ⟨id,els,es,T,rfl,rfl,h3,h4,h5,rfl⟩
  ·exact .inr (.inr (.inr (.inl ⟨rfl,rfl,rfl⟩)))
  ·exact .inr (.inr (.inr (.inr ⟨id,_,es,T,rfl,rfl,h3,A5 (l:=l) (fun e f T h=>Row.own h) h4,h5,rfl⟩)))
 | .a l,a,b,S,h=>by
  simp only[Tr] at h;obtain⟨as1,bs,rfl,rfl,h3⟩:=h;exact .inr (.inl ⟨as1,bs,rfl,rfl,Row.own h3⟩)
 | .t l,a,b,S,h=>by
  simp only[Tr] at h;obtain⟨as1,bs,rfl,rfl,h3⟩:=h;exact .inr (.inr (.inl ⟨as1,bs,rfl,rfl,Row.own h3⟩))
theorem Row.own {H:Heap}:∀ {l:List Sh} {as1 bs:List I} {S:List Id},Row H l as1 bs S->gR (jk H (Sh.C8 l)) as1 bs S
 | [],[],[],_,h=>by simp only[Row] at h;exact h
 | h::l,_::_,_::_,_,hr=>by
  simp only[Row] at hr;obtain⟨S1,S2,h1,h2,h3,h4⟩:=hr;exact⟨S1,S2,h1.own.le (Nat.le_max_left _ _),(Row.own h2).mono fun _ _ _ _ h _=>h.le (Nat.le_max_right _ _),h3,h4⟩
 | [],[],_::_,_,h=>by simp[Row] at h
 | [],_::_,_,_,h=>by simp[Row] at h
 | _::_,[],_,_,h=>by simp[Row] at h
 | _::_,_::_,[],_,h=>by simp[Row] at h
theorem A5 {H:Heap} {l:List Sh} {Q:I->I->List Id->Prop} (hr:∀ (e f:List I) (T:List Id),Row H l e f T->gR Q e f T):∀ {as1 bs:List (List I)} {S:List Id},bE (Row H l) as1 bs S->fF Q as1 bs S
 | [],[],_,h=>h
 | _::_,_::_,_,⟨T1,T2,h1,h2,h3,h4⟩=>⟨T1,T2,hr _ _ _ h1,A5 hr h2,h3,h4⟩
 | [],_::_,_,h=>h.elim
 | _::_,[],_,h=>h.elim
end
mutual
theorem Tr.sh {H H2:Heap} {n:Nat}:∀ {h:Sh} {a b:I} {S:List Id},Tr H h a b S->(∀ i ∈ S,H2 (dI n i)=(H i).map (vF n))->Tr H2 h (jj n a) b (S.map (dI n))
 | .c,_,_,_,h,_=>by
  simp only[Tr] at h ⊢;obtain⟨rfl,hF,rfl⟩:=h;rw[hF.sh];exact⟨rfl,hF,rfl⟩
 | .s l,a,b,S,h,hf=>by
  simp only[Tr] at h ⊢;rcases h with ⟨rfl,rfl,rfl⟩ | ⟨id,els,es,T,rfl,rfl,h3,h4,h5,rfl⟩
  ·exact .inl ⟨BC n _,rfl,rfl⟩
  ·refine .inr ⟨dI n id,els.map fun e=>e.map (jj n),es,T.map (dI n),by rw[yi,List.length_map],rfl,by rw[hf id (by simp),h3];rfl,?_,?_,rfl⟩
   ·exact h4.map (pB n) fun e d T' hr hs=>Row.sh hr fun i hi=>hf i (by simp[hs i hi])
   ·intro hm;obtain⟨j,hj,he⟩:=List.mem_map.1 hm;rw[pB n _ _ he] at hj;exact h5 hj
 | .a l,a,b,S,h,hf=>by
  simp only[Tr] at h ⊢;obtain⟨as1,bs,rfl,rfl,h3⟩:=h;exact⟨_,bs,sM n as1,rfl,Row.sh h3 hf⟩
 | .t l,a,b,S,h,hf=>by
  simp only[Tr] at h ⊢;obtain⟨as1,bs,rfl,rfl,h3⟩:=h;exact⟨_,bs,sN n as1,rfl,Row.sh h3 hf⟩
theorem Row.sh {H H2:Heap} {n:Nat}:∀ {l:List Sh} {as1 bs:List I} {S:List Id},Row H l as1 bs S->(∀ i ∈ S,H2 (dI n i)=(H i).map (vF n))->Row H2 l (as1.map (jj n)) bs (S.map (dI n))
 | [],[],[],_,h,_=>by simp only[Row] at h ⊢;subst h;simp[Row]
 | h::l,_::_,_::_,_,hr,hf=>by
  simp only[Row] at hr;obtain⟨S1,S2,h1,h2,rfl,h4⟩:=hr;simp only[List.map_cons,Row];refine⟨S1.map (dI n),S2.map (dI n),h1.sh fun i hi=>hf i (by simp[hi]),Row.sh h2 fun i hi=>hf i (by simp[hi]),by simp,fun i hi hm=>?_⟩;obtain⟨j,hj,rfl⟩:=List.mem_map.1 hi;obtain⟨j2,hj2,he⟩:=List.mem_map.1 hm;rw[pB n _ _ he] at hj2;exact h4 j hj hj2
 | [],[],_::_,_,h,_=>by simp[Row] at h
 | [],_::_,_,_,h,_=>by simp[Row] at h
 | _::_,[],_,_,h,_=>by simp[Row] at h
 | _::_,_::_,[],_,h,_=>by simp[Row] at h
end
theorem Row.len {H:Heap}:∀ {l:List Sh} {as1 bs:List I} {S:List Id},Row H l as1 bs S->as1.length=l.length/\bs.length=l.length
 | [],[],[],_,_=>⟨rfl,rfl⟩
 | _::_,_::_,_::_,_,h=>by
  simp only[Row] at h;obtain⟨_,_,_,h2,_,_⟩:=h;have:=Row.len h2;simp[this.1,this.2]
 | [],[],_::_,_,h=>by simp[Row] at h
 | [],_::_,_,_,h=>by simp[Row] at h
 | _::_,[],_,_,h=>by simp[Row] at h
 | _::_,_::_,[],_,h=>by simp[Row] at h
theorem Row.append {H:Heap}:∀ {l m:List Sh} {as1 bs cs ds:List I} {S T:List Id},Row H l as1 bs S->Row H m cs ds T->(∀ i ∈ S,i ∉ T)->Row H (l++m) (as1++cs) (bs++ds) (S++T)
 | [],m,[],[],_,_,_,_,h,k,_=>by simp only[Row] at h;subst h;simpa using k
 | _::_,_,_::_,_::_,_,_,_,T,h,k,hd=>by
  simp only[Row] at h;obtain⟨S1,S2,h1,h2,rfl,h4⟩:=h;simp only[List.cons_append,Row];refine⟨S1,S2++T,h1,Row.append h2 k (fun i hi=>hd i (by simp[hi])),by simp,fun i hi hm=>?_⟩;rcases List.mem_append.1 hm with hm | hm
  ·exact h4 i hi hm
  ·exact hd i (by simp[hi]) hm
 | [],_,[],_::_,_,_,_,_,h,_,_=>by simp[Row] at h
 | [],_,_::_,_,_,_,_,_,h,_,_=>by simp[Row] at h
 | _::_,_,[],_,_,_,_,_,h,_,_=>by simp[Row] at h
 | _::_,_,_::_,[],_,_,_,_,h,_,_=>by simp[Row] at h
theorem Row.split {H:Heap}:∀ {l m:List Sh} {as1 bs:List I} {S:List Id},Row H (l++m) as1 bs S->∃ a1 a2 b1 b2 S1 S2,as1=a1++a2/\bs=b1++b2/\Row H l a1 b1 S1/\Row H m a2 b2 S2/\S=S1++S2/\∀ i ∈ S1,i ∉ S2
 | [],m,as1,bs,S,h=>⟨[],as1,[],bs,[],S,rfl,rfl,by simp[Row],h,rfl,by simp⟩
 | x::l,m,a::as1,b::bs,S,h=>by
  simp only[List.cons_append,Row] at h;obtain⟨S1,S2,h1,h2,rfl,h4⟩:=h;obtain⟨a1,a2,b1,b2,T1,T2,rfl,rfl,p1,p2,rfl,p4⟩:=Row.split h2;refine⟨a::a1,a2,b::b1,b2,S1++T1,T2,rfl,rfl,?_,p2,by simp,fun i hi hm=>?_⟩
  ·simp only[Row];exact⟨S1,T1,h1,p1,rfl,fun i hi hm=>h4 i hi (by simp[hm])⟩
  ·rcases List.mem_append.1 hi with hi | hi
   ·exact h4 i hi (by simp[hm])
   ·exact p4 i hi hm
 | _::_,_,[],_,_,h=>by simp[Row] at h
 | _::_,_,_::_,[],_,h=>by simp[Row] at h
end Go.Ab
namespace Go.Ab
variable [Inhabited cD]
abbrev bS:=Sh × I × I
def Sep (H:Heap) (n:Nat) (K:List bS) (ids:List Id):Prop:=
 (∀ i ∈ ids,i.1<n)/\∃ S,Row H (K.map (·.1)) (K.map (·.2.1)) (K.map (·.2.2)) S/\∀ i ∈ S,i.1<n/\i ∉ ids
section
variable {H H':Heap} {n n':Nat} {K K1 K2:List bS} {ids dO:List Id}
theorem Sep.nil (h:∀ i ∈ ids,i.1<n):Sep H n [] ids:=⟨h,[],by simp[Row],by simp⟩
theorem Sep.split (h:Sep H n (K1++K2) ids):(∀ i ∈ ids,i.1<n)/\∃ S1 S2,Row H (K1.map (·.1)) (K1.map (·.2.1)) (K1.map (·.2.2)) S1/\Row H (K2.map (·.1)) (K2.map (·.2.1)) (K2.map (·.2.2)) S2/\(∀ i ∈ S1,i ∉ S2)/\(∀ i ∈ S1,i.1<n/\i ∉ ids)/\∀ i ∈ S2,i.1<n/\i ∉ ids:=by
 obtain⟨h0,S,h1,h2⟩:=h;simp only[List.map_append] at h1;obtain⟨a1,a2,b1,b2,S1,S2,e1,e2,p1,p2,rfl,p4⟩:=Row.split h1;have l1:=p1.len;have ha:K1.map (·.2.1)=a1/\K2.map (·.2.1)=a2:=List.append_inj e1 (by simpa using l1.1.symm);have hb:K1.map (·.2.2)=b1/\K2.map (·.2.2)=b2:=List.append_inj e2 (by simpa using l1.2.symm);rw[ha.1,ha.2,hb.1,hb.2];exact⟨h0,S1,S2,p1,p2,p4,fun i hi=>h2 i (by simp[hi]),fun i hi=>h2 i (by simp[hi])⟩
theorem Sep.join {S1 S2:List Id} (h0:∀ i ∈ ids,i.1<n) (p1:Row H (K1.map (·.1)) (K1.map (·.2.1)) (K1.map (·.2.2)) S1) (p2:Row H (K2.map (·.1)) (K2.map (·.2.1)) (K2.map (·.2.2)) S2) (hd:∀ i ∈ S1,i ∉ S2)
  (h1:∀ i ∈ S1,i.1<n/\i ∉ ids) (h2:∀ i ∈ S2,i.1<n/\i ∉ ids):Sep H n (K1++K2) ids:=
 ⟨h0,S1++S2,by simp only[List.map_append];exact p1.append p2 hd,fun i hi=>by
  rcases List.mem_append.1 hi with hi | hi
  ·exact h1 i hi
  ·exact h2 i hi⟩
theorem Sep.swap (h:Sep H n (K1++K2) ids):Sep H n (K2++K1) ids:=by
 obtain⟨h0,S1,S2,p1,p2,hd,q1,q2⟩:=h.split;exact Sep.join h0 p2 p1 (fun i hi hm=>hd i hm hi) q2 q1
theorem Sep.left (h:Sep H n (K1++K2) ids):Sep H n K1 ids:=by
 obtain⟨h0,S1,S2,p1,p2,hd,q1,q2⟩:=h.split;exact⟨h0,S1,p1,q1⟩
theorem Sep.right (h:Sep H n (K1++K2) ids):Sep H n K2 ids:=h.swap.left
theorem Sep.front {x:bS} (h:Sep H n (K1++x::K2) ids):Sep H n (x::(K1++K2)) ids:=by
 obtain⟨h0,S1,S2,p1,p2,hd,q1,q2⟩:=h.split;simp only[List.map_cons,Row] at p2;obtain⟨T1,T2,r1,r2,rfl,r4⟩:=p2;refine⟨h0,T1++(S1++T2),?_,fun i hi=>?_⟩
 ·simp only[List.map_cons,List.map_append,Row];refine⟨T1,S1++T2,r1,p1.append r2 (fun i hi hm=>hd i hi (by simp[hm])),rfl,fun i hi hm=>?_⟩;rcases List.mem_append.1 hm with hm | hm
  ·exact hd i hm (by simp[hi])
  ·exact r4 i hi hm
 ·simp only[List.mem_append] at hi;rcases hi with hi | hi | hi
  ·exact q2 i (by simp[hi])
  ·exact q1 i hi
  ·exact q2 i (by simp[hi])
theorem Sep.keep (h:Sep H n K ids) (hn:n<=n') (hH:∀ i:Id,i.1<n->i ∉ ids->H' i=H i) (hi:∀ i ∈ dO,(i ∈ ids\/n<=i.1)/\i.1<n'):Sep H' n' K dO:=by
 obtain⟨_,S,h1,h2⟩:=h;refine⟨fun i h=>(hi i h).2,S,h1.frame fun i hs=>hH i (h2 i hs).1 (h2 i hs).2,fun i hs=>⟨by have:=(h2 i hs).1;omega,fun hm=>?_⟩⟩;rcases (hi i hm).1 with h | h
 ·exact (h2 i hs).2 h
 ·have:=(h2 i hs).1;omega
theorem Sep.scalar {v:I} {x:Value} (h:Sep H n ((.c,v,.v x)::K) ids):v = .v x/\Sep H n K ids:=by
 obtain⟨h0,S,h1,h2⟩:=h;simp only[List.map_cons,Row,Tr] at h1;obtain⟨S1,S2,⟨e1,_,rfl⟩,p2,rfl,_⟩:=h1;exact⟨e1,h0,_,p2,fun i hi=>h2 i (by simpa using hi)⟩
theorem Sep.form {l:List Sh} {v e:I} (h:Sep H n ((.s l,v,e)::K) ids):aF v=true/\∃ es,e = .list true es/\((v = .v (.slice none 0 0)/\es=[])\/∃ id els,v = .arr id es.length 0 es.length/\els.length=es.length/\H id=some ⟨l.length,els⟩/\id.1<n/\id ∉ ids):=by
 obtain⟨h0,S,h1,h2⟩:=h;simp only[List.map_cons,Row,Tr] at h1;obtain⟨S1,S2,h3,_,rfl,_⟩:=h1;rcases h3 with ⟨rfl,rfl,rfl⟩ | ⟨id,els,es,T,rfl,rfl,p3,p4,p5,rfl⟩
 ·exact⟨rfl,[],rfl,.inl ⟨rfl,rfl⟩⟩
 ·have hl:=p4.len;exact⟨rfl,es,rfl,.inr ⟨id,els,by rw[hl],hl,p3,(h2 id (by simp)).1,(h2 id (by simp)).2⟩⟩
inductive aY:List Sh->List bS->List I->List I->Prop
 | nil:aY [] [] [] []
 | v {l:List Sh} {K:List bS} {as1 bs:List I} (x:Value) (h:aY l K as1 bs):aY (.c::l) K (.v x::as1) (.v x::bs)
 | i {l:List Sh} {K:List bS} {as1 bs:List I} {a:I} (hF:bV a) (h:aY l K as1 bs):aY (.c::l) K (a::as1) (a::bs)
 | own {l:List Sh} {K:List bS} {as1 bs:List I} {t:Sh} {a b:I} (h:aY l K as1 bs):aY (t::l) ((t,a,b)::K) (a::as1) (b::bs)
theorem aY.row {l:List Sh} {as1 bs:List I} (h:aY l K as1 bs):∀ {S:List Id},Row H (K.map (·.1)) (K.map (·.2.1)) (K.map (·.2.2)) S->Row H l as1 bs S:=by
 induction h with
 | nil=>intro S h;simpa using h
 | v x _ ih=>intro S h;simp only[Row,Tr];exact⟨[],S,⟨by trivial,.v x,rfl⟩,ih h,rfl,by simp⟩
 | i hF _ ih=>intro S h;simp only[Row,Tr];exact⟨[],S,⟨by trivial,hF,rfl⟩,ih h,rfl,by simp⟩
 | own _ ih=>
  intro S h;simp only[List.map_cons,Row] at h ⊢;obtain⟨S1,S2,h1,h2,h3,h4⟩:=h;exact⟨S1,S2,h1,ih h2,h3,h4⟩
theorem Row.fill {l:List Sh} {as1 bs:List I} {S:List Id} (h:Row H l as1 bs S) (hf:∀ t ∈ l,t = .c):as1=bs/\S=[]/\∀ a ∈ as1,bV a:=by
 induction l generalizing as1 bs S with
 | nil=>
  match as1,bs,h with
  | [],[],h=>simp only[Row] at h;exact⟨rfl,h,by simp⟩
  | [],_::_,h=>simp[Row] at h
  | _::_,_,h=>simp[Row] at h
 | cons t l ih=>
  match as1,bs,h with
  | a::as1,b::bs,h=>
   obtain rfl:=hf t (by simp);simp only[Row,Tr] at h;obtain⟨S1,S2,⟨rfl,hF,rfl⟩,h2,rfl,_⟩:=h;obtain⟨rfl,rfl,h3⟩:=ih h2 (fun t ht=>hf t (by simp[ht]));refine⟨rfl,rfl,fun a ha=>?_⟩;rcases List.mem_cons.1 ha with rfl | ha
   ·exact hF
   ·exact h3 a ha
  | [],_,h=>simp[Row] at h
  | _::_,[],h=>simp[Row] at h
theorem bE.fresh {l:List Sh} {es:List (List I)} (h:∀ e ∈ es,e.length=l.length/\∀ a ∈ e,bV a) (hf:∀ t ∈ l,t = .c):bE (Row H l) es es []:=by
 induction es with
 | nil=>rfl
 | cons e es ih=>
  refine⟨[],[],?_,ih fun f hf=>h f (by simp[hf]),rfl,by simp⟩;obtain⟨h1,h2⟩:=h e (by simp);clear ih h
  induction l generalizing e with
  | nil=>cases e with
   | nil=>simp[Row]
   | cons=>simp at h1
  | cons t l ih=>
   cases e with
   | nil=>simp at h1
   | cons a e=>
    obtain rfl:=hf t (by simp);have ha:=h2 a (by simp);simp only[Row,Tr];exact⟨[],[],⟨by trivial,ha,rfl⟩,ih (fun t ht=>hf t (by simp[ht])) e (by simpa using h1) (fun a ha=>h2 a (by simp[ha])),rfl,by simp⟩
theorem bE.xM {l:List Sh} {es:List (List I)} (h:∀ e ∈ es,e.length=l.length/\∀ a ∈ e,flat a=true) (hf:∀ t ∈ l,t = .c):bE (Row H l) es es []:=bE.fresh (fun e he=>⟨(h e he).1,fun a ha=>bV.flat ((h e he).2 a ha)⟩) hf
end
section
variable {H:Heap} {n:Nat} {K K1 K2:List bS} {ids:List Id} {Ty:Types} {t:TypeId} {j:TI} {l:List Sh} {v:I} {es:List (List I)}
theorem Sep.append {d:Nat} {x:I} {add adds:List (List I)} (h:Sep H n ((.s l,v,.list true es)::(K1++K2)) ids) (hk:kd Ty t = .slice j) (hj:j.size=l.length) (hz:j.zero.length=j.size/\j.bytes<=131072)
  (hx:cb H x=some add) (ho:add.all (fun e=>e.all aF)=true) (hadd:∀ S,Row H (K1.map (·.1)) (K1.map (·.2.1)) (K1.map (·.2.2)) S->bE (Row H l) add adds S) (hne:adds ≠ []) (hlen:es.length+adds.length<=1073741824) :
  ∃ v' H' n',bb Ty (some d) t v x H n=some (v',H',n')/\Sep H' n' ((.s l,v',.list true (es++adds))::K2) ids/\(∀ i ∈ ids,H' i=H i)/\n<=n':=by
 obtain⟨h0,S,h1,h2⟩:=h;simp only[List.map_cons,Row] at h1;obtain⟨T1,T2,r1,r2,rfl,r4⟩:=h1;simp only[List.map_append] at r2;obtain⟨a1,a2,b1,b2,U1,U2,e1,e2,p1,p2,rfl,p4⟩:=Row.split r2;have l1:=p1.len;have ha:K1.map (·.2.1)=a1/\K2.map (·.2.1)=a2:=List.append_inj e1 (by simpa using l1.1.symm);have hb:K1.map (·.2.2)=b1/\K2.map (·.2.2)=b2:=List.append_inj e2 (by simpa using l1.2.symm);obtain⟨rfl,rfl⟩:=ha;obtain⟨rfl,rfl⟩:=hb;have hr:=hadd _ p1;have hal:=hr.len;have hsz:add.all (fun e=>e.length == j.size)=true:=by
  rw[List.all_eq_true];intro e he;have:∀ {as1 bs:List (List I)} {S:List Id},bE (Row H l) as1 bs S->∀ e ∈ as1,e.length=l.length:=by
   intro as1
   induction as1 with
   | nil=>intro _ _ _ e he;cases he
   | cons a as1 ih=>
    intro bs S hr e he
    match bs,hr with
    | b::bs,⟨_,_,q1,q2,_,_⟩=>
     rcases List.mem_cons.1 he with rfl | he
     ·exact q1.len.1
     ·exact ih q2 e he
    | [],hr=>exact hr.elim
  simp[this hr e he,hj]
 simp only[Tr] at r1;have hadd0:add.length ≠ 0:=by
  rw[hal];intro h;exact hne (List.eq_nil_of_length_eq_zero h)
 rcases r1 with ⟨rfl,he,rfl⟩ | ⟨id,els,es',T,rfl,he,q3,q4,q5,rfl⟩
 ·injection he with _ he
  subst he;refine⟨.arr (n,d) add.length 0 add.length,H.set (n,d) ⟨j.size,add⟩,n+1,?_,?_,fun i hi=>?_,by omega⟩
  ·simp only[bb,hk,hx];rw[if_pos ⟨hz.1,hz.2,hsz,ho⟩,if_neg hadd0,if_pos (by rw[hal];simpa using hlen)]
  ·have hnew:∀ i ∈ U1++U2,i ≠ (n,d):=fun i hi he=>by
    have:=(h2 i (by simpa using hi)).1;rw[he] at this;simp at this
   refine⟨fun i hi=>by have:=h0 i hi;omega,(n,d)::U1++U2,?_,fun i hi=>?_⟩
   ·simp only[List.map_cons,Row,Tr];refine⟨(n,d)::U1,U2,.inr ⟨(n,d),add,adds,U1,rfl,by simp,by simp[Heap.aT,hj],?_,fun hm=>hnew _ (by simp[hm]) rfl,rfl⟩,p2.frame fun i hi=>?_,rfl,fun i hi hm=>?_⟩
    ·exact hr.mono fun e f T' hr hs=>hr.frame fun i hi=>Heap.aD _ _ (hnew i (by simp[hs i hi]))
    ·exact Heap.aD _ _ (hnew i (by simp[hi]))
    ·rcases List.mem_cons.1 hi with rfl | hi
     ·exact hnew _ (by simp[hm]) rfl
     ·exact p4 i hi hm
   ·simp only[List.cons_append,List.mem_cons] at hi;rcases hi with rfl | hi
    ·exact⟨by simp,fun hm=>by have:=h0 _ hm;simp at this⟩
    ·have:=h2 i (by simpa using hi);exact⟨by omega,this.2⟩
  ·refine Heap.aD _ _ fun he=>?_
   have:=h0 i hi;rw[he] at this;simp at this
 ·injection he with _ he
  subst he;have hel:=q4.len;refine⟨.arr id (els.length+add.length) 0 (els.length+add.length),H.set id ⟨j.size,els++add⟩,n,?_,?_,fun i hi=>?_,Nat.le_refl _⟩
  ·simp only[bb,hk,hx];rw[if_pos ⟨hz.1,hz.2,hsz,ho⟩];simp only[live,q3,↓reduceIte];rw[if_pos ⟨trivial,trivial,hj.symm,by rw[hel,hal];exact hlen⟩]
  ·have hnid:∀ i ∈ U1++U2,i ≠ id:=fun i hi he=>by
    subst he;exact r4 i (by simp) (by simpa using hi)
   have hnT:∀ i ∈ T,i ≠ id:=fun i hi he=>by subst he;exact q5 hi
   refine⟨h0,(id::(T++U1))++U2,?_,fun i hi=>h2 i ?_⟩
   ·simp only[List.map_cons,Row,Tr];refine⟨id::(T++U1),U2,.inr ⟨id,els++add,es++adds,T++U1,by simp,rfl,by simp[Heap.aT,hj],?_,fun hm=>?_,rfl⟩,p2.frame fun i hi=>?_,rfl,fun i hi hm=>?_⟩
    ·refine bE.append (q4.mono fun e f T' hr hs=>hr.frame fun i hi=>Heap.aD _ _ (hnT i (hs i hi))) (hr.mono fun e f T' hr hs=>hr.frame fun i hi=>Heap.aD _ _ (hnid i (by simp[hs i hi]))) (fun i hi hm=>r4 i (by simp[hi]) (by simp[hm]))
    ·rcases List.mem_append.1 hm with hm | hm
     ·exact q5 hm
     ·exact hnid id (by simp[hm]) rfl
    ·exact Heap.aD _ _ (hnid i (by simp[hi]))
    ·rcases List.mem_cons.1 hi with rfl | hi
     ·exact hnid i (by simp[hm]) rfl
     ·rcases List.mem_append.1 hi with hi | hi
      ·exact r4 i (by simp[hi]) (by simp[hm])
      ·exact p4 i hi hm
   ·simp only[List.cons_append,List.mem_cons,List.mem_append] at hi ⊢;rcases hi with h | (h | h) | h<;>simp[h]
  ·refine Heap.aD _ _ fun he=>?_
   subst he;exact (h2 i (by simp)).2 hi
theorem Sep.store {id:Id} {g:Nat} {k:Nat} {i:TI} {new news:List I} (h:Sep H n ((.s l,.arr id g 0 g,.list true es)::(K1++K2)) ids) (hi:i.size=l.length) (hk:k<es.length) (hg:g=es.length) (hone:new.all aF=true)
  (hf:aY l K1 new news):∃ H',cB (some i) (.ptr id g k 0) (some new) H=some H'/\Sep H' n ((.s l,.arr id g 0 g,.list true (es.set k news))::K2) ids/\∀ i ∈ ids,H' i=H i:=by
 obtain⟨h0,S,h1,h2⟩:=h;simp only[List.map_cons,Row] at h1;obtain⟨T1,T2,r1,r2,rfl,r4⟩:=h1;simp only[List.map_append] at r2;obtain⟨a1,a2,b1,b2,U1,U2,e1,e2,p1,p2,rfl,p4⟩:=Row.split r2;have l1:=p1.len;have ha:K1.map (·.2.1)=a1/\K2.map (·.2.1)=a2:=List.append_inj e1 (by simpa using l1.1.symm);have hb:K1.map (·.2.2)=b1/\K2.map (·.2.2)=b2:=List.append_inj e2 (by simpa using l1.2.symm);obtain⟨rfl,rfl⟩:=ha;obtain⟨rfl,rfl⟩:=hb;have hrow:=hf.row p1;have hnl:new.length=l.length:=hrow.len.1;simp only[Tr] at r1;rcases r1 with ⟨e,_⟩ | ⟨id',els,es',T,e,he,q3,q4,q5,rfl⟩
 ·cases e
 ·injection e with e1 e2 e3 e4
  subst e1
  injection he with _ he
  subst he;have hel:=q4.len;have hkel:k<els.length:=by omega
  obtain⟨e0,f0,Tk,Uk,s1,s2,s3,s4,s5,s6,s7⟩:=q4.at hkel;have he0:els[k]=e0:=by
   rw[List.getElem?_eq_getElem hkel] at s1;exact Option.some.inj s1
  have hnid:∀ i ∈ U1++U2,i ≠ id:=fun i hi he=>by
   subst he;exact r4 i (by simp) (by simpa using hi)
  have hnT:∀ i ∈ T,i ≠ id:=fun i hi he=>by subst he;exact q5 hi
  let H':=H.set id (Ob.write ⟨l.length,els⟩ k 0 new)
  have hw:(Ob.write ⟨l.length,els⟩ k 0 new)=⟨l.length,els.set k new⟩:=by
   have hlen0:e0.length=l.length:=s3.len.1;have h3:els[k]?=some e0:=s1;simp only[Ob.write,Ob.mk.injEq,true_and];simp[h3,hkel,he0,ec,hnl,hlen0,List.drop_eq_nil_of_le (Nat.le_of_eq hlen0)]
  refine⟨H',?_,?_,fun i hi=>?_⟩
  ·simp only[cB,live,q3];rw[if_pos (by omega)];simp only;rw[if_pos ⟨by omega,by omega,by omega,hone⟩]
  ·obtain⟨S',w1,w2⟩:=s7 (Row H' l) new news U1 (hrow.frame fun i hi=>Heap.aD _ _ (hnid i (by simp[hi]))) (fun e f T' hr hs=>hr.frame fun i hi=>Heap.aD _ _ (hnT i (s6 i (hs i hi)))) (fun i hi hm=>r4 i (by simp[s6 i hm]) (by simp[hi]));have hS':∀ i ∈ S',i ∈ U1\/i ∈ T:=fun i hi=>(w2 i hi).imp_right (s6 i)
   refine⟨h0,(id::S')++U2,?_,fun i hi=>?_⟩
   ·simp only[List.map_cons,Row,Tr];refine⟨id::S',U2,.inr ⟨id,els.set k new,es.set k news,S',by simp;omega,rfl,?_,w1,fun hm=>?_,rfl⟩,p2.frame fun i hi=>?_,rfl,fun i hi hm=>?_⟩
    ·show H.set id _ id=_;rw[Heap.a8,hw]
    ·rcases hS' id hm with h | h
     ·exact hnid id (by simp[h]) rfl
     ·exact hnT id h rfl
    ·exact Heap.aD _ _ (hnid i (by simp[hi]))
    ·rcases List.mem_cons.1 hi with rfl | hi
     ·exact hnid i (by simp[hm]) rfl
     ·rcases hS' i hi with h | h
      ·exact p4 i h hm
      ·exact r4 i (by simp[h]) (by simp[hm])
   ·simp only[List.cons_append,List.mem_cons,List.mem_append] at hi;rcases hi with rfl | hi | hi
    ·exact h2 i (by simp)
    ·rcases hS' i hi with h | h
     ·exact h2 i (by simp[h])
     ·exact h2 i (by simp[h])
    ·exact h2 i (by simp[hi])
  ·refine Heap.aD _ _ fun he=>?_
   subst he;exact (h2 i (by simp)).2 hi
end
end Go.Ab
namespace Go.Ab
variable [Inhabited cD]
def bK (P:Program) (f:FuncId) (args:List I) (h:Sh) (R:I->Prop):Prop:=bz P f args bp 0 fun v H n=>∃ r,Sep H n [(h,v,r)] []/\R r
theorem bK.mono {P:Program} {f:FuncId} {args:List I} {h:Sh} {R R':I->Prop} (hc:bK P f args h R) (hr:∀ r,R r->R' r):bK P f args h R':=by
 unfold bK at *;exact bz.mono hc fun _ _ _ ⟨r,h1,h2⟩=>⟨r,h1,hr r h2⟩
section
variable {H:Heap} {n:Nat} {K:List bS} {ids:List Id} {h:Sh} {v r:I}
theorem Sep.tr (hs:Sep H n ((h,v,r)::K) ids):∃ S,Tr H h v r S:=by
 obtain⟨_,S,h1,_⟩:=hs;simp only[List.map_cons,Row] at h1;obtain⟨S1,_,h1,_⟩:=h1;exact⟨S1,h1⟩
theorem Sep.argOk (hs:Sep H n ((h,v,r)::K) ids):aM H n v (old r):=by
 obtain⟨S,h1⟩:=hs.tr;exact aM.own h1.own
theorem Sep.cz {b:I} (hs:Sep H n ((h,v,r)::K) ids) (e:old r=b):aM H n v b:=e ▸ hs.argOk
theorem Sep.ret (hs:Sep H n ((h,v,r)::K) ids):ic H v r:=by
 obtain⟨S,h1⟩:=hs.tr;exact h1.own.ret
theorem Sep.pack {l:List Sh} {K1:List bS} {as1 bs:List I} (hf:aY l K1 as1 bs) (hs:Sep H n (K1++K) ids):Sep H n ((.a l,.agg as1,.agg bs)::K) ids:=by
 obtain⟨h0,S1,S2,p1,p2,hd,q1,q2⟩:=hs.split;refine⟨h0,S1++S2,?_,fun i hi=>?_⟩
 ·simp only[List.map_cons,Row,Tr];exact⟨S1,S2,⟨as1,bs,rfl,rfl,hf.row p1⟩,p2,rfl,hd⟩
 ·rcases List.mem_append.1 hi with hi | hi
  ·exact q1 i hi
  ·exact q2 i hi
theorem Sep.rq {l:List Sh} {K1:List bS} {as1 bs:List I} (hf:aY l K1 as1 bs) (hs:Sep H n (K1++K) ids):Sep H n ((.t l,.tup as1,.tup bs)::K) ids:=by
 obtain⟨h0,S1,S2,p1,p2,hd,q1,q2⟩:=hs.split;refine⟨h0,S1++S2,?_,fun i hi=>?_⟩
 ·simp only[List.map_cons,Row,Tr];exact⟨S1,S2,⟨as1,bs,rfl,rfl,hf.row p1⟩,p2,rfl,hd⟩
 ·rcases List.mem_append.1 hi with hi | hi
  ·exact q1 i hi
  ·exact q2 i hi
def fP:List Sh->List I->List I->List bS
 | h::l,a::as1,b::bs=>(h,a,b)::fP l as1 bs
 | _,_,_=>[]
theorem kv:∀ {l:List Sh} {as1 bs:List I},as1.length=l.length->bs.length=l.length->(fP l as1 bs).map (·.1)=l/\(fP l as1 bs).map (·.2.1)=as1/\(fP l as1 bs).map (·.2.2)=bs
 | [],[],[],_,_=>⟨rfl,rfl,rfl⟩
 | h::l,a::as1,b::bs,h1,h2=>by
  obtain⟨p,q,r⟩:=kv (l:=l) (as1:=as1) (bs:=bs) (by simpa using h1) (by simpa using h2);simp[fP,p,q,r]
 | [],[],_::_,_,h=>by simp at h
 | [],_::_,_,h,_=>by simp at h
 | _::_,[],_,h,_=>by simp at h
 | _::_,_::_,[],_,h=>by simp at h
theorem Sep.Ey {l:List Sh} {bs:List I} {S1 S2:List Id} {as1:List I} (h0:∀ i ∈ ids,i.1<n) (p1:Row H l as1 bs S1) (p2:Row H (K.map (·.1)) (K.map (·.2.1)) (K.map (·.2.2)) S2) (hd:∀ i ∈ S1,i ∉ S2) (hS:∀ i ∈ S1++S2,i.1<n/\i ∉ ids) :
  Sep H n (fP l as1 bs++K) ids:=by
 obtain⟨e1,e2⟩:=p1.len;obtain⟨z1,z2,z3⟩:=kv e1 e2;refine Sep.join h0 (S1:=S1) (S2:=S2) ?_ p2 hd (fun i hi=>hS i (by simp[hi])) (fun i hi=>hS i (by simp[hi]));rw[z1,z2,z3];exact p1
theorem Sep.unpack {l:List Sh} {bs:List I} (hs:Sep H n ((.a l,v,.agg bs)::K) ids):∃ as1,v = .agg as1/\as1.length=l.length/\Sep H n (fP l as1 bs++K) ids:=by
 obtain⟨h0,S,h1,h2⟩:=hs;simp only[List.map_cons,Row,Tr] at h1;obtain⟨S1,S2,⟨as1,bs',rfl,hb,p1⟩,p2,rfl,p4⟩:=h1;cases hb;exact⟨as1,rfl,p1.len.1,Sep.Ey h0 p1 p2 p4 h2⟩
theorem Sep.fb {l:List Sh} {bs:List I} (hs:Sep H n ((.t l,v,.tup bs)::K) ids):∃ as1,v = .tup as1/\as1.length=l.length/\Sep H n (fP l as1 bs++K) ids:=by
 obtain⟨h0,S,h1,h2⟩:=hs;simp only[List.map_cons,Row,Tr] at h1;obtain⟨S1,S2,⟨as1,bs',rfl,hb,p1⟩,p2,rfl,p4⟩:=h1;cases hb;exact⟨as1,rfl,p1.len.1,Sep.Ey h0 p1 p2 p4 h2⟩
theorem Sep.ofArr {l:List Sh} {id:Id} {g:Nat} {els:List (List I)} (h0:∀ i ∈ ids,i.1<n) (hid:H id=some ⟨l.length,els⟩) (hg:els.length=g) (hn:id.1<n) (hi:id ∉ ids) (hl:∀ e ∈ els,e.length=l.length/\∀ a ∈ e,flat a=true) (hf:∀ t ∈ l,t = .c) :
  Sep H n [(.s l,.arr id g 0 g,.list true els)] ids:=by
 subst hg;refine⟨h0,[id],?_,fun i hi'=>by simp at hi';subst hi';exact⟨hn,hi⟩⟩;simp only[List.map_cons,List.map_nil,Row,Tr];exact⟨[id],[],.inr ⟨id,els,els,[],rfl,rfl,hid,bE.xM hl hf,by simp,rfl⟩,rfl,rfl,by simp⟩
theorem Sep.iF {l:List Sh} (hs:Sep H n K ids):Sep H n ((.s l,.v (.slice none 0 0),.list true [])::K) ids:=by
 obtain⟨h0,S,h1,h2⟩:=hs;exact⟨h0,S,by simp only[List.map_cons,Row,Tr];exact⟨[],S,.inl ⟨trivial,trivial,rfl⟩,h1,rfl,by simp⟩,h2⟩
theorem Sep.nB {l:List Sh} {d:Nat} {els es:List (List I)} (hs:Sep H n K ids) (hl:bE (Row (H.set (n,d) ⟨l.length,els⟩) l) els es []):Sep (H.set (n,d) ⟨l.length,els⟩) (n+1) ((.s l,.arr (n,d) els.length 0 els.length,.list true es)::K) ids:=by
 obtain⟨h0,S,h1,h2⟩:=hs;have hne:∀ i ∈ S,i ≠ (n,d):=fun i hi he=>by have:=(h2 i hi).1;rw[he] at this;simp at this
 refine⟨fun i hi=>by have:=h0 i hi;omega,(n,d)::S,?_,fun i hi=>?_⟩
 ·simp only[List.map_cons,Row,Tr];refine⟨[(n,d)],S,.inr ⟨(n,d),els,es,[],rfl,rfl,by simp[Heap.aT],hl,by simp,rfl⟩,h1.frame fun i hi=>Heap.aD _ _ (hne i hi),rfl,fun i hi hm=>?_⟩;simp at hi;exact hne i hm hi
 ·rcases List.mem_cons.1 hi with rfl | hi
  ·exact⟨by simp,fun hm=>by have:=h0 _ hm;simp at this⟩
  ·have:=h2 i hi;exact⟨by omega,this.2⟩
end
theorem bK.pure {P:Program} {f:FuncId} {args:List I} {h:Sh} {R:I->Prop} (hc:bK P f args h R):aC P f args R:=by
 unfold bK at hc;exact bz.mono hc fun _ _ _ ⟨r,h1,hR⟩=>⟨r,.of h1.ret,hR⟩
theorem aI.kG {P:Program} {N:Nat} {d:Option Tmp} {g:Operand} {args:Array Operand} {ats:Array TypeId} {ty:TypeId} {pos:String} {af:Array Edge} {gu:Option (Nat × Bool)} {O:Env} {H:Heap} {n:Nat} {R:I->Prop} {K:List bS} {ids:List Id}
  {f:FuncId} {b4:List I} {sh:Sh} (hg:O.ev g = .fn (.func f) [] []) (cP:aZ P f) (ha:bW H n (args.toList.map O.ev) b4) (h:bK P f b4 sh R) (hs:Sep H n K ids) :
  aI P N ⟨d,.call ⟨.value g,args,ats⟩,ty,pos,af,gu⟩ O H n fun v1 H1 U=>∃ r,Sep H1 U ((sh,v1,r)::K) ids/\R r/\n<=U/\∀ i ∈ ids,H1 i=H i:=by
 classical
 refine aI.call hg cP ?_;intro c xs hH hn gd hl;simp only[List.nil_append,List.append_nil] at hl;have hb:Good ⟨c.w.heap.size,fun _=>0,bp,0,c.w⟩:=jT c.w gd.C7;obtain⟨hlen,hget⟩:=ha.get;have hrep:de ⟨c.w.heap.size,fun _=>0,bp,0,c.w⟩ b4 xs:=by
  refine⟨by rw[<- hlen];exact hl.1,fun i b x hb' hx=>?_⟩;have hi:=(List.getElem?_eq_some_iff.1 hb').1;have ha':(args.toList.map O.ev)[i]?=some ((args.toList.map O.ev)[i]'(by omega)):=List.getElem?_eq_getElem (by omega);exact hget i _ b ha' hb' c x hH hn gd (hl.2 i _ x ha' hx) _ rfl (fun _=>rfl)
 refine (h _ xs rfl rfl hb hrep).mono ?_;rintro e w' ⟨x,v,c1,he,hw,⟨r,hsep,hR⟩,hrv,hg1,hk⟩;subst hw;obtain⟨_,S,h1,h2⟩:=hsep;simp only[List.map_cons,List.map_nil,Row] at h1;obtain⟨S1,S2,hT,hS2,rfl,_⟩:=h1;subst hS2;simp only[List.append_nil] at h2;have hO:=hT.own;have hKS:∀ i:Id,(fun i:Id=>decide (i ∈ S1)) i=true↔i ∈ S1:=fun i=>by simp
 have hcl:Cq c1.H fun i=>decide (i ∈ S1):=fun id o ho hK e he a ha=>(hO.cells id o ho ((hKS id).1 hK) e he a ha).mono fun i hi=>(hKS i).2 hi
 obtain⟨c2,e1,e2,e3,g2,k2,r2⟩:=yV gd hg1 hk hcl;subst hH hn;have hT2:Tr c2.H sh (jj c.n v) r (S1.map (dI c.n)):=hT.sh fun i hi=>by rw[e1,uD ((hKS i).2 hi)]
 have hlow:∀ i:Id,i.1<c.n->c2.H i=c.H i:=fun i hi=>by rw[e1,merge_lt hi]
 obtain⟨h0,S,p1,p2⟩:=hs;have hst:∀ i ∈ S1.map (dI c.n),c.n<=i.1/\i.1<c2.n:=fun i hi=>by
  obtain⟨o,ho⟩:=hT2.has i hi;refine⟨?_,g2.stamp i o ho⟩;obtain⟨j,_,rfl⟩:=List.mem_map.1 hi;simp[dI]
 have hn2:c.n<=c2.n:=by rw[e2];omega
 refine⟨x,jj c.n v,c2,he,e3,⟨r,⟨fun i hi=>by have:=h0 i hi;omega,S1.map (dI c.n)++S,?_,fun i hi=>?_⟩,hR,hn2,fun i hi=>hlow i (h0 i hi)⟩,r2 v x hrv (hO.mv.mono fun i hi=>(hKS i).2 hi),g2,k2⟩
 ·simp only[List.map_cons,Row];refine⟨_,S,hT2,p1.frame fun i hi=>hlow i (p2 i hi).1,rfl,fun i hi hm=>?_⟩;have:=(hst i hi).1;have:=(p2 i hm).1;omega
 ·rcases List.mem_append.1 hi with hi | hi
  ·have:=hst i hi;exact⟨this.2,fun hm=>by have:=h0 i hm;omega⟩
  ·have:=p2 i hi;exact⟨by omega,this.2⟩
def PostS (h:Sh) (R:I->Prop) (Q:I->Heap->Nat->Prop):Prop:=∀ v H n r,Sep H n [(h,v,r)] []->R r->Q v H n
theorem bK.of {P:Program} {f:FuncId} {fn:Func} {body:Code} {args:List I} {R:I->Prop} {N:Nat} {h:Sh} (hfn:P.funcs[f]?=some fn) (hb:fn.body=some body) (hn:fn.ntmps=N) (hN:args.length<=N)
  (hq:∀ Q,PostS h R Q->J P f N [.code body] (iE args) bp 0 Q):bK P f args h R:=by
 subst hn;exact bz.mi hfn hb hN (hq (fun v H n=>∃ r,Sep H n [(h,v,r)] []/\R r) fun v H n r h1 h2=>⟨r,h1,h2⟩)
section
variable {P:Program} {f:FuncId} {N:Nat} {k:List Item} {Q:I->Heap->Nat->Prop} {Ty:Types} {l:List Oper} {O:Env} {H:Heap} {n:Nat} {K:List bS} {ids:List Id}
theorem bw.kG (hT:aU P Ty) {d:Option Tmp} {g:Operand} {args:Array Operand} {ats:Array TypeId} {ty:TypeId} {pos:String} {af:Array Edge} {R:I->Prop} {f':FuncId} {as1 b4:List I} {ops:List Oper} {sh:Sh}
  (h:bK P f' b4 sh R) (cP:aZ P f') (ha:bW H n as1 b4) (hs:Sep H n K ids)
  (hN:ops.all (fun o=>dA N o.dst)=true) (hl:(⟨d,.call ⟨.value g,args,ats⟩,ty,pos,af,none⟩::l:List Oper).all (fun o=>dA N o.dst)=true) (hg:O.ev g = .fn (.func f') [] []) (has:args.toList.map O.ev=as1)
  (hk:∀ v H1 U r,Sep H1 U ((sh,v,r)::K) ids->R r->n<=U->(∀ i ∈ ids,H1 i=H i)->cf P f N k Q Ty ops.toArray l (O.put d v) H1 U) :
  bw P f N k Q ops.toArray (⟨d,.call ⟨.value g,args,ats⟩,ty,pos,af,none⟩::l) O H n:=
 bw.op hT hN hl rfl (aI.kG hg cP (has ▸ ha) h hs) fun v H' n' ⟨r,h1,h2,h3,h4⟩=>hk v H' n' r h1 h2 h3 h4
end
end Go.Ab
namespace Go.Ab
variable [Inhabited cD]
section
variable {H H':Heap} {n n':Nat} {K K1 K2:List bS} {ids dO:List Id}
theorem Sep.CA (h:Sep H n K ids) (hn:n<=n') (hH:∀ i:Id,i.1<n->i ∉ ids->H' i=H i) (hi:∀ i ∈ dO,i ∈ ids\/(n<=i.1/\i.1<n')):Sep H' n' K dO:=
 h.keep hn hH fun i hi'=>(hi i hi').elim (fun h2=>⟨.inl h2,by have:=h.1 i h2;omega⟩) fun h2=>⟨.inr h2.1,h2.2⟩
theorem uB {w:Id} {o:Ob} (h:∀ i:Id,i.1<n->i ∉ ids->H' i=H i) (hw:w ∈ ids\/n<=w.1):∀ i:Id,i.1<n->i ∉ ids->(H'.set w o) i=H i:=fun i h1 h2=>by
 rw[Heap.aD _ _ (by rintro rfl;rcases hw with hw | hw;exact h2 hw;omega)];exact h i h1 h2
theorem Sep.var {d:Nat} {o:Ob} (h:Sep H n K ids):Sep (H.set (n,d) o) (n+1) K ((n,d)::ids):=
 h.CA (Nat.le_succ n) (uB (fun _ _ _=>rfl) (.inr (Nat.le_refl _))) fun i hi=>by
  rcases List.mem_cons.1 hi with rfl | hi
  ·exact .inr ⟨Nat.le_refl _,Nat.lt_succ_self _⟩
  ·exact .inl hi
theorem Sep.bG {w:Id} {o:Ob} (h:Sep H n K ids) (hw:w ∈ ids):Sep (H.set w o) n K ids:=
 h.CA (Nat.le_refl n) (uB (fun _ _ _=>rfl) (.inl hw)) fun _ hi=>.inl hi
theorem Sep.sub (h:Sep H n K ids) (hi:∀ i ∈ dO,i ∈ ids):Sep H n K dO:=h.CA (Nat.le_refl n) (fun _ _ _=>rfl) fun i h=>.inl (hi i h)
theorem Sep.addEmpty {l:List Sh} {d:Nat} (hs:Sep H n K ids):Sep (H.set (n,d) ⟨l.length,[]⟩) (n+1) ((.s l,.arr (n,d) 0 0 0,.list true [])::K) ids:=Sep.nB (els:=[]) (es:=[]) hs rfl
theorem uY {l:List Sh} {z z':List I} (h:Row H l z z' []):∀ k,bE (Row H l) (List.replicate k z) (List.replicate k z') []
 | 0=>rfl
 | k+1=>⟨[],[],h,uY h k,rfl,by simp⟩
theorem Sep.addRep {α:Type} [Inhabited α] {f:α->List I} {l:List Sh} {d k:Nat} {z:List I} (hs:Sep H n K ids) (hz:∀ H:Heap,Row H l z (f default) []) :
  Sep (H.set (n,d) ⟨l.length,List.replicate k z⟩) (n+1) ((.s l,.arr (n,d) k 0 k,.list true ((List.replicate k (default:α)).map f))::K) ids:=by
 have h:=Sep.nB (d:=d) (els:=List.replicate k z) (es:=List.replicate k (f default)) hs (uY (hz _) k);rw[List.map_replicate];simpa using h
theorem Sep.nw {x:bS} (h:Sep H n (x::K) ids):Sep H n (K++[x]) ids:=Sep.swap (K1:=[x]) h
theorem Sep.eg {l:List Sh} {v:I} {i:Int} {α:Type} {f:α->List I} {xs:List α} (h:Sep H n ((.s l,v,.list true (xs.map f))::K) ids) (hf:∀ t ∈ l,t = .c) (hb:0<=i/\i<xs.length) :
  ∃ id,v = .arr id xs.length 0 xs.length/\H id=some ⟨l.length,xs.map f⟩/\id.1<n/\id ∉ ids:=by
 obtain⟨h0,S,h1,h2⟩:=h;simp only[List.map_cons,Row,Tr] at h1;obtain⟨S1,S2,h3,_,rfl,_⟩:=h1;rcases h3 with ⟨_,e,_⟩ | ⟨id,els,es',T,rfl,he,q3,q4,q5,rfl⟩
 ·injection e with _ e
  have:xs=[]:=by simpa using e
  subst this;simp at hb;omega
 ·injection he with _ he
  subst he;have hel:els=xs.map f:=by
   have:∀ {as1 bs:List (List I)} {S:List Id},bE (Row H l) as1 bs S->as1=bs:=by
    intro as1
    induction as1 with
    | nil=>intro bs S hr;match bs,hr with
     | [],_=>rfl
     | _::_,hr=>exact hr.elim
    | cons a as1 ih=>
     intro bs S hr
     match bs,hr with
     | b::bs,⟨_,_,q1,q2,_,_⟩=>rw[(q1.fill hf).1,ih q2]
     | [],hr=>exact hr.elim
   exact this q4
  subst hel;exact⟨id,by simp,q3,(h2 id (by simp)).1,(h2 id (by simp)).2⟩
theorem Sep.len {Ty:Types} {t:TypeId} {j:TI} {l:List Sh} {v:I} {es:List (List I)} {m:Int} (h:Sep H n ((.s l,v,.list true es)::K) ids) (hk:kd Ty t = .slice j) (hm:m=(es.length:Int)):aJ Ty H t v=some (int m):=by
 obtain⟨_,es',he,hv⟩:=h.form
 injection he with _ he
 subst he hm;rcases hv with ⟨rfl,rfl⟩ | ⟨id,els,rfl,hl,hH,_⟩
 ·simp[aJ,hk]
 ·simp[aJ,hk,live,hH,hl]
theorem Sep.cells {l:List Sh} {v e:I} (h:Sep H n ((.s l,v,e)::K) ids):az v=some [v]:=by
 obtain⟨_,es,_,hv⟩:=h.form;rcases hv with ⟨rfl,_⟩ | ⟨id,els,rfl,_⟩<;>rfl
theorem Sep.aF {l:List Sh} {v e:I} (h:Sep H n ((.s l,v,e)::K) ids):Ab.aF v=true:=h.form.1
end
section
variable {P:Program} {f f':FuncId} {N:Nat} {k:List Item} {Q:I->Heap->Nat->Prop} {Ty:Types} {ops:Array Oper} {L:List Oper} {O:Env} {H:Heap} {n:Nat} {K1 K2:List bS} {ids:List Id} {t:TypeId} {j:TI} {l:List Sh} {v:I} {es:List (List I)} {o:Oper}
theorem cC {d:Nat} {x:I} (K1 K2:List bS) (add adds:List (List I)) (h:Sep H n ((.s l,v,.list true es)::(K1++K2)) ids) (hk:kd Ty t = .slice j) (hj:j.size=l.length) (hz:j.zero.length=j.size/\j.bytes<=131072)
  (hx:cb H x=some add) (ho:add.all (fun e=>e.all Ab.aF)=true) (hadd:∀ S,Row H (K1.map (·.1)) (K1.map (·.2.1)) (K1.map (·.2.2)) S->bE (Row H l) add adds S) (hne:adds ≠ []) (hlen:es.length+adds.length<=1073741824)
  (hc:∀ v' H' n',Sep H' n' ((.s l,v',.list true (es++adds))::K2) ids->(∀ i ∈ ids,H' i=H i)->n<=n'->cf P f N k Q Ty ops L (O.put o.dst v') H' n'):jd P f N k Q Ty ops (bb Ty (some d) t v x H n) o L O H n:=by
 obtain⟨v',H',n',h1,h2,h3,h4⟩:=Sep.append (d:=d) h hk hj hz hx ho hadd hne hlen;rw[h1,gp];exact hc v' H' n' h2 h3 h4
theorem cO {κ:Op->Nat} {d:Nat} {x:I} (K1 K2:List bS) (add adds:List (List I)) (h:Sep H n ((.s l,v,.list true es)::(K1++K2)) ids) (hk:kd Ty t = .slice j) (hj:j.size=l.length) (hz:j.zero.length=j.size/\j.bytes<=131072)
  (hx:cb H x=some add) (ho:add.all (fun e=>e.all Ab.aF)=true) (hadd:∀ S,Row H (K1.map (·.1)) (K1.map (·.2.1)) (K1.map (·.2.2)) S->bE (Row H l) add adds S) (hne:adds ≠ []) (hlen:es.length+adds.length<=1073741824)
  (hc:∀ v' H' n',Sep H' n' ((.s l,v',.list true (es++adds))::K2) ids->(∀ i ∈ ids,H' i=H i)->n<=n'->dq P f N k Q Ty κ ops L (O.put o.dst v') H' n'):jR P f N k Q Ty κ ops (bb Ty (some d) t v x H n) o L O H n:=by
 obtain⟨v',H',n',h1,h2,h3,h4⟩:=Sep.append (d:=d) h hk hj hz hx ho hadd hne hlen;rw[h1,iV];exact hc v' H' n' h2 h3 h4
theorem c8 {id:Id} {g q:Nat} {i:TI} {new news:List I} (K1 K2:List bS) (h:Sep H n ((.s l,.arr id g 0 g,.list true es)::(K1++K2)) ids) (hi:i.size=l.length) (hk:q<es.length) (hg:g=es.length) (hone:new.all Ab.aF=true)
  (hf:aY l K1 new news) (hc:∀ H',Sep H' n ((.s l,.arr id g 0 g,.list true (es.set q news))::K2) ids->(∀ i ∈ ids,H' i=H i)->cf P f N k Q Ty ops L (O.put o.dst .undef) H' n) :
  jd P f N k Q Ty ops (match cB (some i) (.ptr id g q 0) (some new) H with | some H'=>some (I.undef,H',n) | none=>none) o L O H n:=by
 obtain⟨H',h1,h2,h3⟩:=Sep.store h hi hk hg hone hf;rw[h1];exact (gp (v:=I.undef) (H':=H') (n':=n)).symm ▸ hc H' h2 h3
theorem b6 {K1:List bS} {cs ds:List I} (hf:aY l K1 cs ds):∀ S,Row H (K1.map (·.1)) (K1.map (·.2.1)) (K1.map (·.2.2)) S->bE (Row H l) [cs] [ds] S:=fun S h=>⟨S,[],hf.row h,rfl,by simp,by simp⟩
theorem xm {es:List (List I)} (h:∀ e ∈ es,e.length=l.length/\∀ a ∈ e,bV a) (hf:∀ t ∈ l,t = .c):∀ S,Row H (([]:List bS).map (·.1)) (([]:List bS).map (·.2.1)) (([]:List bS).map (·.2.2)) S->bE (Row H l) es es S:=fun S hS=>by
 simp only[List.map_nil,Row] at hS;subst hS;exact bE.fresh h hf
end
section
variable {P:Program} {f f':FuncId} {N:Nat} {k:List Item} {Q:I->Heap->Nat->Prop} {Ty:Types} {ops:Array Oper} {L:List Oper} {O:Env} {H:Heap} {n:Nat} {K:List bS} {ids:List Id} {t:TypeId} {j:TI} {l:List Sh} {v:I} {es:List (List I)} {o:Oper}
theorem bE.same {l:List Sh} (hf:∀ t ∈ l,t = .c):∀ {as1 bs:List (List I)} {S:List Id},bE (Row H l) as1 bs S->as1=bs
 | [],[],_,_=>rfl
 | [],_::_,_,hr=>hr.elim
 | _::_,[],_,hr=>hr.elim
 | a::as1,b::bs,_,⟨_,_,q1,q2,_,_⟩=>by rw[(q1.fill hf).1,bE.same hf q2]
theorem Sep.Eo {α:Type} {g:α->List I} {xs:List α} (h:Sep H n ((.s l,v,.list true (xs.map g))::K) ids) (hf:∀ t ∈ l,t = .c) :
  (v = .v (.slice none 0 0)/\xs=[])\/∃ id,v = .arr id xs.length 0 xs.length/\H id=some ⟨l.length,xs.map g⟩:=by
 obtain⟨h0,S,h1,h2⟩:=h;simp only[List.map_cons,Row,Tr] at h1;obtain⟨S1,S2,h3,_,rfl,_⟩:=h1;rcases h3 with ⟨rfl,e,_⟩ | ⟨id,els,es',T,rfl,he,q3,q4,q5,rfl⟩
 ·injection e with _ e
  exact .inl ⟨rfl,by simpa using e⟩
 ·injection he with _ he
  subst he;have:=bE.same hf q4;subst this;exact .inr ⟨id,by simp,q3⟩
theorem Sep.src {α:Type} {g:α->List I} {xs:List α} (h:Sep H n ((.s l,v,.list true (xs.map g))::K) ids) (hf:∀ t ∈ l,t = .c):cb H v=some (xs.map g):=by
 rcases h.Eo hf with ⟨rfl,rfl⟩ | ⟨id,rfl,hH⟩
 ·rfl
 ·simp[cb,live,hH];rw[<- List.map_take];simp
theorem Sep.cX {d:Nat} {x:I} {add:List (List I)} (h:Sep H n ((.s l,v,.list true es)::K) ids) (hf:∀ t ∈ l,t = .c) (hk:kd Ty t = .slice j) (hj:j.size=l.length) (hz:j.zero.length=j.size/\j.bytes<=131072)
  (hx:cb H x=some add) (ho:∀ e ∈ add,e.length=l.length/\∀ a ∈ e,bV a/\Ab.aF a=true) (hlen:es.length+add.length<=1073741824) :
  ∃ v' H' n',bb Ty (some d) t v x H n=some (v',H',n')/\Sep H' n' ((.s l,v',.list true (es++add))::K) ids/\(∀ i ∈ ids,H' i=H i)/\n<=n':=by
 have ho':add.all (fun e=>e.all Ab.aF)=true:=by
  rw[List.all_eq_true];intro e he;rw[List.all_eq_true];exact fun a ha=>((ho e he).2 a ha).2
 by_cases hne:add=[]
 ·subst hne;obtain⟨_,es',he,hv⟩:=h.form
  injection he with _ he
  subst he;rcases hv with ⟨rfl,rfl⟩ | ⟨id,els,rfl,hl,hH,_⟩
  ·refine⟨.v (.slice none 0 0),H,n,?_,by simpa using h,fun _ _=>rfl,Nat.le_refl _⟩;simp only[bb,hk,hx];rw[if_pos ⟨hz.1,hz.2,rfl,rfl⟩]
   rfl
  ·have hs:H.set id ⟨l.length,els⟩=H:=by
    funext i
    by_cases hi:i=id
    ·subst hi;simp[Heap.aT,hH]
    ·exact Heap.aD _ _ hi
   refine⟨.arr id es.length 0 es.length,H,n,?_,by simpa using h,fun _ _=>rfl,Nat.le_refl _⟩;simp only[bb,hk,hx];rw[if_pos ⟨hz.1,hz.2,rfl,rfl⟩];simp only[live,hH,hl,↓reduceIte];rw[if_pos ⟨trivial,trivial,hj.symm,by simpa using hlen⟩];simp[hj,hs]
 ·exact Sep.append (K1:=[]) (K2:=K) h hk hj hz hx ho' (xm (fun e he=>⟨(ho e he).1,fun a ha=>((ho e he).2 a ha).1⟩) hf) hne hlen
theorem cW {d:Nat} {x:I} (add:List (List I)) (h:Sep H n ((.s l,v,.list true es)::K) ids) (hf:∀ t ∈ l,t = .c) (hk:kd Ty t = .slice j) (hj:j.size=l.length) (hz:j.zero.length=j.size/\j.bytes<=131072)
  (hx:cb H x=some add) (ho:∀ e ∈ add,e.length=l.length/\∀ a ∈ e,bV a/\Ab.aF a=true) (hlen:es.length+add.length<=1073741824)
  (hc:∀ v' H' n',Sep H' n' ((.s l,v',.list true (es++add))::K) ids->(∀ i ∈ ids,H' i=H i)->n<=n'->cf P f N k Q Ty ops L (O.put o.dst v') H' n'):jd P f N k Q Ty ops (bb Ty (some d) t v x H n) o L O H n:=by
 obtain⟨v',H',n',h1,h2,h3,h4⟩:=Sep.cX (d:=d) h hf hk hj hz hx ho hlen;rw[h1,gp];exact hc v' H' n' h2 h3 h4
end
theorem BM (k:IntKind) (a:Int):aF (.v (.int k a))=true:=rfl
theorem xS (a:Bool):aF (.v (.bool a))=true:=rfl
theorem CU (a:ByteArray):aF (.v (.string a))=true:=rfl
theorem C2:aF (.v (.slice none 0 0))=true:=rfl
theorem yd (fr:Bool) (l:List (List I)):aF (.list fr l)=true:=rfl
theorem Cv (id:Id) (g o l:Nat):aF (.arr id g o l)=true:=rfl
theorem Cl (id:Id) (g o l:Nat):aF (.ptr id g o l)=true:=rfl
theorem cx {α:Type} [Inhabited α] {l:List α} {i:Int} {x:α} {q:Nat} (hb:0<=i/\i<l.length) (hx:x=at' l i) (hq:q=i.toNat):l[q]?=some x:=by
 obtain⟨h,hg⟩:=pL hb hx;rw[hq,List.getElem?_eq_getElem h,hg]
theorem oL {α:Type} {a:Option α} {b:α} (h:a=some b):a=some b:=h
theorem bI {α:Type} {l:List α} (h:l.length=2):∃ a b,l=[a,b]:=by match l,h with | [a,b],_=>exact⟨a,b,rfl⟩
theorem len3 {α:Type} {l:List α} (h:l.length=3):∃ a b c,l=[a,b,c]:=by match l,h with | [a,b,c],_=>exact⟨a,b,c,rfl⟩
theorem ld {α:Type} {l:List α} (h:l.length=4):∃ a b c d,l=[a,b,c,d]:=by match l,h with | [a,b,c,d],_=>exact⟨a,b,c,d,rfl⟩
theorem aW {α:Type} {l:List α} (h:l.length=6):∃ a b c d e f,l=[a,b,c,d,e,f]:=by match l,h with | [a,b,c,d,e,f],_=>exact⟨a,b,c,d,e,f,rfl⟩
theorem tj {α:Type} {l:List α} (h:l.length=7):∃ a b c d e f g,l=[a,b,c,d,e,f,g]:=by match l,h with | [a,b,c,d,e,f,g],_=>exact⟨a,b,c,d,e,f,g,rfl⟩
theorem ja {α:Type} {l:List α} (h:l.length=10):∃ a b c d e f g i j k,l=[a,b,c,d,e,f,g,i,j,k]:=by match l,h with | [a,b,c,d,e,f,g,i,j,k],_=>exact⟨a,b,c,d,e,f,g,i,j,k,rfl⟩
section
variable {P:Program} {f:FuncId} {N:Nat} {k:List Item} {Q:I->Heap->Nat->Prop} {Ty:Types} {l:List Oper} {O:Env} {H:Heap} {n:Nat} {K:List bS} {ids:List Id}
end
def au (n:Int):List I:=[int n]
def a7 (s:bc):List I:=[str s]
end Go.Ab
namespace Go.Ab
variable [Inhabited cD]
def xQ:I->List Id
 | .arr id _ _ _=>[id]
 | _=>[]
section
variable (P:Program) (N:Nat) (ops:Array Oper) (W:List Id)
end
section
variable {P:Program} {N:Nat} {ops:Array Oper} {W:List Id}
end
section
variable {P:Program} {f:FuncId} {N:Nat} {k:List Item} {O:Env} {H:Heap} {n:Nat} {Q:I->Heap->Nat->Prop}
end
section
variable (P:Program) (f:FuncId) (N:Nat) (k:List Item) (Q:I->Heap->Nat->Prop) (Ty:Types) (W:List Id) (ops:Array Oper)
end
section
variable {P:Program} {f:FuncId} {N:Nat} {k:List Item} {Q:I->Heap->Nat->Prop} {Ty:Types} {W:List Id} {ops:Array Oper} {o:Oper} {L:List Oper} {O:Env} {H:Heap} {n:Nat}
end
section
variable {P:Program} {f f':FuncId} {N:Nat} {k:List Item} {Q:I->Heap->Nat->Prop} {Ty:Types} {W:List Id} {L:List Oper} {O:Env} {H:Heap} {n:Nat} {K K1 K2:List bS} {ids:List Id} {t:TypeId} {j:TI} {l:List Sh} {v:I} {es:List (List I)} {o:Oper}
theorem Sep.at {α:Type} {g:α->List I} {xs:List α} (h:Sep H n ((.s l,v,.list true (xs.map g))::K) ids) (hf:∀ t ∈ l,t = .c):∀ i ∈ xQ v,H i=some ⟨l.length,xs.map g⟩/\i.1<n:=fun i hi=>by
 obtain⟨h0,S,h1,h2⟩:=h;simp only[List.map_cons,Row,Tr] at h1;obtain⟨S1,S2,h3,_,rfl,_⟩:=h1;rcases h3 with ⟨rfl,e,_⟩ | ⟨id,els,es',T,rfl,he,q3,q4,q5,rfl⟩
 ·cases hi
 ·injection he with _ he
  subst he;have:=bE.same hf q4;subst this;obtain rfl:i=id:=by simpa[xQ] using hi
  exact⟨q3,(h2 i (by simp)).1⟩
end
end Go.Ab
namespace Go.Ab
variable [Inhabited cD]
section
variable {P:Program} {Ty:Types} {N:Nat} {O:Env} {H:Heap} {n:Nat}
theorem ot {t e:TypeId} {w:World} (h:(underlying t).run P w = .ok (.slice e) w) (a:Option Addr) (m c:Nat):(Op.equal t (.slice a m c) (.slice none 0 0)).run P w = .ok a.isNone w:=by
 have h1:∀ k,(Op.equalIn (k+1) t (.slice a m c) (.slice none 0 0)).run P w = .ok a.isNone w:=fun k=>by cases a<;>simp[Op.equalIn,h]
 exact h1 9999
theorem aI.isNil (hT:aU P Ty) {d:Option Tmp} {t t' ty:TypeId} {x y:Operand} {pos:String} {af:Array Edge} {gu:Option (Nat × Bool)} {j:TI} {fr:Bool} {els:List (List I)} (hk:kd Ty t = .slice j) (hx:O.ev x = .list fr els) (hy:O.ev y = .v (.slice none 0 0)) :
  aI P N ⟨d,.binOp .eql t x y t',ty,pos,af,gu⟩ O H n fun v1 H1 U=>(∃ b:Bool,v1=bool b/\(b=true->els=[]))/\H1=H/\U=n:=
 aI.dD fun c a hH hn g r=>by
  obtain⟨i,e,hi,hd,hj⟩:=cq hk;have hde:=(hT t i hi).bD c.w;rw[hd] at hde;have rx:=r.ev x;have ry:=r.ev y;rw[hx] at rx;rw[hy] at ry;have ey:=ry.cn;have hrun:∀ (b:Option Addr) (m q:Nat),(binOp .eql t (.slice b m q) (.slice none 0 0)).run P c.w = .ok (.bool b.isNone) c.w:=fun b m q=>by
   show ((Op.equal t (.slice b m q) (.slice none 0 0)) >>= fun r=>_).run P c.w=_;simp only[Sem.run_bind,ot hde,Result.andThen_ok,Sem.run_pure]
  generalize hv:a.eval x=vx at rx;cases rx with
  | lnil=>exact⟨bool true,.bool true,c,by simp[execOp,hv,ey,hrun,eqGuard],⟨⟨true,rfl,fun _=>rfl⟩,hH,hn⟩,.v _,g,bn.refl c⟩
  | list fr els ad cap sz cell hs dN hm hsz hc h=>exact⟨bool false,.bool false,c,by simp[execOp,hv,ey,hrun,eqGuard],⟨⟨false,rfl,fun h=>by cases h⟩,hH,hn⟩,.v _,g,bn.refl c⟩
theorem bw.isNil (hT:aU P Ty) {f:FuncId} {k:List Item} {Q:I->Heap->Nat->Prop} {ops l:List Oper} {d:Option Tmp} {t t' ty:TypeId} {x y:Operand} {pos:String} {af:Array Edge} {j:TI} {fr:Bool} {els:List (List I)}
  (hN:ops.all (fun o=>dA N o.dst)=true) (hl:(⟨d,.binOp .eql t x y t',ty,pos,af,none⟩::l:List Oper).all (fun o=>dA N o.dst)=true) (hk:kd Ty t = .slice j) (hx:O.ev x = .list fr els) (hy:O.ev y = .v (.slice none 0 0))
  (h:∀ b:Bool,(b=true->els=[])->cf P f N k Q Ty ops.toArray l (O.put d (bool b)) H n):bw P f N k Q ops.toArray (⟨d,.binOp .eql t x y t',ty,pos,af,none⟩::l) O H n:=
 bw.op hT hN hl rfl (aI.isNil hT hk hx hy) (by rintro v H' n' ⟨⟨b,rfl,hb⟩,rfl,rfl⟩;exact h b hb)
end
section
variable {P:Program} {f f':FuncId} {N:Nat} {k:List Item} {Q:I->Heap->Nat->Prop} {Ty:Types} {ops:Array Oper} {L:List Oper} {O:Env} {H:Heap} {n:Nat} {K1 K2:List bS} {ids:List Id} {t:TypeId} {j:TI} {l:List Sh} {v:I} {es:List (List I)} {o:Oper}
theorem nT {κ:Op->Nat} {id:Id} {g q:Nat} {i:TI} {new news:List I} (K1 K2:List bS) (h:Sep H n ((.s l,.arr id g 0 g,.list true es)::(K1++K2)) ids) (hi:i.size=l.length) (hk:q<es.length) (hg:g=es.length) (hone:new.all Ab.aF=true)
  (hf:aY l K1 new news) (hc:∀ H',Sep H' n ((.s l,.arr id g 0 g,.list true (es.set q news))::K2) ids->(∀ i ∈ ids,H' i=H i)->dq P f N k Q Ty κ ops L (O.put o.dst .undef) H' n) :
  jR P f N k Q Ty κ ops (match cB (some i) (.ptr id g q 0) (some new) H with | some H'=>some (I.undef,H',n) | none=>none) o L O H n:=by
 obtain⟨H',h1,h2,h3⟩:=Sep.store h hi hk hg hone hf;rw[h1];exact (iV (v:=I.undef) (H':=H') (n':=n)).symm ▸ hc H' h2 h3
end
end Go.Ab
namespace Go.Ab
variable [Inhabited cD]
section
variable {P:Program} {N:Nat} {Ty:Types} {O:Env} {H:Heap} {n:Nat}
variable {d:Option Tmp} {ty:TypeId} {pos:String} {af:Array Edge} {gu:Option (Nat × Bool)}
theorem tI {c:Ctx} (g:Good c) {t e:TypeId} {j:TI} {info:TypeInfo} {zv:Value} (ht:P.underlying t=some (.slice e)) (hi:P.info? e=some info) (hs:info.size=j.size) (hb:info.bytes=j.bytes) (hz:info.zero=some zv) (hzs:zv.cells.size=j.size)
  (k:Nat) {sv xv:Value} {cu els:List (List I)} (rs:Src c sv cu j.size) (hf:full sv=true) (rx:Src c xv els j.size) (hpos:els ≠ []) (hbytes:(cu.length+els.length) * j.bytes<=140737488355328) (hm:cu.length+els.length<=4611686018427387904) :
  ∃ u c',(Builtin.append_ #[t,t] ty #[sv,xv]).run P c.w = .ok u c'.w/\c'.H=c.H.set (c.n,k) ⟨j.size,cu++els⟩/\c'.n=c.n+1/\bT c' (.arr (c.n,k) (cu.length+els.length) 0 (cu.length+els.length)) u/\Good c'/\bn c c':=by
 rcases rs with ⟨rfl,rfl⟩ | ⟨sa,scap,onews,rfl,honl,honcell,honrep⟩
 ·simpa using append_nil g ht hi hs hb hz hzs k rx hpos (by simpa using hbytes) (by simpa using hm)
 rcases rx with ⟨rfl,rfl⟩ | ⟨xa,xcap,news,rfl,hnl,hncell,hnrep⟩
 ·exact absurd rfl hpos
 have hlen:0<els.length:=List.length_pos_iff.2 hpos;have dN:cu.length=scap:=by simpa[full] using hf
 subst dN;have hfit3:=growslice_fits (need:=cu.length+els.length) (old:=cu.length) (bytes:=info.bytes) (by omega) (by rw[hb];exact hbytes);have hrun:=run_append_grow (P:=P) c.w t ty e info zv ht hi hz sa cu.length cu.length onews (by rw[hs];exact honl) honcell xa els.length xcap news (by rw[hs];exact hnl) hncell (by omega) (by omega) hfit3;have hge:=grownCap_ge c.w (cu.length+els.length) cu.length e;generalize hgc:grownCap c.w (cu.length+els.length) cu.length e=gc at hrun hge;have hholds:Holds c (onews.toArray++news.toArray++Builtin.zeroCells zv.cells (gc - (cu.length+els.length))) ⟨j.size,cu++els⟩:=by
  have:=dY (c:=c) (o:=⟨j.size,cu⟩) (els:=els) (news:=news) (cu:=onews) (rest:=(Builtin.zeroCells zv.cells (gc - (cu.length+els.length))).toList) hnl hnrep honl honrep rfl;have e1:onews.toArray++news.toArray++Builtin.zeroCells zv.cells (gc - (cu.length+els.length))=(onews++news++(Builtin.zeroCells zv.cells (gc - (cu.length+els.length))).toList).toArray:=by
   apply Array.ext';simp
  rw[e1];exact this
 have hsize:(onews.toArray++news.toArray++Builtin.zeroCells zv.cells (gc - (cu.length+els.length))).size=gc * j.size:=by
  simp only[Array.size_append,List.size_toArray,honl,hnl,size_zeroCells,hzs,<- Nat.add_mul]
  congr 1
  omega
 generalize hcells:onews.toArray++news.toArray++Builtin.zeroCells zv.cells (gc - (cu.length+els.length))=cells at hrun hholds hsize;have hk:=oP g (c.n,k) ⟨j.size,cu++els⟩ (c.w.drew.alloc (.cells cells e)) cells e (c.n+1) ⟨rfl,rfl,rfl⟩ (by simp) (fun k hk=>heap_alloc_old c.w.drew _ k hk) (heap_alloc_new c.w.drew _) (Nat.le_succ _) (Nat.lt_succ_self _) (fun h=>absurd h (Nat.lt_irrefl _)) hholds;refine⟨_,{ B:=c.B,β:=fun j=>if j=(c.n,k) then c.w.heap.size else c.β j,H:=c.H.set (c.n,k) ⟨j.size,cu++els⟩,n:=c.n+1,w:=c.w.drew.alloc (.cells cells e) },hrun,rfl,rfl,?_,hk.2,hk.1⟩;refine .arr (c.n,k) _ _ _ _ rfl (Nat.lt_succ_self _) (fun o' ho'=>?_) (fun o' ho' _=>?_)
 ·simp only[Heap.a8,Option.some.injEq] at ho';subst ho';simp
 ·simp only[Heap.a8,Option.some.injEq] at ho';subst ho';refine⟨by omega,_,_,rfl,by simp,rfl,hge,.inl (by simp),fun cl' el' fz' hcl'=>?_⟩;simp only[if_true] at hcl';have h2:=heap_alloc_new c.w.drew (.cells cells e);simp only[World.size_drew] at h2;rw[h2] at hcl';cases hcl';rw[hsize];simp
theorem bT.uM {c:Ctx} {fr:Bool} {els:List (List Value)} {x:Value} (r:bT c (.clip fr els) x):full x=true/\bT c (.list fr (els.map fun e=>e.map .v)) x:=by
 cases r with
 | clip _ _ _ hf h=>exact⟨hf,h⟩
theorem aI.DO (hT:aU P Ty) {dd:Nat} {t:TypeId} {s x:Operand} {j:TI} {fr:Bool} {vs:List (List Value)} {els:List (List I)} (hk:kd Ty t = .slice j) (hs:O.ev s = .clip fr vs) (hx:cb H (O.ev x)=some els)
  (hv:vs.all (·.length == j.size)=true) (hsz:els.all (·.length == j.size)=true) (hne:els ≠ []) (hz:j.zero.length=j.size/\j.bytes<=131072) (hm:vs.length+els.length<=1073741824) :
  aI P N ⟨some dd,.call ⟨.builtin .append,#[s,x],#[t,t]⟩,ty,pos,af,gu⟩ O H n fun v1 H1 U=>v1 = .arr (n,dd) (vs.length+els.length) 0 (vs.length+els.length)/\H1=H.set (n,dd) ⟨j.size,(vs.map fun e=>e.map .v)++els⟩/\U=n+1:=by
 refine aI.dD fun c a hH hn g r=>?_
 subst hH;obtain⟨i,e,hi,hde,hje⟩:=cq hk;obtain⟨hu,_⟩:=hT t i hi;rw[hde] at hu;obtain⟨_,info,zv,hinfo,his,hib,hiz,hzc⟩:=hT e j hje;have rs:=r.ev s;rw[hs] at rs;obtain⟨hf,rl⟩:=rs.uM;have rs':=ft (sz:=j.size) g rl (els:=vs.map fun e=>e.map .v) rfl (by simpa[List.all_map,Function.comp_def] using hv);have hl:(vs.map fun e=>e.map I.v).length=vs.length:=by simp
 obtain⟨u,c',hrun,hH',hn',hrep,hgood,hkeep⟩:=tI (P:=P) (ty:=ty) g hu hinfo his hib hiz (by rw[hzc];simpa using hz.1) dd rs' hf (ft g (r.ev x) hx hsz) hne (by rw[hl];exact kl hm hz.2) (by rw[hl];omega);rw[hl] at hrep;rw[hn] at hH' hn' hrep;exact⟨_,u,c',fu hrun,⟨rfl,hH',hn'⟩,hrep,hgood,hkeep⟩
theorem pn {c:Ctx} (g:Good c) {sz:Nat} {els:List (List I)} {cells:Array Value} {e:TypeId} (E:Holds c cells ⟨sz,els⟩) {cap:Nat} (hc:els.length<=cap) :
  bT { c with w:=c.w.drew.alloc (.cells cells e) } (.list true els) (.slice (some ⟨c.w.heap.size,0,none⟩) els.length cap)/\Good { c with w:=c.w.drew.alloc (.cells cells e) }/\bn c { c with w:=c.w.drew.alloc (.cells cells e) }:=by
 have hk:=du g (c.w.drew.alloc (.cells cells e)) ⟨rfl,rfl,rfl⟩ (by simp) (fun k hk=>heap_alloc_old c.w.drew _ k hk);refine⟨?_,hk.2,hk.1⟩;have hnew:=heap_alloc_new c.w.drew (.cells cells e);simp only[World.size_drew] at hnew;refine .list true els _ cap sz (fun p q=>cells.getD (p * sz+q) undef) (fun _=>rfl) hc (fun _=>⟨?_,by simp,fun _=>g.Bsize⟩) (fun i e he=>(E.2 i e he).1) (fun i e j x he hx=>?_) (fun i e j x he hx=>?_)
 ·rintro⟨id,o,ho,hb⟩;have:=g.lt ho;simp only at hb;omega
 ·obtain⟨y,hy,_⟩:=(E.2 i e he).2 j x hx;simp only at hy;simp only[World.cell?];rw[hnew];simp[Array.getD_eq_getD_getElem?,hy]
 ·obtain⟨y,hy,hr⟩:=(E.2 i e he).2 j x hx;rw[Array.getD_eq_getD_getElem?,hy];exact hr.keeps hk.1
theorem sX {c:Ctx} (g:Good c) {t e:TypeId} {j:TI} {info:TypeInfo} {zv:Value} (ht:P.underlying t=some (.slice e)) (hi:P.info? e=some info) (hs:info.size=j.size) (hb:info.bytes=j.bytes) (hz:info.zero=some zv) (hzs:zv.cells.size=j.size)
  {sv xv:Value} {cu els:List (List I)} (rs:Src c sv cu j.size) (hf:full sv=true) (rx:Src c xv els j.size) (hpos:els ≠ []) (hbytes:(cu.length+els.length) * j.bytes<=140737488355328) (hm:cu.length+els.length<=4611686018427387904) :
  ∃ u w',(Builtin.append_ #[t,t] ty #[sv,xv]).run P c.w = .ok u w'/\bT { c with w:=w' } (.list true (cu++els)) u/\Good { c with w:=w' }/\bn c { c with w:=w' }:=by
 rcases rx with ⟨rfl,rfl⟩ | ⟨xa,xcap,news,rfl,hnl,hncell,hnrep⟩
 ·exact absurd rfl hpos
 have hlen:0<els.length:=List.length_pos_iff.2 hpos;rcases rs with ⟨rfl,rfl⟩ | ⟨sa,scap,onews,rfl,honl,honcell,honrep⟩
 ·have hrun:=run_append_nil (P:=P) c.w t ty e info zv ht hi hz xa els.length xcap news (by rw[hs];exact hnl) hncell hlen (by simp at hm;omega) (by rw[hb];simp at hbytes;omega);have hge:=grownCap_ge c.w els.length 0 e;generalize hgc:grownCap c.w els.length 0 e=gc at hrun hge;have hholds:Holds c (news.toArray++Builtin.zeroCells zv.cells (gc - els.length)) ⟨j.size,els⟩:=by
   have:=dY (c:=c) (o:=⟨j.size,[]⟩) (els:=els) (news:=news) (cu:=[]) (rest:=(Builtin.zeroCells zv.cells (gc - els.length)).toList) hnl hnrep (by simp) (fun i e he=>by simp at he) rfl;have e1:news.toArray++Builtin.zeroCells zv.cells (gc - els.length)=([]++news++(Builtin.zeroCells zv.cells (gc - els.length)).toList).toArray:=by
    apply Array.ext';simp
   rw[e1];simpa using this
  have hk:=pn (e:=e) g hholds (cap:=gc) hge;exact⟨_,_,hrun,hk.1,hk.2.1,hk.2.2⟩
 have dN:cu.length=scap:=by simpa[full] using hf
 subst dN;have hfit3:=growslice_fits (need:=cu.length+els.length) (old:=cu.length) (bytes:=info.bytes) (by omega) (by rw[hb];exact hbytes);have hrun:=run_append_grow (P:=P) c.w t ty e info zv ht hi hz sa cu.length cu.length onews (by rw[hs];exact honl) honcell xa els.length xcap news (by rw[hs];exact hnl) hncell (by omega) (by omega) hfit3;have hge:=grownCap_ge c.w (cu.length+els.length) cu.length e;generalize hgc:grownCap c.w (cu.length+els.length) cu.length e=gc at hrun hge;have hholds:Holds c (onews.toArray++news.toArray++Builtin.zeroCells zv.cells (gc - (cu.length+els.length))) ⟨j.size,cu++els⟩:=by
  have:=dY (c:=c) (o:=⟨j.size,cu⟩) (els:=els) (news:=news) (cu:=onews) (rest:=(Builtin.zeroCells zv.cells (gc - (cu.length+els.length))).toList) hnl hnrep honl honrep rfl;have e1:onews.toArray++news.toArray++Builtin.zeroCells zv.cells (gc - (cu.length+els.length))=(onews++news++(Builtin.zeroCells zv.cells (gc - (cu.length+els.length))).toList).toArray:=by
   apply Array.ext';simp
  rw[e1];exact this
 have hk:=pn (e:=e) g hholds (cap:=gc) (by simpa using hge);have hl:(cu++els).length=cu.length+els.length:=by simp
 rw[hl] at hk;exact⟨_,_,hrun,hk.1,hk.2.1,hk.2.2⟩
theorem aI.oC (hT:aU P Ty) {t:TypeId} {s x:Operand} {j:TI} {fr:Bool} {vs:List (List Value)} {els:List (List I)} (hk:kd Ty t = .slice j) (hs:O.ev s = .clip fr vs) (hx:cb H (O.ev x)=some els)
  (hv:vs.all (·.length == j.size)=true) (hsz:els.all (·.length == j.size)=true) (hne:els ≠ []) (hz:j.zero.length=j.size/\j.bytes<=131072) (hm:vs.length+els.length<=1073741824) :
  aI P N ⟨d,.call ⟨.builtin .append,#[s,x],#[t,t]⟩,ty,pos,af,gu⟩ O H n fun v1 H1 U=>v1 = .list true ((vs.map fun e=>e.map .v)++els)/\H1=H/\U=n:=by
 refine aI.dD fun c a hH hn g r=>?_
 subst hH;obtain⟨i,e,hi,hde,hje⟩:=cq hk;obtain⟨hu,_⟩:=hT t i hi;rw[hde] at hu;obtain⟨_,info,zv,hinfo,his,hib,hiz,hzc⟩:=hT e j hje;have rs:=r.ev s;rw[hs] at rs;obtain⟨hf,rl⟩:=rs.uM;have rs':=ft (sz:=j.size) g rl (els:=vs.map fun e=>e.map .v) rfl (by simpa[List.all_map,Function.comp_def] using hv);have hl:(vs.map fun e=>e.map I.v).length=vs.length:=by simp
 obtain⟨u,w',hrun,hrep,hgood,hkeep⟩:=sX (P:=P) (ty:=ty) g hu hinfo his hib hiz (by rw[hzc];simpa using hz.1) rs' hf (ft g (r.ev x) hx hsz) hne (by rw[hl];exact kl hm hz.2) (by rw[hl];omega);exact⟨_,u,{ c with w:=w' },fu hrun,⟨rfl,rfl,hn⟩,hrep,hgood,hkeep⟩
theorem mz {c:Ctx} {a:Act} (r:cN N c O a) {x:Operand} {k:IntKind} {m:Int} (h:O.ev x = .v (.int k m)):a.eval x = .int k m:=by
 have:=r.ev x;rw[h] at this;exact this.cn
theorem aI.CY (hT:aU P Ty) {t:TypeId} {x hi mx:Operand} {j:TI} {fr:Bool} {vs:List (List Value)} {k k':IntKind} (hk:kd Ty t = .slice j) (hx:O.ev x = .list fr (vs.map fun e=>e.map .v))
  (E:O.ev hi = .v (.int k vs.length)) (hm:O.ev mx = .v (.int k' vs.length)) :
  aI P N ⟨d,.slice t x none (some hi) (some mx),ty,pos,af,gu⟩ O H n fun v1 H1 U=>v1 = .clip fr vs/\H1=H/\U=n:=
 aI.pure fun c a hH g r=>by
  obtain⟨i,e,hi',hd,hj⟩:=cq hk;have hde:=(hT t i hi').bD c.w;have hsz:=(hT e j hj).cF c.w;have rx:=r.ev x;rw[hx] at rx;have e1:=mz r E;have e2:=mz r hm;have hb:∀ cap:Nat,vs.length<=cap->(Instr.sliceBounds true vs.length cap none (some (a.eval hi)) (some (a.eval mx))).run P c.w = .ok (0,vs.length,vs.length) c.w:=fun cap dN=>by
   have b1:∀ code,(Instr.sliceBound (.int k' vs.length) cap code).run P c.w = .ok vs.length c.w:=fun code=>iy (by omega) (by omega)
   have b2:∀ code,(Instr.sliceBound (.int k vs.length) vs.length code).run P c.w = .ok vs.length c.w:=fun code=>iy (by omega) (by omega)
   simp[Instr.sliceBounds,e1,e2,b1,b2]
  generalize hvx:a.eval x=vx at rx;generalize hE:(vs.map fun e=>e.map I.v)=els at rx;have hlen:els.length=vs.length:=by rw[<- hE];simp
  cases rx with
  | lnil fr=>
   have h0:vs.length=0:=by simpa using hlen.symm
   have h1:=hb 0 (by omega);rw[h0] at h1;refine⟨.slice none 0 0,by simp[execOp,Instr.sliceAt,Instr.slice,hde,hd,hvx,h1,hsz],.clip fr vs _ rfl ?_⟩;rw[hE];exact .lnil fr
  | list fr els ad cap sz cell hs dN hmm hsz' hcc hr=>
   have h1:=hb cap (by omega);refine⟨.slice (some ad) vs.length vs.length,?_,.clip fr vs _ (by simp[full]) ?_⟩
   ·by_cases h0:vs.length=0
    ·rw[h0] at h1 hlen;rw[hlen] at hvx;simp[execOp,Instr.sliceAt,Instr.slice,hde,hd,hvx,h1,hsz,h0]
    ·have hadd:ad.add 0=ad:=by
      have hsp:=hs (by intro h;rw[h] at hlen;simp at hlen;omega);obtain⟨b,o,M⟩:=ad;simp only at hsp;subst hsp;rw[Addr.add_lit];rfl
     rw[hlen] at hvx;simp[execOp,Instr.sliceAt,Instr.slice,hde,hd,hvx,h1,hsz,hadd]
   ·rw[hE,<- hlen];exact .list fr els ad els.length sz cell hs (Nat.le_refl _) hmm hsz' hcc hr
end
section
variable {P:Program} {f:FuncId} {N:Nat} {k:List Item} {Q:I->Heap->Nat->Prop} {Ty:Types} {l:List Oper} {O:Env} {H:Heap} {n:Nat}
variable {d:Option Tmp} {ty:TypeId} {pos:String} {af:Array Edge}
theorem bw.oC (hT:aU P Ty) {ops:List Oper} {t:TypeId} {s x:Operand} {j:TI} {fr:Bool} {vs:List (List Value)} {els:List (List I)}
  (hN:ops.all (fun o=>dA N o.dst)=true) (hl:(⟨d,.call ⟨.builtin .append,#[s,x],#[t,t]⟩,ty,pos,af,none⟩::l:List Oper).all (fun o=>dA N o.dst)=true) (hk:kd Ty t = .slice j) (hz:j.zero.length=j.size/\j.bytes<=131072) (hs:O.ev s = .clip fr vs) (hx:cb H (O.ev x)=some els)
  (hv:vs.all (·.length == j.size)=true) (hsz:els.all (·.length == j.size)=true) (hne:els ≠ []) (hm:vs.length+els.length<=1073741824)
  (h:cf P f N k Q Ty ops.toArray l (O.put d (.list true ((vs.map fun e=>e.map .v)++els))) H n):bw P f N k Q ops.toArray (⟨d,.call ⟨.builtin .append,#[s,x],#[t,t]⟩,ty,pos,af,none⟩::l) O H n:=
 bw.op hT hN hl rfl (aI.oC hT hk hs hx hv hsz hne hz hm) (by rintro v H' n' ⟨rfl,rfl,rfl⟩;exact h)
theorem bw.CY (hT:aU P Ty) {ops:List Oper} {t:TypeId} {x hi mx:Operand} {j:TI} {fr:Bool} {vs:List (List Value)} {k1 k2:IntKind}
  (hN:ops.all (fun o=>dA N o.dst)=true) (hl:(⟨d,.slice t x none (some hi) (some mx),ty,pos,af,none⟩::l:List Oper).all (fun o=>dA N o.dst)=true) (hk:kd Ty t = .slice j) (hx:O.ev x = .list fr (vs.map fun e=>e.map .v))
  (E:O.ev hi = .v (.int k1 vs.length)) (hm:O.ev mx = .v (.int k2 vs.length))
  (h:cf P f N k Q Ty ops.toArray l (O.put d (.clip fr vs)) H n):bw P f N k Q ops.toArray (⟨d,.slice t x none (some hi) (some mx),ty,pos,af,none⟩::l) O H n:=
 bw.op hT hN hl rfl (aI.CY hT hk hx E hm) (by rintro v H' n' ⟨rfl,rfl,rfl⟩;exact h)
end
def lV (n:Int):List Value:=[.int .i64 n]
theorem lJ (l:List Int):(l.map lV).map (fun e=>e.map I.v)=l.map au:=by simp[lV,au,Function.comp_def]
section
variable {P:Program} {f:FuncId} {N:Nat} {k:List Item} {Q:I->Heap->Nat->Prop} {Ty:Types} {L:List Oper} {O:Env} {H:Heap} {n:Nat}
variable {d:Option Tmp} {ty:TypeId} {pos:String} {af:Array Edge}
theorem bw.DE (hT:aU P Ty) {ops:List Oper} {t:TypeId} {s x:Operand} {j:TI} {fr t':Bool} {l m:List Int}
  (hN:ops.all (fun o=>dA N o.dst)=true) (hl:(⟨d,.call ⟨.builtin .append,#[s,x],#[t,t]⟩,ty,pos,af,none⟩::L:List Oper).all (fun o=>dA N o.dst)=true) (hk:kd Ty t = .slice j) (hz:j.size=1/\j.zero.length=1/\j.bytes<=131072) (hs:O.ev s = .clip fr (l.map lV)) (hx:O.ev x = .list t' (m.map au))
  (hne:m ≠ []) (hm:l.length+m.length<=1073741824)
  (h:cf P f N k Q Ty ops.toArray L (O.put d (.list true ((l++m).map au))) H n):bw P f N k Q ops.toArray (⟨d,.call ⟨.builtin .append,#[s,x],#[t,t]⟩,ty,pos,af,none⟩::L) O H n:=
 bw.oC hT hN hl hk ⟨by omega,hz.2.2⟩ hs (els:=m.map au) (by rw[hx];rfl) (by simp[hz.1,lV]) (by simp[hz.1,au]) (by simpa using hne) (by simpa using hm) (by rw[lJ,<- List.map_append];exact h)
theorem aI.BH (hT:aU P Ty) {gu:Option (Nat × Bool)} {t:TypeId} {s x:Operand} {j:TI} {fr t':Bool} {l m:List Int} (hk:kd Ty t = .slice j) (hz:j.size=1/\j.zero.length=1/\j.bytes<=131072) (hs:O.ev s = .clip fr (l.map lV)) (hx:O.ev x = .list t' (m.map au))
  (hne:m ≠ []) (hm:l.length+m.length<=1073741824) :
  aI P N ⟨d,.call ⟨.builtin .append,#[s,x],#[t,t]⟩,ty,pos,af,gu⟩ O H n fun v1 H1 U=>v1 = .list true ((l++m).map au)/\H1=H/\U=n:=by
 have:=aI.oC (P:=P) (N:=N) (O:=O) (H:=H) (n:=n) (d:=d) (ty:=ty) (pos:=pos) (af:=af) (gu:=gu) hT hk hs (x:=x) (els:=m.map au) (by rw[hx];rfl) (by simp[hz.1,lV]) (by simp[hz.1,au]) (by simpa using hne) ⟨by omega,hz.2.2⟩ (by simpa using hm);rw[lJ,<- List.map_append] at this;exact this
end
end Go.Ab
namespace Go.Ab
abbrev fa : String := "internal/strconv.uint64pow10"
def cD.Cu (P:Program):cD:=⟨fun w B=>∀ g,P.globalNamed fa=some g->g<B/\Lib.TabIs P w fa .u64 Lib.pow10Tab,fun {w w' B B'} h hB hw g hg=>by
 obtain⟨h1,h2⟩:=h g hg;refine⟨Nat.lt_of_lt_of_le h1 hB,?_⟩;unfold Lib.TabIs World.var? at h2 ⊢;rw[hg] at h2 ⊢;simp only[Option.bind_some] at h2 ⊢;rw[hw g h1];exact h2⟩
theorem cD.AL {P:Program} {g:Nat} (hg:P.globalNamed fa=some g) {w:World} {B:Nat} (h:(cD.Cu P).T w B):Lib.TabIs P w fa .u64 Lib.pow10Tab:=(h g hg).2
theorem cD.xd {P:Program} {W:World} {laid front rest:List (String × DataW Unit)} {g:Nat} {t e:TypeId} {n:Nat} (hpl:(laid.all fun x=>x.2.handleName?.isNone)=true) (hl:laid=front++(fa,Lib.tabData .u64 Lib.pow10Tab)::rest)
  (hg:P.globalNamed fa=some g) (hty:(P.globals[g]?).map (·.type)=some t) (ht:P.underlying t=some (.array n e)) (he:P.underlying e=some (.int .u64)) (hce:P.cellsOf e=1) (hct:P.cellsOf t=n)
  (h:laidMetH P laid W):(cD.Cu P).T W W.heap.size:=by
 rw[MakeChecks.laidMetH_plain _ _ _ hpl,hl] at h;have key:∀ (f:List (String × DataW Unit)),laidMet P (f++(fa,Lib.tabData .u64 Lib.pow10Tab)::rest) W->laidMet P ((fa,Lib.tabData .u64 Lib.pow10Tab)::rest) W:=fun f=>by
  induction f with
  | nil=>exact id
  | cons x f ih=>exact fun h=>ih (Go.laidMet.tail h)
 have h2:=Lib.tabIs_of_head hg hty ht he hce hct (key front h);intro g' hg';obtain rfl:=Option.some.inj (hg.symm.trans hg');refine⟨?_,h2⟩;unfold Lib.TabIs World.var? at h2;rw[hg] at h2;simp only[Option.bind_some] at h2;rcases Nat.lt_or_ge g W.heap.size with h3 | h3
 ·exact h3
 ·rw[Array.getElem?_eq_none h3] at h2;cases h2
end Go.Ab
