/- Merged texts (3 of 12) of the proof that ends in Amy: Sp Sq Sr Ss Sv Sw Sk. -/
import Derived.Test.YtfjladalegioaaaGreatDoorAbQam2
set_option linter.unusedSectionVars false
set_option linter.unusedSimpArgs false
set_option linter.unusedVariables false
namespace Go.Ab
variable [Inhabited cn]
inductive Sh where
 | c
 | s (l:List Sh)
 | a (l:List Sh)
 | t (l:List Sh)
def aW (R:List ao->List ao->List Id->Prop):List (List ao)->List (List ao)->List Id->Prop
 | [],[],T=>T=[]
 | e::es,f::fs,T=>∃ T1 T2,R e f T1/\aW R es fs T2/\T=T1++T2/\∀ i ∈ T1,i ∉ T2
 | _,_,_=>False
mutual
def Tr (H:au):Sh->ao->ao->List Id->Prop
 | .c,a,b,S=>a=b/\ba a/\S=[]
 | .s l,a,b,S=>(a = .v (.slice none 0 0)/\b = .list true []/\S=[])\/∃ id els es T,a = .arr id els.length 0 els.length/\b = .list true es/\H id=some ⟨l.length,els⟩/\aW (Row H l) els es T/\id ∉ T/\S=id::T
 | .a l,a,b,S=>∃ as1 bs,a = .agg as1/\b = .agg bs/\Row H l as1 bs S
 | .t l,a,b,S=>∃ as1 bs,a = .tup as1/\b = .tup bs/\Row H l as1 bs S
def Row (H:au):List Sh->List ao->List ao->List Id->Prop
 | [],[],[],S=>S=[]
 | h::l,a::as1,b::bs,S=>∃ S1 S2,Tr H h a b S1/\Row H l as1 bs S2/\S=S1++S2/\∀ i ∈ S1,i ∉ S2
 | _,_,_,_=>False
end
section
variable {R R':List ao->List ao->List Id->Prop}
theorem aW.mono:∀ {as1 bs:List (List ao)} {S:List Id},aW R as1 bs S->(∀ (e f:List ao) (T:List Id),R e f T->(∀ i ∈ T,i ∈ S)->R' e f T)->aW R' as1 bs S
 | [],[],_,h,_=>h
 | _::_,_::_,_,⟨T1,T2,h1,h2,h3,h4⟩,hm=>⟨T1,T2,hm _ _ _ h1 (fun i hi=>by simp[h3,hi]),aW.mono h2 (fun e f T h hs=>hm e f T h fun i hi=>by simp[h3,hs i hi]),h3,h4⟩
 | [],_::_,_,h,_=>h.elim
 | _::_,[],_,h,_=>h.elim
theorem aW.len:∀ {as1 bs:List (List ao)} {S:List Id},aW R as1 bs S->as1.length=bs.length
 | [],[],_,_=>rfl
 | _::_,_::_,_,⟨_,_,_,h2,_,_⟩=>by simp[h2.len]
 | [],_::_,_,h=>h.elim
 | _::_,[],_,h=>h.elim
theorem aW.append:∀ {as1 bs cs ds:List (List ao)} {S T:List Id},aW R as1 bs S->aW R cs ds T->(∀ i ∈ S,i ∉ T)->aW R (as1++cs) (bs++ds) (S++T)
 | [],[],_,_,_,_,h,k,_=>by rw[show _=[] from h];exact k
 | _::_,_::_,_,_,_,T,⟨T1,T2,h1,h2,h3,h4⟩,k,hd=>by
  subst h3;refine⟨T1,T2++T,h1,aW.append h2 k (fun i hi=>hd i (by simp[hi])),by simp,fun i hi hm=>?_⟩;rcases List.mem_append.1 hm with hm | hm
  ·exact h4 i hi hm
  ·exact hd i (by simp[hi]) hm
 | [],_::_,_,_,_,_,h,_,_=>h.elim
 | _::_,[],_,_,_,_,h,_,_=>h.elim
theorem aW.at:∀ {as1 bs:List (List ao)} {S:List Id} {k:Nat},aW R as1 bs S->k<as1.length->∃ (e f:List ao) (T ag:List Id),as1[k]?=some e/\bs[k]?=some f/\R e f T/\(∀ i ∈ T,i ∈ S)/\(∀ i ∈ T,i ∉ ag)/\(∀ i ∈ ag,i ∈ S) /\
  ∀ (R'':List ao->List ao->List Id->Prop) e' f' T',R'' e' f' T'->(∀ (e f:List ao) (T:List Id),R e f T->(∀ i ∈ T,i ∈ ag)->R'' e f T)->(∀ i ∈ T',i ∉ ag)->∃ S',aW R'' (as1.set k e') (bs.set k f') S'/\∀ i ∈ S',i ∈ T'\/i ∈ ag
 | e::as1,f::bs,_,0,⟨T1,T2,h1,h2,h3,h4⟩,_=>⟨e,f,T1,T2,rfl,rfl,h1,fun i hi=>by simp[h3,hi],h4,fun i hi=>by simp[h3,hi],fun R'' e' f' T' hr hm hd=>⟨T'++T2,⟨T',T2,hr,h2.mono hm,rfl,hd⟩,fun i hi=>by simpa using hi⟩⟩
 | e::as1,f::bs,_,k+1,⟨T1,T2,h1,h2,h3,h4⟩,hk=>by
  obtain⟨e1,f1,T,ag,p1,p2,p3,p4,p5,p6,p7⟩:=aW.at h2 (k:=k) (by simpa using hk);refine⟨e1,f1,T,T1++ag,by simpa using p1,by simpa using p2,p3,fun i hi=>by simp[h3,p4 i hi],fun i hi hm=>?_,fun i hi=>?_,fun R'' e' f' T' hr hm hd=>?_⟩
  ·rcases List.mem_append.1 hm with hm | hm
   ·exact h4 i hm (p4 i hi)
   ·exact p5 i hi hm
  ·rcases List.mem_append.1 hi with hi | hi
   ·simp[h3,hi]
   ·simp[h3,p6 i hi]
  ·obtain⟨S',q1,q2⟩:=p7 R'' e' f' T' hr (fun e f T h hs=>hm e f T h fun i hi=>by simp[hs i hi]) (fun i hi hm=>hd i hi (by simp[hm]));refine⟨T1++S',⟨T1,S',hm _ _ _ h1 (fun i hi=>by simp[hi]),q1,rfl,fun i hi hs=>?_⟩,fun i hi=>?_⟩
   ·rcases q2 i hs with h | h
    ·exact hd i h (by simp[hi])
    ·exact h4 i hi (p6 i h)
   ·rcases List.mem_append.1 hi with hi | hi
    ·exact .inr (by simp[hi])
    ·rcases q2 i hi with h | h
     ·exact .inl h
     ·exact .inr (by simp[h])
 | [],[],_,_,_,hk=>by simp at hk
 | [],_::_,_,_,h,_=>h.elim
 | _::_,[],_,_,h,_=>h.elim
theorem aW.map {f:ao->ao} {g:Id->Id} (hg:∀ i j,g i=g j->i=j):∀ {as1 bs:List (List ao)} {S:List Id},aW R as1 bs S->(∀ (e d:List ao) (T:List Id),R e d T->(∀ i ∈ T,i ∈ S)->R' (e.map f) d (T.map g))->aW R' (as1.map fun e=>e.map f) bs (S.map g)
 | [],[],_,h,_=>by rw[show _=[] from h];rfl
 | _::_,_::_,_,⟨T1,T2,h1,h2,h3,h4⟩,hm=>⟨T1.map g,T2.map g,hm _ _ _ h1 (fun i hi=>by simp[h3,hi]),aW.map hg h2 (fun e d T h hs=>hm e d T h fun i hi=>by simp[h3,hs i hi]),by simp[h3],fun i hi hm=>by
   obtain⟨j,hj,rfl⟩:=List.mem_map.1 hi;obtain⟨j2,hj2,he⟩:=List.mem_map.1 hm;rw[hg _ _ he] at hj2;exact h4 j hj hj2⟩
 | [],_::_,_,h,_=>h.elim
 | _::_,[],_,h,_=>h.elim
end
mutual
theorem Tr.frame {H H':au}:∀ {h:Sh} {a b:ao} {S:List Id},Tr H h a b S->(∀ i ∈ S,H' i=H i)->Tr H' h a b S
 | .c,_,_,_,h,_=>by simpa[Tr] using h
 | .s l,a,b,S,h,hf=>by
  simp only[Tr] at h ⊢;rcases h with h | ⟨id,els,es,T,h1,h2,h3,h4,h5,rfl⟩
  ·exact .inl h
  ·exact .inr ⟨id,els,es,T,h1,h2,by rw[hf id (by simp)];exact h3,h4.mono fun e f T' hr hs=>Row.frame hr fun i hi=>hf i (by simp[hs i hi]),h5,rfl⟩
 | .a l,a,b,S,h,hf=>by
  simp only[Tr] at h ⊢;obtain⟨as1,bs,h1,h2,h3⟩:=h;exact⟨as1,bs,h1,h2,Row.frame h3 hf⟩
 | .t l,a,b,S,h,hf=>by
  simp only[Tr] at h ⊢;obtain⟨as1,bs,h1,h2,h3⟩:=h;exact⟨as1,bs,h1,h2,Row.frame h3 hf⟩
theorem Row.frame {H H':au}:∀ {l:List Sh} {as1 bs:List ao} {S:List Id},Row H l as1 bs S->(∀ i ∈ S,H' i=H i)->Row H' l as1 bs S
 | [],[],[],_,h,_=>by simpa[Row] using h
 | _::_,_::_,_::_,_,h,hf=>by
  simp only[Row] at h ⊢;obtain⟨S1,S2,h1,h2,h3,h4⟩:=h;exact⟨S1,S2,h1.frame fun i hi=>hf i (by simp[h3,hi]),Row.frame h2 fun i hi=>hf i (by simp[h3,hi]),h3,h4⟩
 | [],[],_::_,_,h,_=>by simp[Row] at h
 | [],_::_,_,_,h,_=>by simp[Row] at h
 | _::_,[],_,_,h,_=>by simp[Row] at h
 | _::_,_::_,[],_,h,_=>by simp[Row] at h
end
mutual
theorem Tr.has {H:au}:∀ {h:Sh} {a b:ao} {S:List Id},Tr H h a b S->∀ i ∈ S,∃ o,H i=some o
 | .c,_,_,_,h,i,hi=>by simp only[Tr] at h;obtain⟨_,_,rfl⟩:=h;cases hi
 | .s l,a,b,S,h,i,hi=>by
  simp only[Tr] at h;rcases h with ⟨_,_,rfl⟩ | ⟨id,els,es,T,h1,h2,h3,h4,h5,rfl⟩
  ·cases hi
  ·rcases List.mem_cons.1 hi with rfl | hi
   ·exact⟨_,h3⟩
   ·exact pw (l:=l) (fun e f T hr=>Row.has hr) h4 i hi
 | .a l,a,b,S,h,i,hi=>by simp only[Tr] at h;obtain⟨as1,bs,_,_,h3⟩:=h;exact Row.has h3 i hi
 | .t l,a,b,S,h,i,hi=>by simp only[Tr] at h;obtain⟨as1,bs,_,_,h3⟩:=h;exact Row.has h3 i hi
theorem Row.has {H:au}:∀ {l:List Sh} {as1 bs:List ao} {S:List Id},Row H l as1 bs S->∀ i ∈ S,∃ o,H i=some o
 | [],[],[],_,h,i,hi=>by simp only[Row] at h;subst h;cases hi
 | _::_,_::_,_::_,_,h,i,hi=>by
  simp only[Row] at h;obtain⟨S1,S2,h1,h2,h3,_⟩:=h;subst h3;rcases List.mem_append.1 hi with hi | hi
  ·exact h1.has i hi
  ·exact Row.has h2 i hi
 | [],[],_::_,_,h,_,_=>by simp[Row] at h
 | [],_::_,_,_,h,_,_=>by simp[Row] at h
 | _::_,[],_,_,h,_,_=>by simp[Row] at h
 | _::_,_::_,[],_,h,_,_=>by simp[Row] at h
theorem pw {H:au} {l:List Sh} (hr:∀ (e f:List ao) (T:List Id),Row H l e f T->∀ i ∈ T,∃ o,H i=some o):∀ {as1 bs:List (List ao)} {S:List Id},aW (Row H l) as1 bs S->∀ i ∈ S,∃ o,H i=some o
 | [],[],_,h,i,hi=>by rw[show _=[] from h] at hi;cases hi
 | _::_,_::_,_,⟨T1,T2,h1,h2,h3,_⟩,i,hi=>by
  subst h3;rcases List.mem_append.1 hi with hi | hi
  ·exact hr _ _ _ h1 i hi
  ·exact pw hr h2 i hi
 | [],_::_,_,h,_,_=>h.elim
 | _::_,[],_,h,_,_=>h.elim
end
mutual
def Sh.dep:Sh->Nat
 | .c=>0
 | .s l=>Sh.uP l+1
 | .a l=>Sh.uP l+1
 | .t l=>Sh.uP l+1
def Sh.uP:List Sh->Nat
 | []=>0
 | h::l=>max (Sh.dep h) (Sh.uP l)
end
theorem dv.up {H:au}:∀ {d:Nat} {a b:ao} {S:List Id},dv H d a b S->dv H (d+1) a b S
 | 0,_,_,_,h=>.inl h
 | d+1,a,b,S,h=>by
  rcases h with h | ⟨cs,ds,h1,h2,h3⟩ | ⟨cs,ds,h1,h2,h3⟩ | h | ⟨id,o,els,T,h1,h2,h3,h4,h5⟩
  ·exact .inl h
  ·exact .inr (.inl ⟨cs,ds,h1,h2,h3.mono fun _ _ _ _ h _=>dv.up h⟩)
  ·exact .inr (.inr (.inl ⟨cs,ds,h1,h2,h3.mono fun _ _ _ _ h _=>dv.up h⟩))
  ·exact .inr (.inr (.inr (.inl h)))
  ·exact .inr (.inr (.inr (.inr ⟨id,o,els,T,h1,h2,h3,h4.mono fun _ _ _ _ _ _ h _=>dv.up h,h5⟩)))
theorem dv.le {H:au} {d e:Nat} {a b:ao} {S:List Id} (hd:d<=e) (h:dv H d a b S):dv H e a b S:=by
 induction hd with
 | refl=>exact h
 | step _ ih=>exact ih.up
mutual
theorem Tr.own {H:au}:∀ {h:Sh} {a b:ao} {S:List Id},Tr H h a b S->dv H h.dep a b S
 | .c,_,_,_,h=>by
  simp only[Tr] at h;obtain⟨rfl,hF,rfl⟩:=h;exact⟨⟨rfl,hF⟩,rfl⟩
 | .s l,a,b,S,h=>by
  simp only[Tr] at h;rcases h with ⟨rfl,rfl,rfl⟩ | ⟨id,els,es,T,rfl,rfl,h3,h4,h5,rfl⟩
  ·exact .inr (.inr (.inr (.inl ⟨rfl,rfl,rfl⟩)))
  ·exact .inr (.inr (.inr (.inr ⟨id,_,es,T,rfl,rfl,h3,vc (l:=l) (fun e f T h=>Row.own h) h4,h5,rfl⟩)))
 | .a l,a,b,S,h=>by
  simp only[Tr] at h;obtain⟨as1,bs,rfl,rfl,h3⟩:=h;exact .inr (.inl ⟨as1,bs,rfl,rfl,Row.own h3⟩)
 | .t l,a,b,S,h=>by
  simp only[Tr] at h;obtain⟨as1,bs,rfl,rfl,h3⟩:=h;exact .inr (.inr (.inl ⟨as1,bs,rfl,rfl,Row.own h3⟩))
theorem Row.own {H:au}:∀ {l:List Sh} {as1 bs:List ao} {S:List Id},Row H l as1 bs S->ei (dv H (Sh.uP l)) as1 bs S
 | [],[],[],_,h=>by simp only[Row] at h;exact h
 | h::l,_::_,_::_,_,hr=>by
  simp only[Row] at hr;obtain⟨S1,S2,h1,h2,h3,h4⟩:=hr;exact⟨S1,S2,h1.own.le (Nat.le_max_left _ _),(Row.own h2).mono fun _ _ _ _ h _=>h.le (Nat.le_max_right _ _),h3,h4⟩
 | [],[],_::_,_,h=>by simp[Row] at h
 | [],_::_,_,_,h=>by simp[Row] at h
 | _::_,[],_,_,h=>by simp[Row] at h
 | _::_,_::_,[],_,h=>by simp[Row] at h
theorem vc {H:au} {l:List Sh} {Q:ao->ao->List Id->Prop} (hr:∀ (e f:List ao) (T:List Id),Row H l e f T->ei Q e f T):∀ {as1 bs:List (List ao)} {S:List Id},aW (Row H l) as1 bs S->dn Q as1 bs S
 | [],[],_,h=>h
 | _::_,_::_,_,⟨T1,T2,h1,h2,h3,h4⟩=>⟨T1,T2,hr _ _ _ h1,vc hr h2,h3,h4⟩
 | [],_::_,_,h=>h.elim
 | _::_,[],_,h=>h.elim
end
mutual
theorem Tr.sh {H H2:au} {n:Nat}:∀ {h:Sh} {a b:ao} {S:List Id},Tr H h a b S->(∀ i ∈ S,H2 (cE n i)=(H i).map (qW n))->Tr H2 h (gG n a) b (S.map (cE n))
 | .c,_,_,_,h,_=>by
  simp only[Tr] at h ⊢;obtain⟨rfl,hF,rfl⟩:=h;rw[hF.sh];exact⟨rfl,hF,rfl⟩
 | .s l,a,b,S,h,hf=>by
  simp only[Tr] at h ⊢;rcases h with ⟨rfl,rfl,rfl⟩ | ⟨id,els,es,T,rfl,rfl,h3,h4,h5,rfl⟩
  ·exact .inl ⟨tO n _,rfl,rfl⟩
  ·refine .inr ⟨cE n id,els.map fun e=>e.map (gG n),es,T.map (cE n),by rw[rr,List.length_map],rfl,by rw[hf id (by simp),h3];rfl,?_,?_,rfl⟩
   ·exact h4.map (lu n) fun e d T' hr hs=>Row.sh hr fun i hi=>hf i (by simp[hs i hi])
   ·intro hm;obtain⟨j,hj,he⟩:=List.mem_map.1 hm;rw[lu n _ _ he] at hj;exact h5 hj
 | .a l,a,b,S,h,hf=>by
  simp only[Tr] at h ⊢;obtain⟨as1,bs,rfl,rfl,h3⟩:=h;exact⟨_,bs,nQ n as1,rfl,Row.sh h3 hf⟩
 | .t l,a,b,S,h,hf=>by
  simp only[Tr] at h ⊢;obtain⟨as1,bs,rfl,rfl,h3⟩:=h;exact⟨_,bs,nB n as1,rfl,Row.sh h3 hf⟩
theorem Row.sh {H H2:au} {n:Nat}:∀ {l:List Sh} {as1 bs:List ao} {S:List Id},Row H l as1 bs S->(∀ i ∈ S,H2 (cE n i)=(H i).map (qW n))->Row H2 l (as1.map (gG n)) bs (S.map (cE n))
 | [],[],[],_,h,_=>by simp only[Row] at h ⊢;subst h;simp[Row]
 | h::l,_::_,_::_,_,hr,hf=>by
  simp only[Row] at hr;obtain⟨S1,S2,h1,h2,rfl,h4⟩:=hr;simp only[List.map_cons,Row];refine⟨S1.map (cE n),S2.map (cE n),h1.sh fun i hi=>hf i (by simp[hi]),Row.sh h2 fun i hi=>hf i (by simp[hi]),by simp,fun i hi hm=>?_⟩;obtain⟨j,hj,rfl⟩:=List.mem_map.1 hi;obtain⟨j2,hj2,he⟩:=List.mem_map.1 hm;rw[lu n _ _ he] at hj2;exact h4 j hj hj2
 | [],[],_::_,_,h,_=>by simp[Row] at h
 | [],_::_,_,_,h,_=>by simp[Row] at h
 | _::_,[],_,_,h,_=>by simp[Row] at h
 | _::_,_::_,[],_,h,_=>by simp[Row] at h
end
theorem Row.len {H:au}:∀ {l:List Sh} {as1 bs:List ao} {S:List Id},Row H l as1 bs S->as1.length=l.length/\bs.length=l.length
 | [],[],[],_,_=>⟨rfl,rfl⟩
 | _::_,_::_,_::_,_,h=>by
  simp only[Row] at h;obtain⟨_,_,_,h2,_,_⟩:=h;have:=Row.len h2;simp[this.1,this.2]
 | [],[],_::_,_,h=>by simp[Row] at h
 | [],_::_,_,_,h=>by simp[Row] at h
 | _::_,[],_,_,h=>by simp[Row] at h
 | _::_,_::_,[],_,h=>by simp[Row] at h
theorem Row.append {H:au}:∀ {l m:List Sh} {as1 bs cs ds:List ao} {S T:List Id},Row H l as1 bs S->Row H m cs ds T->(∀ i ∈ S,i ∉ T)->Row H (l++m) (as1++cs) (bs++ds) (S++T)
 | [],m,[],[],_,_,_,_,h,k,_=>by simp only[Row] at h;subst h;simpa using k
 | _::_,_,_::_,_::_,_,_,_,T,h,k,hd=>by
  simp only[Row] at h;obtain⟨S1,S2,h1,h2,rfl,h4⟩:=h;simp only[List.cons_append,Row];refine⟨S1,S2++T,h1,Row.append h2 k (fun i hi=>hd i (by simp[hi])),by simp,fun i hi hm=>?_⟩;rcases List.mem_append.1 hm with hm | hm
  ·exact h4 i hi hm
  ·exact hd i (by simp[hi]) hm
 | [],_,[],_::_,_,_,_,_,h,_,_=>by simp[Row] at h
 | [],_,_::_,_,_,_,_,_,h,_,_=>by simp[Row] at h
 | _::_,_,[],_,_,_,_,_,h,_,_=>by simp[Row] at h
 | _::_,_,_::_,[],_,_,_,_,h,_,_=>by simp[Row] at h
theorem Row.split {H:au}:∀ {l m:List Sh} {as1 bs:List ao} {S:List Id},Row H (l++m) as1 bs S->∃ a1 a2 b1 b2 S1 S2,as1=a1++a2/\bs=b1++b2/\Row H l a1 b1 S1/\Row H m a2 b2 S2/\S=S1++S2/\∀ i ∈ S1,i ∉ S2
 | [],m,as1,bs,S,h=>⟨[],as1,[],bs,[],S,rfl,rfl,by simp[Row],h,rfl,by simp⟩
 | x::l,m,a::as1,b::bs,S,h=>by
  simp only[List.cons_append,Row] at h;obtain⟨S1,S2,h1,h2,rfl,h4⟩:=h;obtain⟨a1,a2,b1,b2,T1,T2,rfl,rfl,p1,p2,rfl,p4⟩:=Row.split h2;refine⟨a::a1,a2,b::b1,b2,S1++T1,T2,rfl,rfl,?_,p2,by simp,fun i hi hm=>?_⟩
  ·simp only[Row];exact⟨S1,T1,h1,p1,rfl,fun i hi hm=>h4 i hi (by simp[hm])⟩
  ·rcases List.mem_append.1 hi with hi | hi
   ·exact h4 i hi (by simp[hm])
   ·exact p4 i hi hm
 | _::_,_,[],_,_,h=>by simp[Row] at h
 | _::_,_,_::_,[],_,h=>by simp[Row] at h
end Go.Ab
namespace Go.Ab
variable [Inhabited cn]
abbrev bG:=Sh × ao × ao
def Sep (H:au) (n:Nat) (K:List bG) (ids:List Id):Prop:=
 (∀ i ∈ ids,i.1<n)/\∃ S,Row H (K.map (·.1)) (K.map (·.2.1)) (K.map (·.2.2)) S/\∀ i ∈ S,i.1<n/\i ∉ ids
section
variable {H H':au} {n n':Nat} {K K1 K2:List bG} {ids ids':List Id}
theorem Sep.nil (h:∀ i ∈ ids,i.1<n):Sep H n [] ids:=⟨h,[],by simp[Row],by simp⟩
theorem Sep.split (h:Sep H n (K1++K2) ids):(∀ i ∈ ids,i.1<n)/\∃ S1 S2,Row H (K1.map (·.1)) (K1.map (·.2.1)) (K1.map (·.2.2)) S1/\Row H (K2.map (·.1)) (K2.map (·.2.1)) (K2.map (·.2.2)) S2/\(∀ i ∈ S1,i ∉ S2)/\(∀ i ∈ S1,i.1<n/\i ∉ ids)/\∀ i ∈ S2,i.1<n/\i ∉ ids:=by
 obtain⟨h0,S,h1,h2⟩:=h;simp only[List.map_append] at h1;obtain⟨a1,a2,b1,b2,S1,S2,e1,e2,p1,p2,rfl,p4⟩:=Row.split h1;have l1:=p1.len;have ha:K1.map (·.2.1)=a1/\K2.map (·.2.1)=a2:=List.append_inj e1 (by simpa using l1.1.symm);have hb:K1.map (·.2.2)=b1/\K2.map (·.2.2)=b2:=List.append_inj e2 (by simpa using l1.2.symm);rw[ha.1,ha.2,hb.1,hb.2];exact⟨h0,S1,S2,p1,p2,p4,fun i hi=>h2 i (by simp[hi]),fun i hi=>h2 i (by simp[hi])⟩
theorem Sep.join {S1 S2:List Id} (h0:∀ i ∈ ids,i.1<n) (p1:Row H (K1.map (·.1)) (K1.map (·.2.1)) (K1.map (·.2.2)) S1) (p2:Row H (K2.map (·.1)) (K2.map (·.2.1)) (K2.map (·.2.2)) S2) (hd:∀ i ∈ S1,i ∉ S2)
  (h1:∀ i ∈ S1,i.1<n/\i ∉ ids) (h2:∀ i ∈ S2,i.1<n/\i ∉ ids):Sep H n (K1++K2) ids:=
 ⟨h0,S1++S2,by simp only[List.map_append];exact p1.append p2 hd,fun i hi=>by
  rcases List.mem_append.1 hi with hi | hi
  ·exact h1 i hi
  ·exact h2 i hi⟩
theorem Sep.swap (h:Sep H n (K1++K2) ids):Sep H n (K2++K1) ids:=by
 obtain⟨h0,S1,S2,p1,p2,hd,q1,q2⟩:=h.split;exact Sep.join h0 p2 p1 (fun i hi hm=>hd i hm hi) q2 q1
theorem Sep.left (h:Sep H n (K1++K2) ids):Sep H n K1 ids:=by
 obtain⟨h0,S1,S2,p1,p2,hd,q1,q2⟩:=h.split;exact⟨h0,S1,p1,q1⟩
theorem Sep.right (h:Sep H n (K1++K2) ids):Sep H n K2 ids:=h.swap.left
theorem Sep.front {x:bG} (h:Sep H n (K1++x::K2) ids):Sep H n (x::(K1++K2)) ids:=by
 obtain⟨h0,S1,S2,p1,p2,hd,q1,q2⟩:=h.split;simp only[List.map_cons,Row] at p2;obtain⟨T1,T2,r1,r2,rfl,r4⟩:=p2;refine⟨h0,T1++(S1++T2),?_,fun i hi=>?_⟩
 ·simp only[List.map_cons,List.map_append,Row];refine⟨T1,S1++T2,r1,p1.append r2 (fun i hi hm=>hd i hi (by simp[hm])),rfl,fun i hi hm=>?_⟩;rcases List.mem_append.1 hm with hm | hm
  ·exact hd i hm (by simp[hi])
  ·exact r4 i hi hm
 ·simp only[List.mem_append] at hi;rcases hi with hi | hi | hi
  ·exact q2 i (by simp[hi])
  ·exact q1 i hi
  ·exact q2 i (by simp[hi])
theorem Sep.keep (h:Sep H n K ids) (hn:n<=n') (hH:∀ i:Id,i.1<n->i ∉ ids->H' i=H i) (hi:∀ i ∈ ids',(i ∈ ids\/n<=i.1)/\i.1<n'):Sep H' n' K ids':=by
 obtain⟨_,S,h1,h2⟩:=h;refine⟨fun i h=>(hi i h).2,S,h1.frame fun i hs=>hH i (h2 i hs).1 (h2 i hs).2,fun i hs=>⟨by have:=(h2 i hs).1;omega,fun hm=>?_⟩⟩;rcases (hi i hm).1 with h | h
 ·exact (h2 i hs).2 h
 ·have:=(h2 i hs).1;omega
theorem Sep.scalar {v:ao} {x:Value} (h:Sep H n ((.c,v,.v x)::K) ids):v = .v x/\Sep H n K ids:=by
 obtain⟨h0,S,h1,h2⟩:=h;simp only[List.map_cons,Row,Tr] at h1;obtain⟨S1,S2,⟨e1,_,rfl⟩,p2,rfl,_⟩:=h1;exact⟨e1,h0,_,p2,fun i hi=>h2 i (by simpa using hi)⟩
theorem Sep.form {l:List Sh} {v e:ao} (h:Sep H n ((.s l,v,e)::K) ids):aL v=true/\∃ es,e = .list true es/\((v = .v (.slice none 0 0)/\es=[])\/∃ id els,v = .arr id es.length 0 es.length/\els.length=es.length/\H id=some ⟨l.length,els⟩/\id.1<n/\id ∉ ids):=by
 obtain⟨h0,S,h1,h2⟩:=h;simp only[List.map_cons,Row,Tr] at h1;obtain⟨S1,S2,h3,_,rfl,_⟩:=h1;rcases h3 with ⟨rfl,rfl,rfl⟩ | ⟨id,els,es,T,rfl,rfl,p3,p4,p5,rfl⟩
 ·exact⟨rfl,[],rfl,.inl ⟨rfl,rfl⟩⟩
 ·have hl:=p4.len;exact⟨rfl,es,rfl,.inr ⟨id,els,by rw[hl],hl,p3,(h2 id (by simp)).1,(h2 id (by simp)).2⟩⟩
inductive aX:List Sh->List bG->List ao->List ao->Prop
 | nil:aX [] [] [] []
 | v {l:List Sh} {K:List bG} {as1 bs:List ao} (x:Value) (h:aX l K as1 bs):aX (.c::l) K (.v x::as1) (.v x::bs)
 | i {l:List Sh} {K:List bG} {as1 bs:List ao} {a:ao} (hF:ba a) (h:aX l K as1 bs):aX (.c::l) K (a::as1) (a::bs)
 | own {l:List Sh} {K:List bG} {as1 bs:List ao} {t:Sh} {a b:ao} (h:aX l K as1 bs):aX (t::l) ((t,a,b)::K) (a::as1) (b::bs)
theorem aX.row {l:List Sh} {as1 bs:List ao} (h:aX l K as1 bs):∀ {S:List Id},Row H (K.map (·.1)) (K.map (·.2.1)) (K.map (·.2.2)) S->Row H l as1 bs S:=by
 induction h with
 | nil=>intro S h;simpa using h
 | v x _ ih=>intro S h;simp only[Row,Tr];exact⟨[],S,⟨by trivial,.v x,rfl⟩,ih h,rfl,by simp⟩
 | i hF _ ih=>intro S h;simp only[Row,Tr];exact⟨[],S,⟨by trivial,hF,rfl⟩,ih h,rfl,by simp⟩
 | own _ ih=>
  intro S h;simp only[List.map_cons,Row] at h ⊢;obtain⟨S1,S2,h1,h2,h3,h4⟩:=h;exact⟨S1,S2,h1,ih h2,h3,h4⟩
theorem Row.fill {l:List Sh} {as1 bs:List ao} {S:List Id} (h:Row H l as1 bs S) (hf:∀ t ∈ l,t = .c):as1=bs/\S=[]/\∀ a ∈ as1,ba a:=by
 induction l generalizing as1 bs S with
 | nil=>
  match as1,bs,h with
  | [],[],h=>simp only[Row] at h;exact⟨rfl,h,by simp⟩
  | [],_::_,h=>simp[Row] at h
  | _::_,_,h=>simp[Row] at h
 | cons t l ih=>
  match as1,bs,h with
  | a::as1,b::bs,h=>
   obtain rfl:=hf t (by simp);simp only[Row,Tr] at h;obtain⟨S1,S2,⟨rfl,hF,rfl⟩,h2,rfl,_⟩:=h;obtain⟨rfl,rfl,h3⟩:=ih h2 (fun t ht=>hf t (by simp[ht]));refine⟨rfl,rfl,fun a ha=>?_⟩;rcases List.mem_cons.1 ha with rfl | ha
   ·exact hF
   ·exact h3 a ha
  | [],_,h=>simp[Row] at h
  | _::_,[],h=>simp[Row] at h
theorem aW.fresh {l:List Sh} {es:List (List ao)} (h:∀ e ∈ es,e.length=l.length/\∀ a ∈ e,ba a) (hf:∀ t ∈ l,t = .c):aW (Row H l) es es []:=by
 induction es with
 | nil=>rfl
 | cons e es ih=>
  refine⟨[],[],?_,ih fun f hf=>h f (by simp[hf]),rfl,by simp⟩;obtain⟨h1,h2⟩:=h e (by simp);clear ih h
  induction l generalizing e with
  | nil=>cases e with
   | nil=>simp[Row]
   | cons=>simp at h1
  | cons t l ih=>
   cases e with
   | nil=>simp at h1
   | cons a e=>
    obtain rfl:=hf t (by simp);have ha:=h2 a (by simp);simp only[Row,Tr];exact⟨[],[],⟨by trivial,ha,rfl⟩,ih (fun t ht=>hf t (by simp[ht])) e (by simpa using h1) (fun a ha=>h2 a (by simp[ha])),rfl,by simp⟩
theorem aW.uQ {l:List Sh} {es:List (List ao)} (h:∀ e ∈ es,e.length=l.length/\∀ a ∈ e,flat a=true) (hf:∀ t ∈ l,t = .c):aW (Row H l) es es []:=aW.fresh (fun e he=>⟨(h e he).1,fun a ha=>ba.flat ((h e he).2 a ha)⟩) hf
end
section
variable {H:au} {n:Nat} {K K1 K2:List bG} {ids:List Id} {Ty:Types} {t:TypeId} {j:TI} {l:List Sh} {v:ao} {es:List (List ao)}
theorem Sep.append {d:Nat} {x:ao} {add adds:List (List ao)} (h:Sep H n ((.s l,v,.list true es)::(K1++K2)) ids) (hk:kd Ty t = .slice j) (hj:j.size=l.length) (hz:j.zero.length=j.size/\j.bytes<=131072)
  (hx:c5 H x=some add) (ho:add.all (fun e=>e.all aL)=true) (hadd:∀ S,Row H (K1.map (·.1)) (K1.map (·.2.1)) (K1.map (·.2.2)) S->aW (Row H l) add adds S) (hne:adds ≠ []) (hlen:es.length+adds.length<=1073741824) :
  ∃ v' H' n',aR Ty (some d) t v x H n=some (v',H',n')/\Sep H' n' ((.s l,v',.list true (es++adds))::K2) ids/\(∀ i ∈ ids,H' i=H i)/\n<=n':=by
 obtain⟨h0,S,h1,h2⟩:=h;simp only[List.map_cons,Row] at h1;obtain⟨T1,T2,r1,r2,rfl,r4⟩:=h1;simp only[List.map_append] at r2;obtain⟨a1,a2,b1,b2,U1,U2,e1,e2,p1,p2,rfl,p4⟩:=Row.split r2;have l1:=p1.len;have ha:K1.map (·.2.1)=a1/\K2.map (·.2.1)=a2:=List.append_inj e1 (by simpa using l1.1.symm);have hb:K1.map (·.2.2)=b1/\K2.map (·.2.2)=b2:=List.append_inj e2 (by simpa using l1.2.symm);obtain⟨rfl,rfl⟩:=ha;obtain⟨rfl,rfl⟩:=hb;have hr:=hadd _ p1;have hal:=hr.len;have hsz:add.all (fun e=>e.length == j.size)=true:=by
  rw[List.all_eq_true];intro e he;have:∀ {as1 bs:List (List ao)} {S:List Id},aW (Row H l) as1 bs S->∀ e ∈ as1,e.length=l.length:=by
   intro as1
   induction as1 with
   | nil=>intro _ _ _ e he;cases he
   | cons a as1 ih=>
    intro bs S hr e he
    match bs,hr with
    | b::bs,⟨_,_,q1,q2,_,_⟩=>
     rcases List.mem_cons.1 he with rfl | he
     ·exact q1.len.1
     ·exact ih q2 e he
    | [],hr=>exact hr.elim
  simp[this hr e he,hj]
 simp only[Tr] at r1;have hadd0:add.length ≠ 0:=by
  rw[hal];intro h;exact hne (List.eq_nil_of_length_eq_zero h)
 rcases r1 with ⟨rfl,he,rfl⟩ | ⟨id,els,es',T,rfl,he,q3,q4,q5,rfl⟩
 ·injection he with _ he
  subst he;refine⟨.arr (n,d) add.length 0 add.length,H.set (n,d) ⟨j.size,add⟩,n+1,?_,?_,fun i hi=>?_,by omega⟩
  ·simp only[aR,hk,hx];rw[if_pos ⟨hz.1,hz.2,hsz,ho⟩,if_neg hadd0,if_pos (by rw[hal];simpa using hlen)]
  ·have hnew:∀ i ∈ U1++U2,i ≠ (n,d):=fun i hi he=>by
    have:=(h2 i (by simpa using hi)).1;rw[he] at this;simp at this
   refine⟨fun i hi=>by have:=h0 i hi;omega,(n,d)::U1++U2,?_,fun i hi=>?_⟩
   ·simp only[List.map_cons,Row,Tr];refine⟨(n,d)::U1,U2,.inr ⟨(n,d),add,adds,U1,rfl,by simp,by simp[au.df,hj],?_,fun hm=>hnew _ (by simp[hm]) rfl,rfl⟩,p2.frame fun i hi=>?_,rfl,fun i hi hm=>?_⟩
    ·exact hr.mono fun e f T' hr hs=>hr.frame fun i hi=>au.ay _ _ (hnew i (by simp[hs i hi]))
    ·exact au.ay _ _ (hnew i (by simp[hi]))
    ·rcases List.mem_cons.1 hi with rfl | hi
     ·exact hnew _ (by simp[hm]) rfl
     ·exact p4 i hi hm
   ·simp only[List.cons_append,List.mem_cons] at hi;rcases hi with rfl | hi
    ·exact⟨by simp,fun hm=>by have:=h0 _ hm;simp at this⟩
    ·have:=h2 i (by simpa using hi);exact⟨by omega,this.2⟩
  ·refine au.ay _ _ fun he=>?_
   have:=h0 i hi;rw[he] at this;simp at this
 ·injection he with _ he
  subst he;have hel:=q4.len;refine⟨.arr id (els.length+add.length) 0 (els.length+add.length),H.set id ⟨j.size,els++add⟩,n,?_,?_,fun i hi=>?_,Nat.le_refl _⟩
  ·simp only[aR,hk,hx];rw[if_pos ⟨hz.1,hz.2,hsz,ho⟩];simp only[live,q3,↓reduceIte];rw[if_pos ⟨trivial,trivial,hj.symm,by rw[hel,hal];exact hlen⟩]
  ·have hnid:∀ i ∈ U1++U2,i ≠ id:=fun i hi he=>by
    subst he;exact r4 i (by simp) (by simpa using hi)
   have hnT:∀ i ∈ T,i ≠ id:=fun i hi he=>by subst he;exact q5 hi
   refine⟨h0,(id::(T++U1))++U2,?_,fun i hi=>h2 i ?_⟩
   ·simp only[List.map_cons,Row,Tr];refine⟨id::(T++U1),U2,.inr ⟨id,els++add,es++adds,T++U1,by simp,rfl,by simp[au.df,hj],?_,fun hm=>?_,rfl⟩,p2.frame fun i hi=>?_,rfl,fun i hi hm=>?_⟩
    ·refine aW.append (q4.mono fun e f T' hr hs=>hr.frame fun i hi=>au.ay _ _ (hnT i (hs i hi))) (hr.mono fun e f T' hr hs=>hr.frame fun i hi=>au.ay _ _ (hnid i (by simp[hs i hi]))) (fun i hi hm=>r4 i (by simp[hi]) (by simp[hm]))
    ·rcases List.mem_append.1 hm with hm | hm
     ·exact q5 hm
     ·exact hnid id (by simp[hm]) rfl
    ·exact au.ay _ _ (hnid i (by simp[hi]))
    ·rcases List.mem_cons.1 hi with rfl | hi
     ·exact hnid i (by simp[hm]) rfl
     ·rcases List.mem_append.1 hi with hi | hi
      ·exact r4 i (by simp[hi]) (by simp[hm])
      ·exact p4 i hi hm
   ·simp only[List.cons_append,List.mem_cons,List.mem_append] at hi ⊢;rcases hi with h | (h | h) | h<;>simp[h]
  ·refine au.ay _ _ fun he=>?_
   subst he;exact (h2 i (by simp)).2 hi
theorem Sep.store {id:Id} {g:Nat} {k:Nat} {i:TI} {new news:List ao} (h:Sep H n ((.s l,.arr id g 0 g,.list true es)::(K1++K2)) ids) (hi:i.size=l.length) (hk:k<es.length) (hg:g=es.length) (hone:new.all aL=true)
  (hf:aX l K1 new news):∃ H',bf (some i) (.ptr id g k 0) (some new) H=some H'/\Sep H' n ((.s l,.arr id g 0 g,.list true (es.set k news))::K2) ids/\∀ i ∈ ids,H' i=H i:=by
 obtain⟨h0,S,h1,h2⟩:=h;simp only[List.map_cons,Row] at h1;obtain⟨T1,T2,r1,r2,rfl,r4⟩:=h1;simp only[List.map_append] at r2;obtain⟨a1,a2,b1,b2,U1,U2,e1,e2,p1,p2,rfl,p4⟩:=Row.split r2;have l1:=p1.len;have ha:K1.map (·.2.1)=a1/\K2.map (·.2.1)=a2:=List.append_inj e1 (by simpa using l1.1.symm);have hb:K1.map (·.2.2)=b1/\K2.map (·.2.2)=b2:=List.append_inj e2 (by simpa using l1.2.symm);obtain⟨rfl,rfl⟩:=ha;obtain⟨rfl,rfl⟩:=hb;have hrow:=hf.row p1;have hnl:new.length=l.length:=hrow.len.1;simp only[Tr] at r1;rcases r1 with ⟨e,_⟩ | ⟨id',els,es',T,e,he,q3,q4,q5,rfl⟩
 ·cases e
 ·injection e with e1 e2 e3 e4
  subst e1
  injection he with _ he
  subst he;have hel:=q4.len;have hkel:k<els.length:=by omega
  obtain⟨e0,f0,Tk,Uk,s1,s2,s3,s4,s5,s6,s7⟩:=q4.at hkel;have he0:els[k]=e0:=by
   rw[List.getElem?_eq_getElem hkel] at s1;exact Option.some.inj s1
  have hnid:∀ i ∈ U1++U2,i ≠ id:=fun i hi he=>by
   subst he;exact r4 i (by simp) (by simpa using hi)
  have hnT:∀ i ∈ T,i ≠ id:=fun i hi he=>by subst he;exact q5 hi
  let H':=H.set id (Ob.write ⟨l.length,els⟩ k 0 new)
  have hw:(Ob.write ⟨l.length,els⟩ k 0 new)=⟨l.length,els.set k new⟩:=by
   have hlen0:e0.length=l.length:=s3.len.1;have h3:els[k]?=some e0:=s1;simp only[Ob.write,Ob.mk.injEq,true_and];simp[h3,hkel,he0,bQ,hnl,hlen0,List.drop_eq_nil_of_le (Nat.le_of_eq hlen0)]
  refine⟨H',?_,?_,fun i hi=>?_⟩
  ·simp only[bf,live,q3];rw[if_pos (by omega)];simp only;rw[if_pos ⟨by omega,by omega,by omega,hone⟩]
  ·obtain⟨S',w1,w2⟩:=s7 (Row H' l) new news U1 (hrow.frame fun i hi=>au.ay _ _ (hnid i (by simp[hi]))) (fun e f T' hr hs=>hr.frame fun i hi=>au.ay _ _ (hnT i (s6 i (hs i hi)))) (fun i hi hm=>r4 i (by simp[s6 i hm]) (by simp[hi]));have hS':∀ i ∈ S',i ∈ U1\/i ∈ T:=fun i hi=>(w2 i hi).imp_right (s6 i)
   refine⟨h0,(id::S')++U2,?_,fun i hi=>?_⟩
   ·simp only[List.map_cons,Row,Tr];refine⟨id::S',U2,.inr ⟨id,els.set k new,es.set k news,S',by simp;omega,rfl,?_,w1,fun hm=>?_,rfl⟩,p2.frame fun i hi=>?_,rfl,fun i hi hm=>?_⟩
    ·show H.set id _ id=_;rw[au.bB,hw]
    ·rcases hS' id hm with h | h
     ·exact hnid id (by simp[h]) rfl
     ·exact hnT id h rfl
    ·exact au.ay _ _ (hnid i (by simp[hi]))
    ·rcases List.mem_cons.1 hi with rfl | hi
     ·exact hnid i (by simp[hm]) rfl
     ·rcases hS' i hi with h | h
      ·exact p4 i h hm
      ·exact r4 i (by simp[h]) (by simp[hm])
   ·simp only[List.cons_append,List.mem_cons,List.mem_append] at hi;rcases hi with rfl | hi | hi
    ·exact h2 i (by simp)
    ·rcases hS' i hi with h | h
     ·exact h2 i (by simp[h])
     ·exact h2 i (by simp[h])
    ·exact h2 i (by simp[hi])
  ·refine au.ay _ _ fun he=>?_
   subst he;exact (h2 i (by simp)).2 hi
end
end Go.Ab
namespace Go.Ab
variable [Inhabited cn]
def bE (P:Program) (f:FuncId) (args:List ao) (h:Sh) (R:ao->Prop):Prop:=aS P f args bc 0 fun v H n=>∃ r,Sep H n [(h,v,r)] []/\R r
theorem bE.mono {P:Program} {f:FuncId} {args:List ao} {h:Sh} {R R':ao->Prop} (hc:bE P f args h R) (hr:∀ r,R r->R' r):bE P f args h R':=by
 unfold bE at *;exact aS.mono hc fun _ _ _ ⟨r,h1,h2⟩=>⟨r,h1,hr r h2⟩
section
variable {H:au} {n:Nat} {K:List bG} {ids:List Id} {h:Sh} {v r:ao}
theorem Sep.tr (hs:Sep H n ((h,v,r)::K) ids):∃ S,Tr H h v r S:=by
 obtain⟨_,S,h1,_⟩:=hs;simp only[List.map_cons,Row] at h1;obtain⟨S1,_,h1,_⟩:=h1;exact⟨S1,h1⟩
theorem Sep.argOk (hs:Sep H n ((h,v,r)::K) ids):az H n v (old r):=by
 obtain⟨S,h1⟩:=hs.tr;exact az.own h1.own
theorem Sep.cH {b:ao} (hs:Sep H n ((h,v,r)::K) ids) (e:old r=b):az H n v b:=e ▸ hs.argOk
theorem Sep.ret (hs:Sep H n ((h,v,r)::K) ids):hU H v r:=by
 obtain⟨S,h1⟩:=hs.tr;exact h1.own.ret
theorem Sep.pack {l:List Sh} {K1:List bG} {as1 bs:List ao} (hf:aX l K1 as1 bs) (hs:Sep H n (K1++K) ids):Sep H n ((.a l,.agg as1,.agg bs)::K) ids:=by
 obtain⟨h0,S1,S2,p1,p2,hd,q1,q2⟩:=hs.split;refine⟨h0,S1++S2,?_,fun i hi=>?_⟩
 ·simp only[List.map_cons,Row,Tr];exact⟨S1,S2,⟨as1,bs,rfl,rfl,hf.row p1⟩,p2,rfl,hd⟩
 ·rcases List.mem_append.1 hi with hi | hi
  ·exact q1 i hi
  ·exact q2 i hi
theorem Sep.rF {l:List Sh} {K1:List bG} {as1 bs:List ao} (hf:aX l K1 as1 bs) (hs:Sep H n (K1++K) ids):Sep H n ((.t l,.tup as1,.tup bs)::K) ids:=by
 obtain⟨h0,S1,S2,p1,p2,hd,q1,q2⟩:=hs.split;refine⟨h0,S1++S2,?_,fun i hi=>?_⟩
 ·simp only[List.map_cons,Row,Tr];exact⟨S1,S2,⟨as1,bs,rfl,rfl,hf.row p1⟩,p2,rfl,hd⟩
 ·rcases List.mem_append.1 hi with hi | hi
  ·exact q1 i hi
  ·exact q2 i hi
def dM:List Sh->List ao->List ao->List bG
 | h::l,a::as1,b::bs=>(h,a,b)::dM l as1 bs
 | _,_,_=>[]
theorem iD:∀ {l:List Sh} {as1 bs:List ao},as1.length=l.length->bs.length=l.length->(dM l as1 bs).map (·.1)=l/\(dM l as1 bs).map (·.2.1)=as1/\(dM l as1 bs).map (·.2.2)=bs
 | [],[],[],_,_=>⟨rfl,rfl,rfl⟩
 | h::l,a::as1,b::bs,h1,h2=>by
  obtain⟨p,q,r⟩:=iD (l:=l) (as1:=as1) (bs:=bs) (by simpa using h1) (by simpa using h2);simp[dM,p,q,r]
 | [],[],_::_,_,h=>by simp at h
 | [],_::_,_,h,_=>by simp at h
 | _::_,[],_,h,_=>by simp at h
 | _::_,_::_,[],_,h=>by simp at h
theorem Sep.wu {l:List Sh} {bs:List ao} {S1 S2:List Id} {as1:List ao} (h0:∀ i ∈ ids,i.1<n) (p1:Row H l as1 bs S1) (p2:Row H (K.map (·.1)) (K.map (·.2.1)) (K.map (·.2.2)) S2) (hd:∀ i ∈ S1,i ∉ S2) (hS:∀ i ∈ S1++S2,i.1<n/\i ∉ ids) :
  Sep H n (dM l as1 bs++K) ids:=by
 obtain⟨e1,e2⟩:=p1.len;obtain⟨z1,z2,z3⟩:=iD e1 e2;refine Sep.join h0 (S1:=S1) (S2:=S2) ?_ p2 hd (fun i hi=>hS i (by simp[hi])) (fun i hi=>hS i (by simp[hi]));rw[z1,z2,z3];exact p1
theorem Sep.unpack {l:List Sh} {bs:List ao} (hs:Sep H n ((.a l,v,.agg bs)::K) ids):∃ as1,v = .agg as1/\as1.length=l.length/\Sep H n (dM l as1 bs++K) ids:=by
 obtain⟨h0,S,h1,h2⟩:=hs;simp only[List.map_cons,Row,Tr] at h1;obtain⟨S1,S2,⟨as1,bs',rfl,hb,p1⟩,p2,rfl,p4⟩:=h1;cases hb;exact⟨as1,rfl,p1.len.1,Sep.wu h0 p1 p2 p4 h2⟩
theorem Sep.kR {l:List Sh} {bs:List ao} (hs:Sep H n ((.t l,v,.tup bs)::K) ids):∃ as1,v = .tup as1/\as1.length=l.length/\Sep H n (dM l as1 bs++K) ids:=by
 obtain⟨h0,S,h1,h2⟩:=hs;simp only[List.map_cons,Row,Tr] at h1;obtain⟨S1,S2,⟨as1,bs',rfl,hb,p1⟩,p2,rfl,p4⟩:=h1;cases hb;exact⟨as1,rfl,p1.len.1,Sep.wu h0 p1 p2 p4 h2⟩
theorem Sep.qU {l:List Sh} (hs:Sep H n K ids):Sep H n ((.s l,.v (.slice none 0 0),.list true [])::K) ids:=by
 obtain⟨h0,S,h1,h2⟩:=hs;exact⟨h0,S,by simp only[List.map_cons,Row,Tr];exact⟨[],S,.inl ⟨trivial,trivial,rfl⟩,h1,rfl,by simp⟩,h2⟩
theorem Sep.u0 {l:List Sh} {d:Nat} {els es:List (List ao)} (hs:Sep H n K ids) (hl:aW (Row (H.set (n,d) ⟨l.length,els⟩) l) els es []):Sep (H.set (n,d) ⟨l.length,els⟩) (n+1) ((.s l,.arr (n,d) els.length 0 els.length,.list true es)::K) ids:=by
 obtain⟨h0,S,h1,h2⟩:=hs;have hne:∀ i ∈ S,i ≠ (n,d):=fun i hi he=>by have:=(h2 i hi).1;rw[he] at this;simp at this
 refine⟨fun i hi=>by have:=h0 i hi;omega,(n,d)::S,?_,fun i hi=>?_⟩
 ·simp only[List.map_cons,Row,Tr];refine⟨[(n,d)],S,.inr ⟨(n,d),els,es,[],rfl,rfl,by simp[au.df],hl,by simp,rfl⟩,h1.frame fun i hi=>au.ay _ _ (hne i hi),rfl,fun i hi hm=>?_⟩;simp at hi;exact hne i hm hi
 ·rcases List.mem_cons.1 hi with rfl | hi
  ·exact⟨by simp,fun hm=>by have:=h0 _ hm;simp at this⟩
  ·have:=h2 i hi;exact⟨by omega,this.2⟩
end
theorem bE.pure {P:Program} {f:FuncId} {args:List ao} {h:Sh} {R:ao->Prop} (hc:bE P f args h R):aA P f args R:=by
 unfold bE at hc;exact aS.mono hc fun _ _ _ ⟨r,h1,hR⟩=>⟨r,.of h1.ret,hR⟩
theorem aE.rj {P:Program} {N:Nat} {d:Option Tmp} {g:Operand} {args:Array Operand} {ats:Array TypeId} {ty:TypeId} {pos:String} {af:Array Edge} {gu:Option (Nat × Bool)} {O:Env} {H:au} {n:Nat} {R:ao->Prop} {K:List bG} {ids:List Id}
  {f:FuncId} {bX:List ao} {sh:Sh} (hg:O.ev g = .fn (.func f) [] []) (cM:aV P f) (ha:cD H n (args.toList.map O.ev) bX) (h:bE P f bX sh R) (hs:Sep H n K ids) :
  aE P N ⟨d,.call ⟨.value g,args,ats⟩,ty,pos,af,gu⟩ O H n fun v1 H1 U=>∃ r,Sep H1 U ((sh,v1,r)::K) ids/\R r/\n<=U/\∀ i ∈ ids,H1 i=H i:=by
 classical
 refine aE.call hg cM ?_;intro c xs hH hn gd hl;simp only[List.nil_append,List.append_nil] at hl;have hb:Good ⟨c.w.heap.size,fun _=>0,bc,0,c.w⟩:=jV c.w gd.wx;obtain⟨hlen,hget⟩:=ha.get;have hrep:cF ⟨c.w.heap.size,fun _=>0,bc,0,c.w⟩ bX xs:=by
  refine⟨by rw[<- hlen];exact hl.1,fun i b x hb' hx=>?_⟩;have hi:=(List.getElem?_eq_some_iff.1 hb').1;have ha':(args.toList.map O.ev)[i]?=some ((args.toList.map O.ev)[i]'(by omega)):=List.getElem?_eq_getElem (by omega);exact hget i _ b ha' hb' c x hH hn gd (hl.2 i _ x ha' hx) _ rfl (fun _=>rfl)
 refine (h _ xs rfl rfl hb hrep).mono ?_;rintro e w' ⟨x,v,c1,he,hw,⟨r,hsep,hR⟩,hrv,hg1,hk⟩;subst hw;obtain⟨_,S,h1,h2⟩:=hsep;simp only[List.map_cons,List.map_nil,Row] at h1;obtain⟨S1,S2,hT,hS2,rfl,_⟩:=h1;subst hS2;simp only[List.append_nil] at h2;have hO:=hT.own;have hKS:∀ i:Id,(fun i:Id=>decide (i ∈ S1)) i=true↔i ∈ S1:=fun i=>by simp
 have hcl:uC c1.H fun i=>decide (i ∈ S1):=fun id o ho hK e he a ha=>(hO.cells id o ho ((hKS id).1 hK) e he a ha).mono fun i hi=>(hKS i).2 hi
 obtain⟨c2,e1,e2,e3,g2,k2,r2⟩:=s9 gd hg1 hk hcl;subst hH hn;have hT2:Tr c2.H sh (gG c.n v) r (S1.map (cE c.n)):=hT.sh fun i hi=>by rw[e1,ph ((hKS i).2 hi)]
 have hlow:∀ i:Id,i.1<c.n->c2.H i=c.H i:=fun i hi=>by rw[e1,merge_lt hi]
 obtain⟨h0,S,p1,p2⟩:=hs;have hst:∀ i ∈ S1.map (cE c.n),c.n<=i.1/\i.1<c2.n:=fun i hi=>by
  obtain⟨o,ho⟩:=hT2.has i hi;refine⟨?_,g2.stamp i o ho⟩;obtain⟨j,_,rfl⟩:=List.mem_map.1 hi;simp[cE]
 have hn2:c.n<=c2.n:=by rw[e2];omega
 refine⟨x,gG c.n v,c2,he,e3,⟨r,⟨fun i hi=>by have:=h0 i hi;omega,S1.map (cE c.n)++S,?_,fun i hi=>?_⟩,hR,hn2,fun i hi=>hlow i (h0 i hi)⟩,r2 v x hrv (hO.mv.mono fun i hi=>(hKS i).2 hi),g2,k2⟩
 ·simp only[List.map_cons,Row];refine⟨_,S,hT2,p1.frame fun i hi=>hlow i (p2 i hi).1,rfl,fun i hi hm=>?_⟩;have:=(hst i hi).1;have:=(p2 i hm).1;omega
 ·rcases List.mem_append.1 hi with hi | hi
  ·have:=hst i hi;exact⟨this.2,fun hm=>by have:=h0 i hm;omega⟩
  ·have:=p2 i hi;exact⟨by omega,this.2⟩
def PostS (h:Sh) (R:ao->Prop) (Q:ao->au->Nat->Prop):Prop:=∀ v H n r,Sep H n [(h,v,r)] []->R r->Q v H n
theorem bE.of {P:Program} {f:FuncId} {fn:Func} {body:Code} {args:List ao} {R:ao->Prop} {N:Nat} {h:Sh} (hfn:P.funcs[f]?=some fn) (hb:fn.body=some body) (hn:fn.ntmps=N) (hN:args.length<=N)
  (hq:∀ Q,PostS h R Q->I P f N [.code body] (fw args) bc 0 Q):bE P f args h R:=by
 subst hn;exact aS.jr hfn hb hN (hq (fun v H n=>∃ r,Sep H n [(h,v,r)] []/\R r) fun v H n r h1 h2=>⟨r,h1,h2⟩)
def gB (P:Program) (f:FuncId) (args:ao->List ao) (h:Sh) (e:ao) (aj:ao->ao->Prop):Prop:=
 ∀ (H:au) (n:Nat) (v:ao) (K:List bG) (ids:List Id),Sep H n ((h,v,e)::K) ids->aS P f (args v) H n fun r H1 U=>∃ e',aj e' r/\Sep H1 U ((h,v,e')::K) ids/\(∀ i ∈ ids,H1 i=H i)/\n<=U
theorem gB.mono {P:Program} {f:FuncId} {args:ao->List ao} {h:Sh} {e:ao} {aj Y':ao->ao->Prop} (hc:gB P f args h e aj) (hy:∀ e r,aj e r->Y' e r):gB P f args h e Y':=fun H n v K ids hs=>
 aS.mono (hc H n v K ids hs) fun _ _ _ ⟨e',h1,h2⟩=>⟨e',hy _ _ h1,h2⟩
section
variable {P:Program} {f:FuncId} {N:Nat} {k:List Item} {Q:ao->au->Nat->Prop} {Ty:Types} {l:List Oper} {O:Env} {H:au} {n:Nat} {K:List bG} {ids:List Id}
theorem bg.rj (hT:aN P Ty) {d:Option Tmp} {g:Operand} {args:Array Operand} {ats:Array TypeId} {ty:TypeId} {pos:String} {af:Array Edge} {R:ao->Prop} {f':FuncId} {as1 bX:List ao} {ops:List Oper} {sh:Sh}
  (h:bE P f' bX sh R) (cM:aV P f') (ha:cD H n as1 bX) (hs:Sep H n K ids)
  (hN:ops.all (fun o=>cU N o.dst)=true) (hl:(⟨d,.call ⟨.value g,args,ats⟩,ty,pos,af,none⟩::l:List Oper).all (fun o=>cU N o.dst)=true) (hg:O.ev g = .fn (.func f') [] []) (has:args.toList.map O.ev=as1)
  (hk:∀ v H1 U r,Sep H1 U ((sh,v,r)::K) ids->R r->n<=U->(∀ i ∈ ids,H1 i=H i)->bI P f N k Q Ty ops.toArray l (O.put d v) H1 U) :
  bg P f N k Q ops.toArray (⟨d,.call ⟨.value g,args,ats⟩,ty,pos,af,none⟩::l) O H n:=
 bg.op hT hN hl rfl (aE.rj hg cM (has ▸ ha) h hs) fun v H' n' ⟨r,h1,h2,h3,h4⟩=>hk v H' n' r h1 h2 h3 h4
theorem bg.mQ (hT:aN P Ty) {d:Option Tmp} {g:Operand} {args:Array Operand} {ats:Array TypeId} {ty:TypeId} {pos:String} {af:Array Edge} {aj:ao->ao->Prop} {f':FuncId} {ops:List Oper} {sh:Sh} {argf:ao->List ao} {v e:ao}
  (h:gB P f' argf sh e aj) (cM:aV P f') (hs:Sep H n ((sh,v,e)::K) ids)
  (hN:ops.all (fun o=>cU N o.dst)=true) (hl:(⟨d,.call ⟨.value g,args,ats⟩,ty,pos,af,none⟩::l:List Oper).all (fun o=>cU N o.dst)=true) (hg:O.ev g = .fn (.func f') [] []) (has:args.toList.map O.ev=argf v)
  (hk:∀ r H1 U e',aj e' r->Sep H1 U ((sh,v,e')::K) ids->n<=U->(∀ i ∈ ids,H1 i=H i)->bI P f N k Q Ty ops.toArray l (O.put d r) H1 U) :
  bg P f N k Q ops.toArray (⟨d,.call ⟨.value g,args,ats⟩,ty,pos,af,none⟩::l) O H n:=
 bg.op hT hN hl rfl (aE.call (post:=fun r H1 U=>∃ e',aj e' r/\Sep H1 U ((sh,v,e')::K) ids/\(∀ i ∈ ids,H1 i=H i)/\n<=U) hg cM (by rw[has,List.nil_append,List.append_nil];exact h H n v K ids hs)) fun r H' n' ⟨e',h1,h2,h3,h4⟩=>hk r H' n' e' h1 h2 h4 h3
end
theorem gB.of {P:Program} {f:FuncId} {fn:Func} {body:Code} {args:ao->List ao} {h:Sh} {e:ao} {aj:ao->ao->Prop} {N:Nat} (hfn:P.funcs[f]?=some fn) (hb:fn.body=some body) (hn:fn.ntmps=N) (hN:∀ v,(args v).length<=N)
  (hq:∀ (H0:au) (n0:Nat) (v:ao) (K0:List bG) (cq:List Id),Sep H0 n0 ((h,v,e)::K0) cq->∀ Q:ao->au->Nat->Prop,(∀ r H1 U e',Sep H1 U ((h,v,e')::K0) cq->(∀ i ∈ cq,H1 i=H0 i)->n0<=U->aj e' r->Q r H1 U)->I P f N [.code body] (fw (args v)) H0 n0 Q) :
  gB P f args h e aj:=fun H n v K ids hs=>
 aS.of hfn hb hn (hN v) fun Q hQ=>hq H n v K ids hs Q fun r H1 U e' h2 h3 h4 h1=>hQ r H1 U ⟨e',h1,h2,h3,h4⟩
end Go.Ab
namespace Go.Ab
variable [Inhabited cn]
section
variable {H H':au} {n n':Nat} {K K1 K2:List bG} {ids ids':List Id}
theorem Sep.uO (h:Sep H n K ids) (hn:n<=n') (hH:∀ i:Id,i.1<n->i ∉ ids->H' i=H i) (hi:∀ i ∈ ids',i ∈ ids\/(n<=i.1/\i.1<n')):Sep H' n' K ids':=
 h.keep hn hH fun i hi'=>(hi i hi').elim (fun h2=>⟨.inl h2,by have:=h.1 i h2;omega⟩) fun h2=>⟨.inr h2.1,h2.2⟩
theorem oX {w:Id} {o:Ob} (h:∀ i:Id,i.1<n->i ∉ ids->H' i=H i) (hw:w ∈ ids\/n<=w.1):∀ i:Id,i.1<n->i ∉ ids->(H'.set w o) i=H i:=fun i h1 h2=>by
 rw[au.ay _ _ (by rintro rfl;rcases hw with hw | hw;exact h2 hw;omega)];exact h i h1 h2
theorem Sep.var {d:Nat} {o:Ob} (h:Sep H n K ids):Sep (H.set (n,d) o) (n+1) K ((n,d)::ids):=
 h.uO (Nat.le_succ n) (oX (fun _ _ _=>rfl) (.inr (Nat.le_refl _))) fun i hi=>by
  rcases List.mem_cons.1 hi with rfl | hi
  ·exact .inr ⟨Nat.le_refl _,Nat.lt_succ_self _⟩
  ·exact .inl hi
theorem Sep.fv {w:Id} {o:Ob} (h:Sep H n K ids) (hw:w ∈ ids):Sep (H.set w o) n K ids:=
 h.uO (Nat.le_refl n) (oX (fun _ _ _=>rfl) (.inl hw)) fun _ hi=>.inl hi
theorem Sep.sub (h:Sep H n K ids) (hi:∀ i ∈ ids',i ∈ ids):Sep H n K ids':=h.uO (Nat.le_refl n) (fun _ _ _=>rfl) fun i h=>.inl (hi i h)
theorem Sep.addEmpty {l:List Sh} {d:Nat} (hs:Sep H n K ids):Sep (H.set (n,d) ⟨l.length,[]⟩) (n+1) ((.s l,.arr (n,d) 0 0 0,.list true [])::K) ids:=Sep.u0 (els:=[]) (es:=[]) hs rfl
theorem o8 {l:List Sh} {z z':List ao} (h:Row H l z z' []):∀ k,aW (Row H l) (List.replicate k z) (List.replicate k z') []
 | 0=>rfl
 | k+1=>⟨[],[],h,o8 h k,rfl,by simp⟩
theorem Sep.addRep {α:Type} [Inhabited α] {f:α->List ao} {l:List Sh} {d k:Nat} {z:List ao} (hs:Sep H n K ids) (hz:∀ H:au,Row H l z (f default) []) :
  Sep (H.set (n,d) ⟨l.length,List.replicate k z⟩) (n+1) ((.s l,.arr (n,d) k 0 k,.list true ((List.replicate k (default:α)).map f))::K) ids:=by
 have h:=Sep.u0 (d:=d) (els:=List.replicate k z) (es:=List.replicate k (f default)) hs (o8 (hz _) k);rw[List.map_replicate];simpa using h
theorem Sep.sM {x:bG} (h:Sep H n (x::K) ids):Sep H n (K++[x]) ids:=Sep.swap (K1:=[x]) h
theorem Sep.cp {l:List Sh} {v:ao} {i:Int} {α:Type} {f:α->List ao} {xs:List α} (h:Sep H n ((.s l,v,.list true (xs.map f))::K) ids) (hf:∀ t ∈ l,t = .c) (hb:0<=i/\i<xs.length) :
  ∃ id,v = .arr id xs.length 0 xs.length/\H id=some ⟨l.length,xs.map f⟩/\id.1<n/\id ∉ ids:=by
 obtain⟨h0,S,h1,h2⟩:=h;simp only[List.map_cons,Row,Tr] at h1;obtain⟨S1,S2,h3,_,rfl,_⟩:=h1;rcases h3 with ⟨_,e,_⟩ | ⟨id,els,es',T,rfl,he,q3,q4,q5,rfl⟩
 ·injection e with _ e
  have:xs=[]:=by simpa using e
  subst this;simp at hb;omega
 ·injection he with _ he
  subst he;have hel:els=xs.map f:=by
   have:∀ {as1 bs:List (List ao)} {S:List Id},aW (Row H l) as1 bs S->as1=bs:=by
    intro as1
    induction as1 with
    | nil=>intro bs S hr;match bs,hr with
     | [],_=>rfl
     | _::_,hr=>exact hr.elim
    | cons a as1 ih=>
     intro bs S hr
     match bs,hr with
     | b::bs,⟨_,_,q1,q2,_,_⟩=>rw[(q1.fill hf).1,ih q2]
     | [],hr=>exact hr.elim
   exact this q4
  subst hel;exact⟨id,by simp,q3,(h2 id (by simp)).1,(h2 id (by simp)).2⟩
theorem Sep.len {Ty:Types} {t:TypeId} {j:TI} {l:List Sh} {v:ao} {es:List (List ao)} {m:Int} (h:Sep H n ((.s l,v,.list true es)::K) ids) (hk:kd Ty t = .slice j) (hm:m=(es.length:Int)):bL Ty H t v=some (int m):=by
 obtain⟨_,es',he,hv⟩:=h.form
 injection he with _ he
 subst he hm;rcases hv with ⟨rfl,rfl⟩ | ⟨id,els,rfl,hl,hH,_⟩
 ·simp[bL,hk]
 ·simp[bL,hk,live,hH,hl]
theorem Sep.cells {l:List Sh} {v e:ao} (h:Sep H n ((.s l,v,e)::K) ids):aJ v=some [v]:=by
 obtain⟨_,es,_,hv⟩:=h.form;rcases hv with ⟨rfl,_⟩ | ⟨id,els,rfl,_⟩<;>rfl
theorem Sep.aL {l:List Sh} {v e:ao} (h:Sep H n ((.s l,v,e)::K) ids):Ab.aL v=true:=h.form.1
end
section
variable {P:Program} {f f':FuncId} {N:Nat} {k:List Item} {Q:ao->au->Nat->Prop} {Ty:Types} {ops:Array Oper} {L:List Oper} {O:Env} {H:au} {n:Nat} {K1 K2:List bG} {ids:List Id} {t:TypeId} {j:TI} {l:List Sh} {v:ao} {es:List (List ao)} {o:Oper}
theorem cx {d:Nat} {x:ao} (K1 K2:List bG) (add adds:List (List ao)) (h:Sep H n ((.s l,v,.list true es)::(K1++K2)) ids) (hk:kd Ty t = .slice j) (hj:j.size=l.length) (hz:j.zero.length=j.size/\j.bytes<=131072)
  (hx:c5 H x=some add) (ho:add.all (fun e=>e.all Ab.aL)=true) (hadd:∀ S,Row H (K1.map (·.1)) (K1.map (·.2.1)) (K1.map (·.2.2)) S->aW (Row H l) add adds S) (hne:adds ≠ []) (hlen:es.length+adds.length<=1073741824)
  (hc:∀ v' H' n',Sep H' n' ((.s l,v',.list true (es++adds))::K2) ids->(∀ i ∈ ids,H' i=H i)->n<=n'->bI P f N k Q Ty ops L (O.put o.dst v') H' n'):fM P f N k Q Ty ops (aR Ty (some d) t v x H n) o L O H n:=by
 obtain⟨v',H',n',h1,h2,h3,h4⟩:=Sep.append (d:=d) h hk hj hz hx ho hadd hne hlen;rw[h1,dK];exact hc v' H' n' h2 h3 h4
theorem nL {κ:Op->Nat} {d:Nat} {x:ao} (K1 K2:List bG) (add adds:List (List ao)) (h:Sep H n ((.s l,v,.list true es)::(K1++K2)) ids) (hk:kd Ty t = .slice j) (hj:j.size=l.length) (hz:j.zero.length=j.size/\j.bytes<=131072)
  (hx:c5 H x=some add) (ho:add.all (fun e=>e.all Ab.aL)=true) (hadd:∀ S,Row H (K1.map (·.1)) (K1.map (·.2.1)) (K1.map (·.2.2)) S->aW (Row H l) add adds S) (hne:adds ≠ []) (hlen:es.length+adds.length<=1073741824)
  (hc:∀ v' H' n',Sep H' n' ((.s l,v',.list true (es++adds))::K2) ids->(∀ i ∈ ids,H' i=H i)->n<=n'->cI P f N k Q Ty κ ops L (O.put o.dst v') H' n'):gS P f N k Q Ty κ ops (aR Ty (some d) t v x H n) o L O H n:=by
 obtain⟨v',H',n',h1,h2,h3,h4⟩:=Sep.append (d:=d) h hk hj hz hx ho hadd hne hlen;rw[h1,gn];exact hc v' H' n' h2 h3 h4
theorem dk {id:Id} {g q:Nat} {i:TI} {new news:List ao} (K1 K2:List bG) (h:Sep H n ((.s l,.arr id g 0 g,.list true es)::(K1++K2)) ids) (hi:i.size=l.length) (hk:q<es.length) (hg:g=es.length) (hone:new.all Ab.aL=true)
  (hf:aX l K1 new news) (hc:∀ H',Sep H' n ((.s l,.arr id g 0 g,.list true (es.set q news))::K2) ids->(∀ i ∈ ids,H' i=H i)->bI P f N k Q Ty ops L (O.put o.dst .undef) H' n) :
  fM P f N k Q Ty ops (match bf (some i) (.ptr id g q 0) (some new) H with | some H'=>some (ao.undef,H',n) | none=>none) o L O H n:=by
 obtain⟨H',h1,h2,h3⟩:=Sep.store h hi hk hg hone hf;rw[h1];exact (dK (v:=ao.undef) (H':=H') (n':=n)).symm ▸ hc H' h2 h3
theorem jX:∀ {l:List Sh} {cs:List ao},(∀ t ∈ l,t = .c)->cs.length=l.length->(∀ a ∈ cs,flat a=true)->aX l [] cs cs
 | [],[],_,_,_=>.nil
 | t::l,a::cs,h,hl,hf=>by
  obtain rfl:=h t (by simp);have ha:=hf a (by simp);cases a<;>simp[flat] at ha;exact .v _ (jX (fun t ht=>h t (by simp[ht])) (by simpa using hl) fun a ha=>hf a (by simp[ha]))
 | [],_::_,_,h,_=>by simp at h
 | _::_,[],_,h,_=>by simp at h
theorem cO {α:Type} [Inhabited α] {id:Id} {g q off:Nat} {ix:Int} {i:TI} {new:List ao} {xs:List α} {f:α->List ao} {x y:α} {K:List bG} (h:Sep H n ((.s l,.arr id g 0 g,.list true (xs.map f))::K) ids) (hl:∀ t ∈ l,t = .c)
  (hi:new.length=i.size) (hb:0<=ix/\ix<xs.length) (hx:x=at' xs ix) (hq:q=ix.toNat) (hg:g=xs.length) (hfl:∀ x,(f x).length=l.length) (hff:∀ a ∈ f y,flat a=true/\Ab.aL a=true) (hn:∀ a ∈ new,Ab.aL a=true)
  (hy:f y=bQ (f x) off new) (cC:off+new.length<=l.length)
  (hc:∀ H',Sep H' n ((.s l,.arr id g 0 g,.list true ((xs.set q y).map f))::K) ids->(∀ i ∈ ids,H' i=H i)->bI P f' N k Q Ty ops L (O.put o.dst .undef) H' n) :
  fM P f' N k Q Ty ops (match bf (some i) (.ptr id g q off) (some new) H with | some H'=>some (ao.undef,H',n) | none=>none) o L O H n:=by
 obtain⟨id',he,hH,_,_⟩:=h.cp hl hb;cases he;have hq':q<xs.length:=by omega
 obtain⟨hlt,hgx⟩:=lW hb hx;obtain⟨H',h1,h2,h3⟩:=Sep.store (K1:=[]) (K2:=K) (i:=⟨i.desc,l.length,i.bytes,i.zero⟩) (new:=f y) (news:=f y) h rfl (by simpa using hq') (by first | (simp;done) | simpa using hg) (by
  rw[List.all_eq_true];exact fun a ha=>(hff a ha).2) (jX hl (by simp[hfl]) fun a ha=>(hff a ha).1)
 have hw:bf (some i) (.ptr id xs.length q off) (some new) H=some H':=by
  simp only[bf,live,hH,List.length_map,↓reduceIte] at h1 ⊢;rw[if_pos ⟨by simp[hfl],hq',by simp[hfl],by rw[List.all_eq_true];exact fun a ha=>(hff a ha).2⟩] at h1;rw[if_pos ⟨hi,hq',cC,by rw[List.all_eq_true];exact hn⟩,<- h1]
  congr 2
  have hrow:(xs.map f).getD q []=f x:=by simp[hq,hlt,hgx]
  simp only[Ob.write,hrow,Ob.mk.injEq,true_and];rw[<- hy]
  congr 1
  simp[bQ,hfl]
 rw[hw];refine (dK (v:=ao.undef) (H':=H') (n':=n)).symm ▸ hc H' ?_ h3;rw[List.map_set];exact h2
theorem cB {K1:List bG} {cs ds:List ao} (hf:aX l K1 cs ds):∀ S,Row H (K1.map (·.1)) (K1.map (·.2.1)) (K1.map (·.2.2)) S->aW (Row H l) [cs] [ds] S:=fun S h=>⟨S,[],hf.row h,rfl,by simp,by simp⟩
theorem re {es:List (List ao)} (h:∀ e ∈ es,e.length=l.length/\∀ a ∈ e,ba a) (hf:∀ t ∈ l,t = .c):∀ S,Row H (([]:List bG).map (·.1)) (([]:List bG).map (·.2.1)) (([]:List bG).map (·.2.2)) S->aW (Row H l) es es S:=fun S hS=>by
 simp only[List.map_nil,Row] at hS;subst hS;exact aW.fresh h hf
end
section
variable {P:Program} {f f':FuncId} {N:Nat} {k:List Item} {Q:ao->au->Nat->Prop} {Ty:Types} {ops:Array Oper} {L:List Oper} {O:Env} {H:au} {n:Nat} {K:List bG} {ids:List Id} {t:TypeId} {j:TI} {l:List Sh} {v:ao} {es:List (List ao)} {o:Oper}
theorem aW.same {l:List Sh} (hf:∀ t ∈ l,t = .c):∀ {as1 bs:List (List ao)} {S:List Id},aW (Row H l) as1 bs S->as1=bs
 | [],[],_,_=>rfl
 | [],_::_,_,hr=>hr.elim
 | _::_,[],_,hr=>hr.elim
 | a::as1,b::bs,_,⟨_,_,q1,q2,_,_⟩=>by rw[(q1.fill hf).1,aW.same hf q2]
theorem Sep.formF {α:Type} {g:α->List ao} {xs:List α} (h:Sep H n ((.s l,v,.list true (xs.map g))::K) ids) (hf:∀ t ∈ l,t = .c) :
  (v = .v (.slice none 0 0)/\xs=[])\/∃ id,v = .arr id xs.length 0 xs.length/\H id=some ⟨l.length,xs.map g⟩:=by
 obtain⟨h0,S,h1,h2⟩:=h;simp only[List.map_cons,Row,Tr] at h1;obtain⟨S1,S2,h3,_,rfl,_⟩:=h1;rcases h3 with ⟨rfl,e,_⟩ | ⟨id,els,es',T,rfl,he,q3,q4,q5,rfl⟩
 ·injection e with _ e
  exact .inl ⟨rfl,by simpa using e⟩
 ·injection he with _ he
  subst he;have:=aW.same hf q4;subst this;exact .inr ⟨id,by simp,q3⟩
theorem Sep.wv {α:Type} {g:α->List ao} {xs:List α} {lo hi:Option ao} {a b:Int} (h:Sep H n ((.s l,v,.list true (xs.map g))::K) ids) (hf:∀ t ∈ l,t = .c) (hk:kd Ty t = .slice j) (hj:j.size=l.length)
  (hlo:a6 lo 0=some a) (hhi:a6 hi xs.length=some b) (hb:0<=a/\a<=b/\b<=xs.length) :
  ∃ w,b6 Ty H t v lo hi=some w/\c5 H w=some (((xs.take b.toNat).drop a.toNat).map g):=by
 rcases h.formF hf with ⟨rfl,rfl⟩ | ⟨id,rfl,hH⟩
 ·simp only[List.length_nil] at hhi hb;refine⟨.v (.slice none 0 0),?_,by simp[c5]⟩;simp only[b6,hk,hlo,hhi];rw[if_pos (by omega)]
 ·refine⟨.arr id xs.length (0+a.toNat) (b.toNat - a.toNat),?_,?_⟩
  ·simp only[b6,hk,hlo,hhi,live,hH,List.length_map,↓reduceIte];rw[if_pos ⟨hb.1,hb.2.1,hb.2.2,hj.symm⟩]
  ·simp only[c5,live,hH,List.length_map,↓reduceIte,Option.some.injEq,Nat.zero_add];rw[List.map_drop,List.map_take,List.drop_take]
theorem Sep.nA {d:Nat} {x:ao} {add:List (List ao)} (h:Sep H n ((.s l,v,.list true es)::K) ids) (hf:∀ t ∈ l,t = .c) (hk:kd Ty t = .slice j) (hj:j.size=l.length) (hz:j.zero.length=j.size/\j.bytes<=131072)
  (hx:c5 H x=some add) (ho:∀ e ∈ add,e.length=l.length/\∀ a ∈ e,ba a/\Ab.aL a=true) (hlen:es.length+add.length<=1073741824) :
  ∃ v' H' n',aR Ty (some d) t v x H n=some (v',H',n')/\Sep H' n' ((.s l,v',.list true (es++add))::K) ids/\(∀ i ∈ ids,H' i=H i)/\n<=n':=by
 have ho':add.all (fun e=>e.all Ab.aL)=true:=by
  rw[List.all_eq_true];intro e he;rw[List.all_eq_true];exact fun a ha=>((ho e he).2 a ha).2
 by_cases hne:add=[]
 ·subst hne;obtain⟨_,es',he,hv⟩:=h.form
  injection he with _ he
  subst he;rcases hv with ⟨rfl,rfl⟩ | ⟨id,els,rfl,hl,hH,_⟩
  ·refine⟨.v (.slice none 0 0),H,n,?_,by simpa using h,fun _ _=>rfl,Nat.le_refl _⟩;simp only[aR,hk,hx];rw[if_pos ⟨hz.1,hz.2,rfl,rfl⟩]
   rfl
  ·have hs:H.set id ⟨l.length,els⟩=H:=by
    funext i
    by_cases hi:i=id
    ·subst hi;simp[au.df,hH]
    ·exact au.ay _ _ hi
   refine⟨.arr id es.length 0 es.length,H,n,?_,by simpa using h,fun _ _=>rfl,Nat.le_refl _⟩;simp only[aR,hk,hx];rw[if_pos ⟨hz.1,hz.2,rfl,rfl⟩];simp only[live,hH,hl,↓reduceIte];rw[if_pos ⟨trivial,trivial,hj.symm,by simpa using hlen⟩];simp[hj,hs]
 ·exact Sep.append (K1:=[]) (K2:=K) h hk hj hz hx ho' (re (fun e he=>⟨(ho e he).1,fun a ha=>((ho e he).2 a ha).1⟩) hf) hne hlen
theorem jR {d:Nat} {x:ao} (add:List (List ao)) (h:Sep H n ((.s l,v,.list true es)::K) ids) (hf:∀ t ∈ l,t = .c) (hk:kd Ty t = .slice j) (hj:j.size=l.length) (hz:j.zero.length=j.size/\j.bytes<=131072)
  (hx:c5 H x=some add) (ho:∀ e ∈ add,e.length=l.length/\∀ a ∈ e,ba a/\Ab.aL a=true) (hlen:es.length+add.length<=1073741824)
  (hc:∀ v' H' n',Sep H' n' ((.s l,v',.list true (es++add))::K) ids->(∀ i ∈ ids,H' i=H i)->n<=n'->bI P f N k Q Ty ops L (O.put o.dst v') H' n'):fM P f N k Q Ty ops (aR Ty (some d) t v x H n) o L O H n:=by
 obtain⟨v',H',n',h1,h2,h3,h4⟩:=Sep.nA (d:=d) h hf hk hj hz hx ho hlen;rw[h1,dK];exact hc v' H' n' h2 h3 h4
end
theorem o1_int (k:IntKind) (a:Int):aL (.v (.int k a))=true:=rfl
theorem vD (a:Bool):aL (.v (.bool a))=true:=rfl
theorem o1_str (a:ByteArray):aL (.v (.string a))=true:=rfl
theorem o1_nil:aL (.v (.slice none 0 0))=true:=rfl
theorem vz (fr:Bool) (l:List (List ao)):aL (.list fr l)=true:=rfl
theorem o1_arr (id:Id) (g o l:Nat):aL (.arr id g o l)=true:=rfl
theorem o1_ptr (id:Id) (g o l:Nat):aL (.ptr id g o l)=true:=rfl
theorem bm {α:Type} [Inhabited α] {l:List α} {i:Int} {x:α} {q:Nat} (hb:0<=i/\i<l.length) (hx:x=at' l i) (hq:q=i.toNat):l[q]?=some x:=by
 obtain⟨h,hg⟩:=lW hb hx;rw[hq,List.getElem?_eq_getElem h,hg]
theorem di {α:Type} {a:Option α} {b:α} (h:a=some b):a=some b:=h
theorem kT {α:Type} {l:List α} (h:l.length=1):∃ a,l=[a]:=by match l,h with | [a],_=>exact⟨a,rfl⟩
theorem gV {α:Type} {l:List α} (h:l.length=2):∃ a b,l=[a,b]:=by match l,h with | [a,b],_=>exact⟨a,b,rfl⟩
theorem vH {α:Type} {l:List α} (h:l.length=4):∃ a b c d,l=[a,b,c,d]:=by match l,h with | [a,b,c,d],_=>exact⟨a,b,c,d,rfl⟩
theorem qf {α:Type} {l:List α} (h:l.length=7):∃ a b c d e f g,l=[a,b,c,d,e,f,g]:=by match l,h with | [a,b,c,d,e,f,g],_=>exact⟨a,b,c,d,e,f,g,rfl⟩
theorem kA {α:Type} {l:List α} (h:l.length=10):∃ a b c d e f g i j k,l=[a,b,c,d,e,f,g,i,j,k]:=by match l,h with | [a,b,c,d,e,f,g,i,j,k],_=>exact⟨a,b,c,d,e,f,g,i,j,k,rfl⟩
section
variable {P:Program} {f:FuncId} {N:Nat} {k:List Item} {Q:ao->au->Nat->Prop} {Ty:Types} {l:List Oper} {O:Env} {H:au} {n:Nat} {K:List bG} {ids:List Id}
end
def bW (n:Int):List ao:=[int n]
def bO (s:aH):List ao:=[str s]
end Go.Ab
namespace Go.Ab
variable [Inhabited cn]
def dJ:Op->Nat
 | .slice ..=>0
 | op=>cA op
def dS:ao->List Id
 | .arr id _ _ _=>[id]
 | _=>[]
section
variable (P:Program) (N:Nat) (ops:Array Oper) (W:List Id)
def gD (o:Oper) (s s':AS):Prop:=
 (eG ops o s.1=some true/\∃ v,s'.1=s.1.put o.dst v/\(dJ o.op=0->s'.2=s.2/\∀ H n,(∀ i ∈ W,H i=s.2.1 i)->aE P N o (loc o.op s.1) H n (rC v H n))/\(dJ o.op=1->s'.2=s.2) /\
   (∀ i ∈ W,s'.2.1 i=s.2.1 i)/\aE P N o (loc o.op s.1) s.2.1 s.2.2 (rC v s'.2.1 s'.2.2)) \/
 (eG ops o s.1=some false/\s'=(s.1.put o.dst gF,s.2))
def jK (R:AS->Prop):Nat->Array Bool->AS->Prop
 | 0,listed,s=>Region.ready .any ops listed=[]/\R s
 | fuel+1,listed,s=>(Region.ready .any ops listed=[]->R s)/\∀ i ∈ Region.ready .any ops listed,∃ o s',ops[i]?=some o/\gD P N ops W o s s'/\jK R fuel (listed.setIfInBounds i true) s'
def vW (R:AS->Prop):List Oper->AS->Prop
 | [],s=>R s
 | o::l,s=>∃ s',gD P N ops W o s s'/\vW R l s'
end
section
variable {P:Program} {N:Nat} {ops:Array Oper} {W:List Id}
theorem gD.jH {oi oj:Oper} (hap:oi.apart ops oj=true) (hc:eI (dJ oi.op) (dJ oj.op)=true) {s si sij:AS} (hi:gD P N ops W oi s si) (hj:gD P N ops W oj si sij):∃ sj,gD P N ops W oj s sj/\gD P N ops W oi sj sij:=by
 obtain⟨h1,h2,h3⟩:=Oper.apart_spec hap;have lj:∀ v,loc oj.op (s.1.put oi.dst v)=loc oj.op s.1:=fun v=>dX (cm h1)
 have li:∀ v,loc oi.op (s.1.put oj.dst v)=loc oi.op s.1:=fun v=>dX (cm h3)
 have gj:∀ v,eG ops oj (s.1.put oi.dst v)=eG ops oj s.1:=fun v=>fi h1
 have gi:∀ v,eG ops oi (s.1.put oj.dst v)=eG ops oi s.1:=fun v=>fi h3
 have hcc:dJ oi.op=0\/dJ oj.op=0\/(dJ oi.op=1/\dJ oj.op=1):=by
  simp only[eI,Bool.or_eq_true,beq_iff_eq,Bool.and_eq_true] at hc;rcases hc with (h | h) | h
  ·exact .inl h
  ·exact .inr (.inl h)
  ·exact .inr (.inr h)
 obtain⟨O,H,n⟩:=s;obtain⟨ρi,Hi,ni⟩:=si;obtain⟨ρj,Hj,nj⟩:=sij;simp only at lj li gj gi;rcases hi with ⟨hgi,v,hv,hk0,hk1,hw,hop⟩ | ⟨hgi,hs⟩
 ·simp only at hgi hv hk0 hk1 hw hop;subst hv;rcases hj with ⟨hgj,u,hu,hl0,hl1,hx,hoq⟩ | ⟨hgj,hs'⟩
  ·simp only at hgj hu hl0 hl1 hx hoq;subst hu;rw[gj] at hgj;rw[lj] at hl0 hoq;rcases hcc with h0 | h0 | ⟨h0,h0'⟩
   ·obtain⟨he,hall⟩:=hk0 h0;cases he;refine⟨(O.put oj.dst u,Hj,nj),.inl ⟨hgj,u,rfl,hl0,hl1,hx,hoq⟩,.inl ⟨by simpa only [gi] using hgi,v,by rw[put_comm v u h2],fun _=>⟨rfl,?_⟩,fun _=>rfl,fun _ _=>rfl,?_⟩⟩
    ·simp only[li];exact fun H' n' hH'=>hall H' n' fun i hi=>(hH' i hi).trans (hx i hi)
    ·simp only[li];exact hall Hj nj hx
   ·obtain⟨he,hall⟩:=hl0 h0;cases he;refine⟨(O.put oj.dst u,H,n),.inl ⟨hgj,u,rfl,fun _=>⟨rfl,fun H' n' hH'=>hall H' n' fun i hi=>(hH' i hi).trans (hw i hi).symm⟩,fun _=>rfl,fun _ _=>rfl,hall H n fun i hi=>(hw i hi).symm⟩,
     .inl ⟨by simpa only [gi] using hgi,v,by rw[put_comm v u h2],by simpa only [li] using hk0,hk1,hw,?_⟩⟩
    simp only[li];exact hop
   ·have e1:=hk1 h0;have e2:=hl1 h0';cases e1;cases e2;refine⟨(O.put oj.dst u,H,n),.inl ⟨hgj,u,rfl,hl0,hl1,hx,hoq⟩,.inl ⟨by simpa only [gi] using hgi,v,by rw[put_comm v u h2],by simpa only [li] using hk0,hk1,hw,?_⟩⟩;simp only[li];exact hop
  ·simp only at hgj hs';cases hs';rw[gj] at hgj;refine⟨(O.put oj.dst gF,H,n),.inr ⟨hgj,rfl⟩,.inl ⟨by simpa only [gi] using hgi,v,by rw[put_comm v gF h2],by simpa only [li] using hk0,hk1,hw,?_⟩⟩;simp only[li];exact hop
 ·simp only at hgi hs;cases hs;rcases hj with ⟨hgj,u,hu,hl0,hl1,hx,hoq⟩ | ⟨hgj,hs'⟩
  ·simp only at hgj hu hl0 hl1 hx hoq;subst hu;rw[gj] at hgj;rw[lj] at hl0 hoq;exact⟨(O.put oj.dst u,Hj,nj),.inl ⟨hgj,u,rfl,hl0,hl1,hx,hoq⟩,.inr ⟨by simpa only [gi] using hgi,by rw[put_comm gF u h2]⟩⟩
  ·simp only at hgj hs';cases hs';rw[gj] at hgj;exact⟨(O.put oj.dst gF,H,n),.inr ⟨hgj,rfl⟩,.inr ⟨by simpa only [gi] using hgi,by rw[put_comm gF gF h2]⟩⟩
theorem jK.first {R:AS->Prop} {i:Nat} {oi:Oper} (hi:ops[i]?=some oi) (ak:List Nat) (hD:∀ j oj,ops[j]?=some oj->j ∈ ak->j ≠ i->∃ e ∈ oj.after,Region.binds .any e=true/\e.on ∈ ak):∀ (fuel:Nat) (listed:Array Bool) (s s':AS),
  (∀ j ∈ ak,listed.getD j true=false)->(∀ j oj,ops[j]?=some oj->j ≠ i->listed.getD j true=false->j ∉ ak->oi.apart ops oj=true/\eI (dJ oi.op) (dJ oj.op)=true) ->
  i ∈ Region.ready .any ops listed->gD P N ops W oi s s'->jK P N ops W R fuel (listed.setIfInBounds i true) s'->jK P N ops W R (fuel+1) listed s:=by
 intro fuel
 induction fuel with
 | zero=>
  intro listed s s' _ _ hr hst H;refine⟨fun h=>(by rw[h] at hr;cases hr),fun j hj=>?_⟩
  by_cases hji:j=i
  ·subst hji;exact⟨oi,s',hi,hst,H⟩
  ·have:=ready_mono hj hji;rw[H.1] at this;cases this
 | succ fuel ih=>
  intro listed s s' hinv hfree hr hst H;refine⟨fun h=>(by rw[h] at hr;cases hr),fun j hj=>?_⟩
  by_cases hji:j=i
  ·subst hji;exact⟨oi,s',hi,hst,H⟩
  ·obtain⟨oj,s'',hoj,hstj,hrest⟩:=H.2 j (ready_mono hj hji);obtain⟨hjun,oj',hoj',hall⟩:=mem_ready.1 hj;rw[hoj] at hoj';cases hoj';have hnot:j ∉ ak:=fun hd=>by
    obtain⟨e,he,hb,hed⟩:=hD j oj hoj hd hji;have h1:=hall e he hb;have h0:=hinv e.on hed;rcases Nat.lt_or_ge e.on listed.size with h' | h'
    ·simp[h'] at h0 h1;rw[h0] at h1;cases h1
    ·simp[Array.getElem?_eq_none h'] at h1
   obtain⟨hap,hco⟩:=hfree j oj hoj hji hjun hnot;obtain⟨sj,h1,h2⟩:=gD.jH hap hco hst hstj;refine⟨oj,sj,hoj,h1,ih (listed.setIfInBounds j true) sj s'' (fun k hk=>?_) (fun k ok hk hki hun hno=>?_) (ready_mono hr (Ne.symm hji)) h2 ?_⟩
   ·have hjk:j ≠ k:=fun he=>hnot (he ▸ hk)
    rw[getD_set_ne true hjk];exact hinv k hk
   ·refine hfree k ok hk hki ?_ hno
    by_cases hjk:j=k
    ·subst hjk;exact hjun
    ·rw[getD_set_ne true hjk] at hun;exact hun
   ·rw[Array.setIfInBounds_comm _ _ hji];exact hrest
theorem jK.lex {R:AS->Prop}:∀ (l:List Oper) (k:Nat) (listed:Array Bool) (s:AS),(∀ j:Nat,l[j]?=ops[k+j]?)->ld dJ ops l.length k listed=true->vW P N ops W R l s->jK P N ops W R l.length listed s
 | [],_,_,_,_,hB,h=>⟨by simpa[ld] using hB,h⟩
 | o::l,k,listed,s,hl,hB,h=>by
  have h0:ops[k]?=some o:=by simpa using (hl 0).symm
  simp only[List.length_cons,ld,Bool.and_eq_true] at hB;obtain⟨⟨hr,hf⟩,hB'⟩:=hB;obtain⟨s',hst,hrest⟩:=h;obtain⟨f1,f2,f3⟩:=ji h0 hf;exact jK.first h0 (behind ops k) f1 l.length listed s s' f2 f3 (by simpa using hr) hst
   (jK.lex l (k+1) _ _ (fun j=>by have:=hl (j+1);simpa[Nat.add_assoc,Nat.add_comm 1 j] using this) hB' hrest)
theorem jK.sound {R:AS->Prop} (hN:ops.toList.all (fun o=>cU N o.dst)=true) {Q:Exit->Act->World->Prop} {c0:Ctx} (hQ:∀ a c O,aQ c0 c->Good c->bV N c O a->R (O,c.H,c.n)->Q .normal a c.w) :
  ∀ (fuel:Nat) (listed:Array Bool) (O:Env) (c:Ctx) (a:Act),aQ c0 c->Good c->bV N c O a->jK P N ops W R fuel listed (O,c.H,c.n)->wpAny P .any ops Q fuel listed a c.w
 | 0,_,_,_,_,hk,g,r,h=>⟨h.1,hQ _ _ _ hk g r h.2⟩
 | fuel+1,listed,O,c,a,hk,g,r,h=>by
  refine⟨fun h0=>hQ _ _ _ hk g r (h.1 h0),fun i hi=>?_⟩;obtain⟨o,s',ho,hst,hrest⟩:=h.2 i hi;obtain⟨ρ',H',n'⟩:=s';have hd:cU N o.dst=true:=List.all_eq_true.1 hN o (by rw[<- Array.getElem?_toList] at ho;exact List.mem_of_getElem? ho);unfold wpOp;simp only[ho];rcases hst with ⟨hg,v,hv,_,_,_,hop⟩ | ⟨hg,hs⟩
  ·rw[if_pos (bA r hN hg)];simp only at hv hop;subst hv;refine .inl (hop c a rfl rfl g (r.loc o.op) _ _ ?_);rintro v1 x c' ⟨rfl,hH,hn⟩ hrep hgood hkeep;exact jK.sound hN hQ fuel _ _ c' _ (hk.trans hkeep) hgood ((r.keeps hkeep).put hd hrep) (by rw[hH,hn];exact hrest)
  ·rw[if_neg (by rw[bA r hN hg];simp)];cases hs;exact jK.sound hN hQ fuel _ _ c _ hk g (r.put hd (.v _)) hrest
end
section
variable {P:Program} {f:FuncId} {N:Nat} {k:List Item} {O:Env} {H:au} {n:Nat} {Q:ao->au->Nat->Prop}
theorem I.wm (W:List Id) {id:Nat} {ops:List Oper} (hm:P.follows .mixedOrders=true) (hN:ops.all (fun o=>cU N o.dst)=true) (hB:eW dJ ops.toArray=true)
  (h:vW P N ops.toArray W (fun s=>I P f N k s.1 s.2.1 s.2.2 Q) ops (O,H,n)):I P f N (.code (.region id ops.toArray true)::k) O H n Q:=by
 intro c a hH hn g r b cs hf hk;subst hH;subst hn;obtain⟨d1,d2⟩:=eR g;have hany:=jK.lex (P:=P) (N:=N) (W:=W) (ops:=ops.toArray) ops 0 (Array.replicate ops.toArray.size false) (O,c.H,c.n) (by simp) (by simpa[eW] using hB) h;have hw:(Code.region id ops.toArray true).wp P (fun e a' w'=>e = .normal/\∃ c' ρ',c'.w=w'/\aQ c c'/\Good c'/\bV N c' ρ' a'/\I P f N k ρ' c'.H c'.n Q) a c.w:=by
  refine wp_region_any hm ?_;have:=jK.sound (P:=P) (N:=N) (W:=W) (ops:=ops.toArray) (c0:=c) (by simpa using hN) (Q:=fun e a' w'=>e = .normal/\∃ c' ρ',c'.w=w'/\aQ c c'/\Good c'/\bV N c' ρ' a'/\I P f N k ρ' c'.H c'.n Q)
   (R:=fun s=>I P f N k s.1 s.2.1 s.2.2 Q) (fun a' c' ρ' V hg' hr' hR=>⟨rfl,c',ρ',rfl,V,hg',hr',hR⟩) ops.length (Array.replicate ops.toArray.size false) O { c with w:={ c.w with drawn:=c.w.drawn+1 } } a d1 d2 (r.keeps d1) hany
  simpa using this
 obtain⟨e,a',w',⟨rfl,c',ρ',rfl,V,hg',hr',hR⟩,harr⟩:=hw b k cs;obtain⟨x,v,c'',fr,q,hr,hg,hke,hst,rest⟩:=hR c' a' rfl rfl hg' hr' b cs hf hk;exact⟨x,v,c'',fr,q,hr,hg,V.trans hke,Steps.trans harr hst,rest⟩
end
def okV (W:List Id) (o:Oper) (O:Env) (H H':au):Prop:=
 (∀ i ∈ W,H' i=H i)/\∀ t x lo hi mx,o.op = .slice t x lo hi mx->∀ id g a b,O.ev x = .arr id g a b->id ∈ W
section
variable (P:Program) (f:FuncId) (N:Nat) (k:List Item) (Q:ao->au->Nat->Prop) (Ty:Types) (W:List Id) (ops:Array Oper)
def fG:List Oper->Env->au->Nat->Prop
 | [],O,H,n=>I P f N k O H n Q
 | o::l,O,H,n=>o.guard=none/\match aK Ty o.dst o.op O H n with
  | some (v,H',n')=>okV W o O H H'/\fG l (O.put o.dst v) H' n'
  | none=>False
def mb (r:Option (ao × au × Nat)) (o:Oper) (l:List Oper) (O:Env) (H:au):Prop:=
 match r with
 | some (v,H',n')=>okV W o O H H'/\fG P f N k Q Ty W l (O.put o.dst v) H' n'
 | none=>False
end
section
variable {P:Program} {f:FuncId} {N:Nat} {k:List Item} {Q:ao->au->Nat->Prop} {Ty:Types} {W:List Id} {ops:Array Oper} {o:Oper} {L:List Oper} {O:Env} {H:au} {n:Nat}
@[simp] theorem evalV_nil : fG P f N k Q Ty W [] O H n = I P f N k O H n Q := rfl
@[simp] theorem evalV_op {d : Option Tmp} {op : Op} {ty : TypeId} {pos : String} {af : Array Edge} : fG P f N k Q Ty W (⟨d, op, ty, pos, af, none⟩ :: L) O H n = mb P f N k Q Ty W (aK Ty d op O H n) ⟨d, op, ty, pos, af, none⟩ L O H := by
 simp only[fG,true_and];rfl
@[simp] theorem qD {v : ao} {n' : Nat} : mb P f N k Q Ty W (some (v, H, n')) o L O H = ((∀ t x lo hi mx, o.op = .slice t x lo hi mx -> ∀ id g a b, O.ev x = .arr id g a b -> id ∈ W) /\ fG P f N k Q Ty W L (O.put o.dst v) H n') := by
 simp[mb,okV]
theorem iv {v:ao} {H':au} {n':Nat} (hw:∀ i ∈ W,H' i=H i) (ho:∀ t x lo hi mx,o.op ≠ .slice t x lo hi mx) (h:fG P f N k Q Ty W L (O.put o.dst v) H' n'):mb P f N k Q Ty W (some (v,H',n')) o L O H:=
 ⟨⟨hw,fun t x lo hi mx he=>absurd he (ho t x lo hi mx)⟩,h⟩
theorem nY {H2:au} {t:TypeId} {x v:ao} {lo hi:Option ao} (h:b6 Ty H t x lo hi=some v) (hw:∀ id g a b,x = .arr id g a b->H2 id=H id):b6 Ty H2 t x lo hi=some v:=by
 unfold b6 at h ⊢
 split at h
 ·simp_all
 ·simp_all
 ·have:=hw _ _ _ _ rfl
  simp_all [live]
 ·simp_all
 ·cases h
theorem oB {op:Op} (h:dJ op=0):(∃ t x lo hi mx,op = .slice t x lo hi mx)\/cA op=0:=by
 unfold dJ at h
 split at h
 ·exact .inl ⟨_,_,_,_,_,rfl⟩
 ·exact .inr h
theorem sE {op:Op} (h:dJ op=1):cA op=1:=by
 unfold dJ at h
 split at h
 ·cases h
 ·exact h
theorem gD.iy (hT:aN P Ty) {v:ao} {H':au} {n':Nat} (hg:eG ops o O=some true) (hs:aK Ty o.dst o.op O H n=some (v,H',n')) (ho:okV W o O H H'):gD P N ops W o (O,H,n) (O.put o.dst v,H',n'):=by
 have hl:aK Ty o.dst o.op (loc o.op O) H n=some (v,H',n'):=by rw[bP];exact hs
 refine .inl ⟨hg,v,rfl,fun h0=>?_,fun h1=>?_,ho.1,bN hT hl⟩
 ·rcases oB h0 with ⟨t,x,lo,hi,mx,he⟩ | h0
  ·have h12:H'=H/\n'=n:=fE (by rw[he];rfl) hl;obtain⟨e1,e2⟩:=h12;subst e1;subst e2;refine⟨rfl,fun H2 n2 h2=>bN hT ?_⟩;rw[bP];have hx:=ho.2 t x lo hi mx he;simp only at h2;rw[he] at hs ⊢;cases mx with
   | some m=>cases hs
   | none=>
    simp only[aK] at hs ⊢;cases hv:b6 Ty H' t (O.ev x) (lo.map O.ev) (hi.map O.ev) with
    | none=>rw[hv] at hs;cases hs
    | some v'=>
     rw[hv] at hs;cases hs;rw[nY hv fun id g a b hxe=>h2 id (hx id g a b hxe)]
     rfl
  ·obtain⟨e1,e2,hall⟩:=jy h0 hl;subst e1;subst e2;exact⟨rfl,fun H2 n2 _=>bN hT (hall H2 n2)⟩
 ·obtain⟨e1,e2⟩:=fE (sE h1) hl;subst e1;subst e2
  rfl
theorem gW (hT:aN P Ty):∀ (l:List Oper) (O:Env) (H:au) (n:Nat),fG P f N k Q Ty W l O H n->vW P N ops W (fun s=>I P f N k s.1 s.2.1 s.2.2 Q) l (O,H,n)
 | [],O,H,n,h=>h
 | o::l,O,H,n,h=>by
  obtain⟨hg,h⟩:=h;cases hs:aK Ty o.dst o.op O H n with
  | none=>rw[hs] at h;exact h.elim
  | some r=>
   obtain⟨v,H',n'⟩:=r;rw[hs] at h;exact⟨_,gD.iy hT (by simp[eG,hg]) hs h.1,gW hT l _ _ _ h.2⟩
theorem I.seqV (hT:aN P Ty) (W:List Id) {id:Nat} {ops:List Oper} {y:Code} (hm:P.follows .mixedOrders=true) (hN:ops.all (fun o=>cU N o.dst)=true) (hB:eW dJ ops.toArray=true)
  (h:∀ k':List Item,(∀ O H n,I P f N (.code y::k) O H n Q->I P f N k' O H n Q)->fG P f N k' Q Ty W ops O H n):I P f N (.code (.seq (.region id ops.toArray true) y)::k) O H n Q:=
 I.seq (I.wm W hm hN hB (gW hT ops _ _ _ (h (.code y::k) fun _ _ _ h=>h)))
theorem I.evalVE (hT:aN P Ty) (W:List Id) {id:Nat} {ops:List Oper} (hm:P.follows .mixedOrders=true) (hN:ops.all (fun o=>cU N o.dst)=true) (hB:eW dJ ops.toArray=true)
  (h:∀ k':List Item,(∀ O H n,I P f N k O H n Q->I P f N k' O H n Q)->fG P f N k' Q Ty W ops O H n):I P f N (.code (.region id ops.toArray true)::k) O H n Q:=
 I.wm W hm hN hB (gW hT ops _ _ _ (h k fun _ _ _ h=>h))
end
section
variable {P:Program} {f f':FuncId} {N:Nat} {k:List Item} {Q:ao->au->Nat->Prop} {Ty:Types} {W:List Id} {L:List Oper} {O:Env} {H:au} {n:Nat} {K K1 K2:List bG} {ids:List Id} {t:TypeId} {j:TI} {l:List Sh} {v:ao} {es:List (List ao)} {o:Oper}
theorem Sep.at {α:Type} {g:α->List ao} {xs:List α} (h:Sep H n ((.s l,v,.list true (xs.map g))::K) ids) (hf:∀ t ∈ l,t = .c):∀ i ∈ dS v,H i=some ⟨l.length,xs.map g⟩/\i.1<n:=fun i hi=>by
 obtain⟨h0,S,h1,h2⟩:=h;simp only[List.map_cons,Row,Tr] at h1;obtain⟨S1,S2,h3,_,rfl,_⟩:=h1;rcases h3 with ⟨rfl,e,_⟩ | ⟨id,els,es',T,rfl,he,q3,q4,q5,rfl⟩
 ·cases hi
 ·injection he with _ he
  subst he;have:=aW.same hf q4;subst this;obtain rfl:i=id:=by simpa[dS] using hi
  exact⟨q3,(h2 i (by simp)).1⟩
theorem eF {W:List Id} {o o':Ob} {d:Nat} (A:∀ i ∈ W,H i=some o/\i.1<n):(∀ i ∈ W,(H.set (n,d) o') i=some o/\i.1<n+1)/\∀ i ∈ W,(H.set (n,d) o') i=H i:=by
 have h:∀ i ∈ W,(H.set (n,d) o') i=H i:=fun i hi=>au.ay _ _ (by rintro rfl;have:=(A _ hi).2;simp at this)
 exact⟨fun i hi=>⟨(h i hi).trans (A i hi).1,by have:=(A i hi).2;omega⟩,h⟩
theorem ju {d:Nat} {x:ao} (K1 K2:List bG) (add adds:List (List ao)) (hno:∀ t x lo hi mx,o.op ≠ .slice t x lo hi mx) (h:Sep H n ((.s l,v,.list true es)::(K1++K2)) ids) (hk:kd Ty t = .slice j) (hj:j.size=l.length) (hz:j.zero.length=j.size/\j.bytes<=131072)
  (hx:c5 H x=some add) (ho:add.all (fun e=>e.all Ab.aL)=true) (hadd:∀ S,Row H (K1.map (·.1)) (K1.map (·.2.1)) (K1.map (·.2.2)) S->aW (Row H l) add adds S) (hne:adds ≠ []) (hlen:es.length+adds.length<=1073741824)
  (hc:∀ v' H' n',Sep H' n' ((.s l,v',.list true (es++adds))::K2) ids->(∀ i ∈ ids,H' i=H i)->n<=n'->(∀ i ∈ W,H' i=H i)/\fG P f N k Q Ty W L (O.put o.dst v') H' n'):mb P f N k Q Ty W (aR Ty (some d) t v x H n) o L O H:=by
 obtain⟨v',H',n',h1,h2,h3,h4⟩:=Sep.append (d:=d) h hk hj hz hx ho hadd hne hlen;rw[h1];obtain⟨h5,h6⟩:=hc v' H' n' h2 h3 h4;exact iv h5 hno h6
theorem dR {d:Nat} {x:ao} (add:List (List ao)) (hno:∀ t x lo hi mx,o.op ≠ .slice t x lo hi mx) (h:Sep H n ((.s l,v,.list true es)::K) ids) (hf:∀ t ∈ l,t = .c) (hk:kd Ty t = .slice j) (hj:j.size=l.length) (hz:j.zero.length=j.size/\j.bytes<=131072)
  (hx:c5 H x=some add) (ho:∀ e ∈ add,e.length=l.length/\∀ a ∈ e,ba a/\Ab.aL a=true) (hlen:es.length+add.length<=1073741824)
  (hc:∀ v' H' n',Sep H' n' ((.s l,v',.list true (es++add))::K) ids->(∀ i ∈ ids,H' i=H i)->n<=n'->(∀ i ∈ W,H' i=H i)/\fG P f N k Q Ty W L (O.put o.dst v') H' n'):mb P f N k Q Ty W (aR Ty (some d) t v x H n) o L O H:=by
 obtain⟨v',H',n',h1,h2,h3,h4⟩:=Sep.nA (d:=d) h hf hk hj hz hx ho hlen;rw[h1];obtain⟨h5,h6⟩:=hc v' H' n' h2 h3 h4;exact iv h5 hno h6
theorem fX {α:Type} {g:α->List ao} {xs:List α} {lo hi:Option Operand} {d:Option Tmp} {x:Operand} {ty:TypeId} {pos:String} {af:Array Edge} (a b:Int) (hW:∀ i ∈ dS v,i ∈ W) (hv:O.ev x=v) (h:Sep H n ((.s l,v,.list true (xs.map g))::K) ids) (hf:∀ t ∈ l,t = .c) (hk:kd Ty t = .slice j) (hj:j.size=l.length)
  {lo' hi':Option ao} (hlo:a6 lo' 0=some a) (hhi:a6 hi' xs.length=some b) (hb:0<=a/\a<=b/\b<=xs.length)
  (hc:∀ w,c5 H w=some (((xs.take b.toNat).drop a.toNat).map g)->fG P f' N k Q Ty W L (O.put d w) H n):mb P f' N k Q Ty W ((b6 Ty H t v lo' hi').map fun z=>(z,H,n)) ⟨d,.slice t x lo hi none,ty,pos,af,none⟩ L O H:=by
 obtain⟨w,h1,h2⟩:=Sep.wv h hf hk hj hlo hhi hb;rw[h1,Option.map_some,qD];refine⟨?_,hc w h2⟩;rintro t' x' lo1 hi1 mx' he id g' a' b' hx;cases he;rw[hv] at hx;exact hW id (by rw[hx];simp[dS])
end
end Go.Ab
namespace Go.Ab
variable [Inhabited cn]
section
variable {P:Program} {Ty:Types} {N:Nat} {O:Env} {H:au} {n:Nat}
theorem kF {t e:TypeId} {w:World} (h:(underlying t).run P w = .ok (.slice e) w) (a:Option Addr) (m c:Nat):(Op.equal t (.slice a m c) (.slice none 0 0)).run P w = .ok a.isNone w:=by
 have h1:∀ k,(Op.equalIn (k+1) t (.slice a m c) (.slice none 0 0)).run P w = .ok a.isNone w:=fun k=>by cases a<;>simp[Op.equalIn,h]
 exact h1 9999
theorem aE.isNil (hT:aN P Ty) {d:Option Tmp} {t t' ty:TypeId} {x y:Operand} {pos:String} {af:Array Edge} {gu:Option (Nat × Bool)} {j:TI} {fr:Bool} {els:List (List ao)} (hk:kd Ty t = .slice j) (hx:O.ev x = .list fr els) (hy:O.ev y = .v (.slice none 0 0)) :
  aE P N ⟨d,.binOp .eql t x y t',ty,pos,af,gu⟩ O H n fun v1 H1 U=>(∃ b:Bool,v1=bool b/\(b=true->els=[]))/\H1=H/\U=n:=
 aE.dy fun c a hH hn g r=>by
  obtain⟨i,e,hi,hd,hj⟩:=cb hk;have hde:=(hT t i hi).a7 c.w;rw[hd] at hde;have rx:=r.ev x;have ry:=r.ev y;rw[hx] at rx;rw[hy] at ry;have ey:=ry.bo;have hrun:∀ (b:Option Addr) (m q:Nat),(binOp .eql t (.slice b m q) (.slice none 0 0)).run P c.w = .ok (.bool b.isNone) c.w:=fun b m q=>by
   show ((Op.equal t (.slice b m q) (.slice none 0 0)) >>= fun r=>_).run P c.w=_;simp only[Sem.run_bind,kF hde,Result.andThen_ok,Sem.run_pure]
  generalize hv:a.eval x=vx at rx;cases rx with
  | lnil=>exact⟨bool true,.bool true,c,by simp[execOp,hv,ey,hrun,eqGuard],⟨⟨true,rfl,fun _=>rfl⟩,hH,hn⟩,.v _,g,aQ.refl c⟩
  | list fr els ad cap sz cell hs cY hm hsz hc h=>exact⟨bool false,.bool false,c,by simp[execOp,hv,ey,hrun,eqGuard],⟨⟨false,rfl,fun h=>by cases h⟩,hH,hn⟩,.v _,g,aQ.refl c⟩
theorem bg.isNil (hT:aN P Ty) {f:FuncId} {k:List Item} {Q:ao->au->Nat->Prop} {ops l:List Oper} {d:Option Tmp} {t t' ty:TypeId} {x y:Operand} {pos:String} {af:Array Edge} {j:TI} {fr:Bool} {els:List (List ao)}
  (hN:ops.all (fun o=>cU N o.dst)=true) (hl:(⟨d,.binOp .eql t x y t',ty,pos,af,none⟩::l:List Oper).all (fun o=>cU N o.dst)=true) (hk:kd Ty t = .slice j) (hx:O.ev x = .list fr els) (hy:O.ev y = .v (.slice none 0 0))
  (h:∀ b:Bool,(b=true->els=[])->bI P f N k Q Ty ops.toArray l (O.put d (bool b)) H n):bg P f N k Q ops.toArray (⟨d,.binOp .eql t x y t',ty,pos,af,none⟩::l) O H n:=
 bg.op hT hN hl rfl (aE.isNil hT hk hx hy) (by rintro v H' n' ⟨⟨b,rfl,hb⟩,rfl,rfl⟩;exact h b hb)
end
section
variable {P:Program} {f f':FuncId} {N:Nat} {k:List Item} {Q:ao->au->Nat->Prop} {Ty:Types} {ops:Array Oper} {L:List Oper} {O:Env} {H:au} {n:Nat} {K1 K2:List bG} {ids:List Id} {t:TypeId} {j:TI} {l:List Sh} {v:ao} {es:List (List ao)} {o:Oper}
theorem pD {κ:Op->Nat} {α:Type} [Inhabited α] {id:Id} {g q off:Nat} {ix:Int} {i:TI} {new:List ao} {xs:List α} {f:α->List ao} {x y:α} {K:List bG} (h:Sep H n ((.s l,.arr id g 0 g,.list true (xs.map f))::K) ids) (hl:∀ t ∈ l,t = .c)
  (hi:new.length=i.size) (hb:0<=ix/\ix<xs.length) (hx:x=at' xs ix) (hq:q=ix.toNat) (hg:g=xs.length) (hfl:∀ x,(f x).length=l.length) (hff:∀ a ∈ f y,flat a=true/\Ab.aL a=true) (hn:∀ a ∈ new,Ab.aL a=true)
  (hy:f y=bQ (f x) off new) (cC:off+new.length<=l.length)
  (hc:∀ H',Sep H' n ((.s l,.arr id g 0 g,.list true ((xs.set q y).map f))::K) ids->(∀ i ∈ ids,H' i=H i)->cI P f' N k Q Ty κ ops L (O.put o.dst .undef) H' n) :
  gS P f' N k Q Ty κ ops (match bf (some i) (.ptr id g q off) (some new) H with | some H'=>some (ao.undef,H',n) | none=>none) o L O H n:=by
 obtain⟨id',he,hH,_,_⟩:=h.cp hl hb;cases he;have hq':q<xs.length:=by omega
 obtain⟨hlt,hgx⟩:=lW hb hx;obtain⟨H',h1,h2,h3⟩:=Sep.store (K1:=[]) (K2:=K) (i:=⟨i.desc,l.length,i.bytes,i.zero⟩) (new:=f y) (news:=f y) h rfl (by simpa using hq') (by first | (simp;done) | simpa using hg) (by
  rw[List.all_eq_true];exact fun a ha=>(hff a ha).2) (jX hl (by simp[hfl]) fun a ha=>(hff a ha).1)
 have hw:bf (some i) (.ptr id xs.length q off) (some new) H=some H':=by
  simp only[bf,live,hH,List.length_map,↓reduceIte] at h1 ⊢;rw[if_pos ⟨by simp[hfl],hq',by simp[hfl],by rw[List.all_eq_true];exact fun a ha=>(hff a ha).2⟩] at h1;rw[if_pos ⟨hi,hq',cC,by rw[List.all_eq_true];exact hn⟩,<- h1]
  congr 2
  have hrow:(xs.map f).getD q []=f x:=by simp[hq,hlt,hgx]
  simp only[Ob.write,hrow,Ob.mk.injEq,true_and];rw[<- hy]
  congr 1
  simp[bQ,hfl]
 rw[hw];refine (gn (v:=ao.undef) (H':=H') (n':=n)).symm ▸ hc H' ?_ h3;rw[List.map_set];exact h2
end
end Go.Ab
namespace Go.Ab
variable [Inhabited cn]
section
variable {P:Program} {N:Nat} {Ty:Types} {O:Env} {H:au} {n:Nat}
variable {d:Option Tmp} {ty:TypeId} {pos:String} {af:Array Edge} {gu:Option (Nat × Bool)}
end
section
variable {P:Program} {f:FuncId} {N:Nat} {k:List Item} {Q:ao->au->Nat->Prop} {Ty:Types} {l:List Oper} {O:Env} {H:au} {n:Nat}
variable {d:Option Tmp} {ty:TypeId} {pos:String} {af:Array Edge}
end
section
variable {P:Program} {f:FuncId} {N:Nat} {k:List Item} {Q:ao->au->Nat->Prop} {Ty:Types} {L:List Oper} {O:Env} {H:au} {n:Nat}
variable {d:Option Tmp} {ty:TypeId} {pos:String} {af:Array Edge}
end
end Go.Ab
