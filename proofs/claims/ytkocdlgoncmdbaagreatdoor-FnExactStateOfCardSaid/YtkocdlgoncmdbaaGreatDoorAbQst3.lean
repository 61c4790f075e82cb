/- Merged texts (3 of 18) of the proof that ends in Sty: Sp Sq Sr Ss Sv Sw Sk. -/
import Derived.Test.YtkocdlgoncmdbaaGreatDoorAbQst2
set_option linter.unusedSectionVars false
set_option linter.unusedSimpArgs false
set_option linter.unusedVariables false
namespace Go.Ab
inductive Sh where
 | c
 | s (l:List Sh)
 | a (l:List Sh)
 | t (l:List Sh)
def bM (R:List au->List au->List Id->Prop):List (List au)->List (List au)->List Id->Prop
 | [],[],T=>T=[]
 | e::es,f::fs,T=>∃ T1 T2,R e f T1/\bM R es fs T2/\T=T1++T2/\∀ i ∈ T1,i ∉ T2
 | _,_,_=>False
mutual
def Tr (H:ax):Sh->au->au->List Id->Prop
 | .c,a,b,S=>a=b/\bY a/\S=[]
 | .s l,a,b,S=>(a = .v (.slice none 0 0)/\b = .list true []/\S=[])\/∃ id els es T,a = .arr id els.length 0 els.length/\b = .list true es/\H id=some ⟨l.length,els⟩/\bM (Row H l) els es T/\id ∉ T/\S=id::T
 | .a l,a,b,S=>∃ as1 bs,a = .agg as1/\b = .agg bs/\Row H l as1 bs S
 | .t l,a,b,S=>∃ as1 bs,a = .tup as1/\b = .tup bs/\Row H l as1 bs S
def Row (H:ax):List Sh->List au->List au->List Id->Prop
 | [],[],[],S=>S=[]
 | h::l,a::as1,b::bs,S=>∃ S1 S2,Tr H h a b S1/\Row H l as1 bs S2/\S=S1++S2/\∀ i ∈ S1,i ∉ S2
 | _,_,_,_=>False
end
section
variable {R R':List au->List au->List Id->Prop}
theorem bM.mono:∀ {as1 bs:List (List au)} {S:List Id},bM R as1 bs S->(∀ (e f:List au) (T:List Id),R e f T->(∀ i ∈ T,i ∈ S)->R' e f T)->bM R' as1 bs S
 | [],[],_,h,_=>h
 | _::_,_::_,_,⟨T1,T2,h1,h2,h3,h4⟩,hm=>⟨T1,T2,hm _ _ _ h1 (fun i hi=>by simp[h3,hi]),bM.mono h2 (fun e f T h hs=>hm e f T h fun i hi=>by simp[h3,hs i hi]),h3,h4⟩
 | [],_::_,_,h,_=>h.elim
 | _::_,[],_,h,_=>h.elim
theorem bM.len:∀ {as1 bs:List (List au)} {S:List Id},bM R as1 bs S->as1.length=bs.length
 | [],[],_,_=>rfl
 | _::_,_::_,_,⟨_,_,_,h2,_,_⟩=>by simp[h2.len]
 | [],_::_,_,h=>h.elim
 | _::_,[],_,h=>h.elim
theorem bM.append:∀ {as1 bs cs ds:List (List au)} {S T:List Id},bM R as1 bs S->bM R cs ds T->(∀ i ∈ S,i ∉ T)->bM R (as1++cs) (bs++ds) (S++T)
 | [],[],_,_,_,_,h,k,_=>by rw[show _=[] from h];exact k
 | _::_,_::_,_,_,_,T,⟨T1,T2,h1,h2,h3,h4⟩,k,hd=>by
  subst h3;refine⟨T1,T2++T,h1,bM.append h2 k (fun i hi=>hd i (by simp[hi])),by simp,fun i hi hm=>?_⟩;rcases List.mem_append.1 hm with hm | hm
  ·exact h4 i hi hm
  ·exact hd i (by simp[hi]) hm
 | [],_::_,_,_,_,_,h,_,_=>h.elim
 | _::_,[],_,_,_,_,h,_,_=>h.elim
theorem bM.at:∀ {as1 bs:List (List au)} {S:List Id} {k:Nat},bM R as1 bs S->k<as1.length->∃ (e f:List au) (T ah:List Id),as1[k]?=some e/\bs[k]?=some f/\R e f T/\(∀ i ∈ T,i ∈ S)/\(∀ i ∈ T,i ∉ ah)/\(∀ i ∈ ah,i ∈ S) /\
  ∀ (R'':List au->List au->List Id->Prop) e' f' T',R'' e' f' T'->(∀ (e f:List au) (T:List Id),R e f T->(∀ i ∈ T,i ∈ ah)->R'' e f T)->(∀ i ∈ T',i ∉ ah)->∃ S',bM R'' (as1.set k e') (bs.set k f') S'/\∀ i ∈ S',i ∈ T'\/i ∈ ah
 | e::as1,f::bs,_,0,⟨T1,T2,h1,h2,h3,h4⟩,_=>⟨e,f,T1,T2,rfl,rfl,h1,fun i hi=>by simp[h3,hi],h4,fun i hi=>by simp[h3,hi],fun R'' e' f' T' hr hm hd=>⟨T'++T2,⟨T',T2,hr,h2.mono hm,rfl,hd⟩,fun i hi=>by simpa using hi⟩⟩
 | e::as1,f::bs,_,k+1,⟨T1,T2,h1,h2,h3,h4⟩,hk=>by
  obtain⟨e1,f1,T,ah,p1,p2,p3,p4,p5,p6,p7⟩:=bM.at h2 (k:=k) (by simpa using hk);refine⟨e1,f1,T,T1++ah,by simpa using p1,by simpa using p2,p3,fun i hi=>by simp[h3,p4 i hi],fun i hi hm=>?_,fun i hi=>?_,fun R'' e' f' T' hr hm hd=>?_⟩
  ·rcases List.mem_append.1 hm with hm | hm
   ·exact h4 i hm (p4 i hi)
   ·exact p5 i hi hm
  ·rcases List.mem_append.1 hi with hi | hi
   ·simp[h3,hi]
   ·simp[h3,p6 i hi]
  ·obtain⟨S',q1,q2⟩:=p7 R'' e' f' T' hr (fun e f T h hs=>hm e f T h fun i hi=>by simp[hs i hi]) (fun i hi hm=>hd i hi (by simp[hm]));refine⟨T1++S',⟨T1,S',hm _ _ _ h1 (fun i hi=>by simp[hi]),q1,rfl,fun i hi hs=>?_⟩,fun i hi=>?_⟩
   ·rcases q2 i hs with h | h
    ·exact hd i h (by simp[hi])
    ·exact h4 i hi (p6 i h)
   ·rcases List.mem_append.1 hi with hi | hi
    ·exact .inr (by simp[hi])
    ·rcases q2 i hi with h | h
     ·exact .inl h
     ·exact .inr (by simp[h])
 | [],[],_,_,_,hk=>by simp at hk
 | [],_::_,_,_,h,_=>h.elim
 | _::_,[],_,_,h,_=>h.elim
theorem bM.map {f:au->au} {g:Id->Id} (hg:∀ i j,g i=g j->i=j):∀ {as1 bs:List (List au)} {S:List Id},bM R as1 bs S->(∀ (e d:List au) (T:List Id),R e d T->(∀ i ∈ T,i ∈ S)->R' (e.map f) d (T.map g))->bM R' (as1.map fun e=>e.map f) bs (S.map g)
 | [],[],_,h,_=>by rw[show _=[] from h];rfl
 | _::_,_::_,_,⟨T1,T2,h1,h2,h3,h4⟩,hm=>⟨T1.map g,T2.map g,hm _ _ _ h1 (fun i hi=>by simp[h3,hi]),bM.map hg h2 (fun e d T h hs=>hm e d T h fun i hi=>by simp[h3,hs i hi]),by simp[h3],fun i hi hm=>by
   obtain⟨j,hj,rfl⟩:=List.mem_map.1 hi;obtain⟨j2,hj2,he⟩:=List.mem_map.1 hm;rw[hg _ _ he] at hj2;exact h4 j hj hj2⟩
 | [],_::_,_,h,_=>h.elim
 | _::_,[],_,h,_=>h.elim
end
mutual
theorem Tr.frame {H H':ax}:∀ {h:Sh} {a b:au} {S:List Id},Tr H h a b S->(∀ i ∈ S,H' i=H i)->Tr H' h a b S
 | .c,_,_,_,h,_=>by simpa[Tr] using h
 | .s l,a,b,S,h,hf=>by
  simp only[Tr] at h ⊢;rcases h with h | ⟨id,els,es,T,h1,h2,h3,h4,h5,rfl⟩
  ·exact .inl h
  ·exact .inr ⟨id,els,es,T,h1,h2,by rw[hf id (by simp)];exact h3,h4.mono fun e f T' hr hs=>Row.frame hr fun i hi=>hf i (by simp[hs i hi]),h5,rfl⟩
 | .a l,a,b,S,h,hf=>by
  simp only[Tr] at h ⊢;obtain⟨as1,bs,h1,h2,h3⟩:=h;exact⟨as1,bs,h1,h2,Row.frame h3 hf⟩
 | .t l,a,b,S,h,hf=>by
  simp only[Tr] at h ⊢;obtain⟨as1,bs,h1,h2,h3⟩:=h;exact⟨as1,bs,h1,h2,Row.frame h3 hf⟩
theorem Row.frame {H H':ax}:∀ {l:List Sh} {as1 bs:List au} {S:List Id},Row H l as1 bs S->(∀ i ∈ S,H' i=H i)->Row H' l as1 bs S
 | [],[],[],_,h,_=>by simpa[Row] using h
 | _::_,_::_,_::_,_,h,hf=>by
  simp only[Row] at h ⊢;obtain⟨S1,S2,h1,h2,h3,h4⟩:=h;exact⟨S1,S2,h1.frame fun i hi=>hf i (by simp[h3,hi]),Row.frame h2 fun i hi=>hf i (by simp[h3,hi]),h3,h4⟩
 | [],[],_::_,_,h,_=>by simp[Row] at h
 | [],_::_,_,_,h,_=>by simp[Row] at h
 | _::_,[],_,_,h,_=>by simp[Row] at h
 | _::_,_::_,[],_,h,_=>by simp[Row] at h
end
mutual
theorem Tr.has {H:ax}:∀ {h:Sh} {a b:au} {S:List Id},Tr H h a b S->∀ i ∈ S,∃ o,H i=some o
 | .c,_,_,_,h,i,hi=>by simp only[Tr] at h;obtain⟨_,_,rfl⟩:=h;cases hi
 | .s l,a,b,S,h,i,hi=>by
  simp only[Tr] at h;rcases h with ⟨_,_,rfl⟩ | ⟨id,els,es,T,h1,h2,h3,h4,h5,rfl⟩
  ·cases hi
  ·rcases List.mem_cons.1 hi with rfl | hi
   ·exact⟨_,h3⟩
   ·exact vz (l:=l) (fun e f T hr=>Row.has hr) h4 i hi
 | .a l,a,b,S,h,i,hi=>by simp only[Tr] at h;obtain⟨as1,bs,_,_,h3⟩:=h;exact Row.has h3 i hi
 | .t l,a,b,S,h,i,hi=>by simp only[Tr] at h;obtain⟨as1,bs,_,_,h3⟩:=h;exact Row.has h3 i hi
theorem Row.has {H:ax}:∀ {l:List Sh} {as1 bs:List au} {S:List Id},Row H l as1 bs S->∀ i ∈ S,∃ o,H i=some o
 | [],[],[],_,h,i,hi=>by simp only[Row] at h;subst h;cases hi
 | _::_,_::_,_::_,_,h,i,hi=>by
  simp only[Row] at h;obtain⟨S1,S2,h1,h2,h3,_⟩:=h;subst h3;rcases List.mem_append.1 hi with hi | hi
  ·exact h1.has i hi
  ·exact Row.has h2 i hi
 | [],[],_::_,_,h,_,_=>by simp[Row] at h
 | [],_::_,_,_,h,_,_=>by simp[Row] at h
 | _::_,[],_,_,h,_,_=>by simp[Row] at h
 | _::_,_::_,[],_,h,_,_=>by simp[Row] at h
theorem vz {H:ax} {l:List Sh} (hr:∀ (e f:List au) (T:List Id),Row H l e f T->∀ i ∈ T,∃ o,H i=some o):∀ {as1 bs:List (List au)} {S:List Id},bM (Row H l) as1 bs S->∀ i ∈ S,∃ o,H i=some o
 | [],[],_,h,i,hi=>by rw[show _=[] from h] at hi;cases hi
 | _::_,_::_,_,⟨T1,T2,h1,h2,h3,_⟩,i,hi=>by
  subst h3;rcases List.mem_append.1 hi with hi | hi
  ·exact hr _ _ _ h1 i hi
  ·exact vz hr h2 i hi
 | [],_::_,_,h,_,_=>h.elim
 | _::_,[],_,h,_,_=>h.elim
end
mutual
def Sh.dep:Sh->Nat
 | .c=>0
 | .s l=>Sh.DH l+1
 | .a l=>Sh.DH l+1
 | .t l=>Sh.DH l+1
def Sh.DH:List Sh->Nat
 | []=>0
 | h::l=>max (Sh.dep h) (Sh.DH l)
end
theorem kq.up {H:ax}:∀ {d:Nat} {a b:au} {S:List Id},kq H d a b S->kq H (d+1) a b S
 | 0,_,_,_,h=>.inl h
 | d+1,a,b,S,h=>by
  rcases h with h | ⟨cs,ds,h1,h2,h3⟩ | ⟨cs,ds,h1,h2,h3⟩ | h | ⟨id,o,els,T,h1,h2,h3,h4,h5⟩
  ·exact .inl h
  ·exact .inr (.inl ⟨cs,ds,h1,h2,h3.mono fun _ _ _ _ h _=>kq.up h⟩)
  ·exact .inr (.inr (.inl ⟨cs,ds,h1,h2,h3.mono fun _ _ _ _ h _=>kq.up h⟩))
  ·exact .inr (.inr (.inr (.inl h)))
  ·exact .inr (.inr (.inr (.inr ⟨id,o,els,T,h1,h2,h3,h4.mono fun _ _ _ _ _ _ h _=>kq.up h,h5⟩)))
theorem kq.le {H:ax} {d e:Nat} {a b:au} {S:List Id} (hd:d<=e) (h:kq H d a b S):kq H e a b S:=by
 induction hd with
 | refl=>exact h
 | step _ ih=>exact ih.up
mutual
theorem Tr.own {H:ax}:∀ {h:Sh} {a b:au} {S:List Id},Tr H h a b S->kq H h.dep a b S
 | .c,_,_,_,h=>by
  simp only[Tr] at h;obtain⟨rfl,hF,rfl⟩:=h;exact⟨⟨rfl,hF⟩,rfl⟩
 | .s l,a,b,S,h=>by
  simp only[Tr] at h;rcases h with ⟨rfl,rfl,rfl⟩ | ⟨id,els,es,T,rfl,rfl,h3,h4,h5,rfl⟩
  ·exact .inr (.inr (.inr (.inl ⟨rfl,rfl,rfl⟩)))
  ·exact .inr (.inr (.inr (.inr ⟨id,_,es,T,rfl,rfl,h3,Eh (l:=l) (fun e f T h=>Row.own h) h4,h5,rfl⟩)))
 | .a l,a,b,S,h=>by
  simp only[Tr] at h;obtain⟨as1,bs,rfl,rfl,h3⟩:=h;exact .inr (.inl ⟨as1,bs,rfl,rfl,Row.own h3⟩)
 | .t l,a,b,S,h=>by
  simp only[Tr] at h;obtain⟨as1,bs,rfl,rfl,h3⟩:=h;exact .inr (.inr (.inl ⟨as1,bs,rfl,rfl,Row.own h3⟩))
theorem Row.own {H:ax}:∀ {l:List Sh} {as1 bs:List au} {S:List Id},Row H l as1 bs S->iB (kq H (Sh.DH l)) as1 bs S
 | [],[],[],_,h=>by simp only[Row] at h;exact h
 | h::l,_::_,_::_,_,hr=>by
  simp only[Row] at hr;obtain⟨S1,S2,h1,h2,h3,h4⟩:=hr;exact⟨S1,S2,h1.own.le (Nat.le_max_left _ _),(Row.own h2).mono fun _ _ _ _ h _=>h.le (Nat.le_max_right _ _),h3,h4⟩
 | [],[],_::_,_,h=>by simp[Row] at h
 | [],_::_,_,_,h=>by simp[Row] at h
 | _::_,[],_,_,h=>by simp[Row] at h
 | _::_,_::_,[],_,h=>by simp[Row] at h
theorem Eh {H:ax} {l:List Sh} {Q:au->au->List Id->Prop} (hr:∀ (e f:List au) (T:List Id),Row H l e f T->iB Q e f T):∀ {as1 bs:List (List au)} {S:List Id},bM (Row H l) as1 bs S->gl Q as1 bs S
 | [],[],_,h=>h
 | _::_,_::_,_,⟨T1,T2,h1,h2,h3,h4⟩=>⟨T1,T2,hr _ _ _ h1,Eh hr h2,h3,h4⟩
 | [],_::_,_,h=>h.elim
 | _::_,[],_,h=>h.elim
end
mutual
theorem Tr.sh {H H2:ax} {n:Nat}:∀ {h:Sh} {a b:au} {S:List Id},Tr H h a b S->(∀ i ∈ S,H2 (dR n i)=(H i).map (xT n))->Tr H2 h (jY n a) b (S.map (dR n))
 | .c,_,_,_,h,_=>by
  simp only[Tr] at h ⊢;obtain⟨rfl,hF,rfl⟩:=h;rw[hF.sh];exact⟨rfl,hF,rfl⟩
 | .s l,a,b,S,h,hf=>by
  simp only[Tr] at h ⊢;rcases h with ⟨rfl,rfl,rfl⟩ | ⟨id,els,es,T,rfl,rfl,h3,h4,h5,rfl⟩
  ·exact .inl ⟨Ft n _,rfl,rfl⟩
  ·refine .inr ⟨dR n id,els.map fun e=>e.map (jY n),es,T.map (dR n),by rw[AV,List.length_map],rfl,by rw[hf id (by simp),h3];rfl,?_,?_,rfl⟩
   ·exact h4.map (rm n) fun e d T' hr hs=>Row.sh hr fun i hi=>hf i (by simp[hs i hi])
   ·intro hm;obtain⟨j,hj,he⟩:=List.mem_map.1 hm;rw[rm n _ _ he] at hj;exact h5 hj
 | .a l,a,b,S,h,hf=>by
  simp only[Tr] at h ⊢;obtain⟨as1,bs,rfl,rfl,h3⟩:=h;exact⟨_,bs,tN n as1,rfl,Row.sh h3 hf⟩
 | .t l,a,b,S,h,hf=>by
  simp only[Tr] at h ⊢;obtain⟨as1,bs,rfl,rfl,h3⟩:=h;exact⟨_,bs,uv n as1,rfl,Row.sh h3 hf⟩
theorem Row.sh {H H2:ax} {n:Nat}:∀ {l:List Sh} {as1 bs:List au} {S:List Id},Row H l as1 bs S->(∀ i ∈ S,H2 (dR n i)=(H i).map (xT n))->Row H2 l (as1.map (jY n)) bs (S.map (dR n))
 | [],[],[],_,h,_=>by simp only[Row] at h ⊢;subst h;simp[Row]
 | h::l,_::_,_::_,_,hr,hf=>by
  simp only[Row] at hr;obtain⟨S1,S2,h1,h2,rfl,h4⟩:=hr;simp only[List.map_cons,Row];refine⟨S1.map (dR n),S2.map (dR n),h1.sh fun i hi=>hf i (by simp[hi]),Row.sh h2 fun i hi=>hf i (by simp[hi]),by simp,fun i hi hm=>?_⟩;obtain⟨j,hj,rfl⟩:=List.mem_map.1 hi;obtain⟨j2,hj2,he⟩:=List.mem_map.1 hm;rw[rm n _ _ he] at hj2;exact h4 j hj hj2
 | [],[],_::_,_,h,_=>by simp[Row] at h
 | [],_::_,_,_,h,_=>by simp[Row] at h
 | _::_,[],_,_,h,_=>by simp[Row] at h
 | _::_,_::_,[],_,h,_=>by simp[Row] at h
end
theorem Row.len {H:ax}:∀ {l:List Sh} {as1 bs:List au} {S:List Id},Row H l as1 bs S->as1.length=l.length/\bs.length=l.length
 | [],[],[],_,_=>⟨rfl,rfl⟩
 | _::_,_::_,_::_,_,h=>by
  simp only[Row] at h;obtain⟨_,_,_,h2,_,_⟩:=h;have:=Row.len h2;simp[this.1,this.2]
 | [],[],_::_,_,h=>by simp[Row] at h
 | [],_::_,_,_,h=>by simp[Row] at h
 | _::_,[],_,_,h=>by simp[Row] at h
 | _::_,_::_,[],_,h=>by simp[Row] at h
theorem Row.append {H:ax}:∀ {l m:List Sh} {as1 bs cs ds:List au} {S T:List Id},Row H l as1 bs S->Row H m cs ds T->(∀ i ∈ S,i ∉ T)->Row H (l++m) (as1++cs) (bs++ds) (S++T)
 | [],m,[],[],_,_,_,_,h,k,_=>by simp only[Row] at h;subst h;simpa using k
 | _::_,_,_::_,_::_,_,_,_,T,h,k,hd=>by
  simp only[Row] at h;obtain⟨S1,S2,h1,h2,rfl,h4⟩:=h;simp only[List.cons_append,Row];refine⟨S1,S2++T,h1,Row.append h2 k (fun i hi=>hd i (by simp[hi])),by simp,fun i hi hm=>?_⟩;rcases List.mem_append.1 hm with hm | hm
  ·exact h4 i hi hm
  ·exact hd i (by simp[hi]) hm
 | [],_,[],_::_,_,_,_,_,h,_,_=>by simp[Row] at h
 | [],_,_::_,_,_,_,_,_,h,_,_=>by simp[Row] at h
 | _::_,_,[],_,_,_,_,_,h,_,_=>by simp[Row] at h
 | _::_,_,_::_,[],_,_,_,_,h,_,_=>by simp[Row] at h
theorem Row.split {H:ax}:∀ {l m:List Sh} {as1 bs:List au} {S:List Id},Row H (l++m) as1 bs S->∃ a1 a2 b1 b2 S1 S2,as1=a1++a2/\bs=b1++b2/\Row H l a1 b1 S1/\Row H m a2 b2 S2/\S=S1++S2/\∀ i ∈ S1,i ∉ S2
 | [],m,as1,bs,S,h=>⟨[],as1,[],bs,[],S,rfl,rfl,by simp[Row],h,rfl,by simp⟩
 | x::l,m,a::as1,b::bs,S,h=>by
  simp only[List.cons_append,Row] at h;obtain⟨S1,S2,h1,h2,rfl,h4⟩:=h;obtain⟨a1,a2,b1,b2,T1,T2,rfl,rfl,p1,p2,rfl,p4⟩:=Row.split h2;refine⟨a::a1,a2,b::b1,b2,S1++T1,T2,rfl,rfl,?_,p2,by simp,fun i hi hm=>?_⟩
  ·simp only[Row];exact⟨S1,T1,h1,p1,rfl,fun i hi hm=>h4 i hi (by simp[hm])⟩
  ·rcases List.mem_append.1 hi with hi | hi
   ·exact h4 i hi (by simp[hm])
   ·exact p4 i hi hm
 | _::_,_,[],_,_,h=>by simp[Row] at h
 | _::_,_,_::_,[],_,h=>by simp[Row] at h
end Go.Ab
namespace Go.Ab
abbrev bX:=Sh × au × au
def Sep (H:ax) (n:Nat) (K:List bX) (ids:List Id):Prop:=
 (∀ i ∈ ids,i.1<n)/\∃ S,Row H (K.map (·.1)) (K.map (·.2.1)) (K.map (·.2.2)) S/\∀ i ∈ S,i.1<n/\i ∉ ids
section
variable {H H':ax} {n n':Nat} {K K1 K2:List bX} {ids dK:List Id}
theorem Sep.nil (h:∀ i ∈ ids,i.1<n):Sep H n [] ids:=⟨h,[],by simp[Row],by simp⟩
theorem Sep.split (h:Sep H n (K1++K2) ids):(∀ i ∈ ids,i.1<n)/\∃ S1 S2,Row H (K1.map (·.1)) (K1.map (·.2.1)) (K1.map (·.2.2)) S1/\Row H (K2.map (·.1)) (K2.map (·.2.1)) (K2.map (·.2.2)) S2/\(∀ i ∈ S1,i ∉ S2)/\(∀ i ∈ S1,i.1<n/\i ∉ ids)/\∀ i ∈ S2,i.1<n/\i ∉ ids:=by
 obtain⟨h0,S,h1,h2⟩:=h;simp only[List.map_append] at h1;obtain⟨a1,a2,b1,b2,S1,S2,e1,e2,p1,p2,rfl,p4⟩:=Row.split h1;have l1:=p1.len;have ha:K1.map (·.2.1)=a1/\K2.map (·.2.1)=a2:=List.append_inj e1 (by simpa using l1.1.symm);have hb:K1.map (·.2.2)=b1/\K2.map (·.2.2)=b2:=List.append_inj e2 (by simpa using l1.2.symm);rw[ha.1,ha.2,hb.1,hb.2];exact⟨h0,S1,S2,p1,p2,p4,fun i hi=>h2 i (by simp[hi]),fun i hi=>h2 i (by simp[hi])⟩
theorem Sep.join {S1 S2:List Id} (h0:∀ i ∈ ids,i.1<n) (p1:Row H (K1.map (·.1)) (K1.map (·.2.1)) (K1.map (·.2.2)) S1) (p2:Row H (K2.map (·.1)) (K2.map (·.2.1)) (K2.map (·.2.2)) S2) (hd:∀ i ∈ S1,i ∉ S2)
  (h1:∀ i ∈ S1,i.1<n/\i ∉ ids) (h2:∀ i ∈ S2,i.1<n/\i ∉ ids):Sep H n (K1++K2) ids:=
 ⟨h0,S1++S2,by simp only[List.map_append];exact p1.append p2 hd,fun i hi=>by
  rcases List.mem_append.1 hi with hi | hi
  ·exact h1 i hi
  ·exact h2 i hi⟩
theorem Sep.swap (h:Sep H n (K1++K2) ids):Sep H n (K2++K1) ids:=by
 obtain⟨h0,S1,S2,p1,p2,hd,q1,q2⟩:=h.split;exact Sep.join h0 p2 p1 (fun i hi hm=>hd i hm hi) q2 q1
theorem Sep.left (h:Sep H n (K1++K2) ids):Sep H n K1 ids:=by
 obtain⟨h0,S1,S2,p1,p2,hd,q1,q2⟩:=h.split;exact⟨h0,S1,p1,q1⟩
theorem Sep.right (h:Sep H n (K1++K2) ids):Sep H n K2 ids:=h.swap.left
theorem Sep.front {x:bX} (h:Sep H n (K1++x::K2) ids):Sep H n (x::(K1++K2)) ids:=by
 obtain⟨h0,S1,S2,p1,p2,hd,q1,q2⟩:=h.split;simp only[List.map_cons,Row] at p2;obtain⟨T1,T2,r1,r2,rfl,r4⟩:=p2;refine⟨h0,T1++(S1++T2),?_,fun i hi=>?_⟩
 ·simp only[List.map_cons,List.map_append,Row];refine⟨T1,S1++T2,r1,p1.append r2 (fun i hi hm=>hd i hi (by simp[hm])),rfl,fun i hi hm=>?_⟩;rcases List.mem_append.1 hm with hm | hm
  ·exact hd i hm (by simp[hi])
  ·exact r4 i hi hm
 ·simp only[List.mem_append] at hi;rcases hi with hi | hi | hi
  ·exact q2 i (by simp[hi])
  ·exact q1 i hi
  ·exact q2 i (by simp[hi])
theorem Sep.keep (h:Sep H n K ids) (hn:n<=n') (hH:∀ i:Id,i.1<n->i ∉ ids->H' i=H i) (hi:∀ i ∈ dK,(i ∈ ids\/n<=i.1)/\i.1<n'):Sep H' n' K dK:=by
 obtain⟨_,S,h1,h2⟩:=h;refine⟨fun i h=>(hi i h).2,S,h1.frame fun i hs=>hH i (h2 i hs).1 (h2 i hs).2,fun i hs=>⟨by have:=(h2 i hs).1;omega,fun hm=>?_⟩⟩;rcases (hi i hm).1 with h | h
 ·exact (h2 i hs).2 h
 ·have:=(h2 i hs).1;omega
theorem Sep.scalar {v:au} {x:Value} (h:Sep H n ((.c,v,.v x)::K) ids):v = .v x/\Sep H n K ids:=by
 obtain⟨h0,S,h1,h2⟩:=h;simp only[List.map_cons,Row,Tr] at h1;obtain⟨S1,S2,⟨e1,_,rfl⟩,p2,rfl,_⟩:=h1;exact⟨e1,h0,_,p2,fun i hi=>h2 i (by simpa using hi)⟩
theorem Sep.form {l:List Sh} {v e:au} (h:Sep H n ((.s l,v,e)::K) ids):aM v=true/\∃ es,e = .list true es/\((v = .v (.slice none 0 0)/\es=[])\/∃ id els,v = .arr id es.length 0 es.length/\els.length=es.length/\H id=some ⟨l.length,els⟩/\id.1<n/\id ∉ ids):=by
 obtain⟨h0,S,h1,h2⟩:=h;simp only[List.map_cons,Row,Tr] at h1;obtain⟨S1,S2,h3,_,rfl,_⟩:=h1;rcases h3 with ⟨rfl,rfl,rfl⟩ | ⟨id,els,es,T,rfl,rfl,p3,p4,p5,rfl⟩
 ·exact⟨rfl,[],rfl,.inl ⟨rfl,rfl⟩⟩
 ·have hl:=p4.len;exact⟨rfl,es,rfl,.inr ⟨id,els,by rw[hl],hl,p3,(h2 id (by simp)).1,(h2 id (by simp)).2⟩⟩
inductive bb:List Sh->List bX->List au->List au->Prop
 | nil:bb [] [] [] []
 | v {l:List Sh} {K:List bX} {as1 bs:List au} (x:Value) (h:bb l K as1 bs):bb (.c::l) K (.v x::as1) (.v x::bs)
 | i {l:List Sh} {K:List bX} {as1 bs:List au} {a:au} (hF:bY a) (h:bb l K as1 bs):bb (.c::l) K (a::as1) (a::bs)
 | own {l:List Sh} {K:List bX} {as1 bs:List au} {t:Sh} {a b:au} (h:bb l K as1 bs):bb (t::l) ((t,a,b)::K) (a::as1) (b::bs)
theorem bb.row {l:List Sh} {as1 bs:List au} (h:bb l K as1 bs):∀ {S:List Id},Row H (K.map (·.1)) (K.map (·.2.1)) (K.map (·.2.2)) S->Row H l as1 bs S:=by
 induction h with
 | nil=>intro S h;simpa using h
 | v x _ ih=>intro S h;simp only[Row,Tr];exact⟨[],S,⟨by trivial,.v x,rfl⟩,ih h,rfl,by simp⟩
 | i hF _ ih=>intro S h;simp only[Row,Tr];exact⟨[],S,⟨by trivial,hF,rfl⟩,ih h,rfl,by simp⟩
 | own _ ih=>
  intro S h;simp only[List.map_cons,Row] at h ⊢;obtain⟨S1,S2,h1,h2,h3,h4⟩:=h;exact⟨S1,S2,h1,ih h2,h3,h4⟩
theorem Row.fill {l:List Sh} {as1 bs:List au} {S:List Id} (h:Row H l as1 bs S) (hf:∀ t ∈ l,t = .c):as1=bs/\S=[]/\∀ a ∈ as1,bY a:=by
 induction l generalizing as1 bs S with
 | nil=>
  match as1,bs,h with
  | [],[],h=>simp only[Row] at h;exact⟨rfl,h,by simp⟩
  | [],_::_,h=>simp[Row] at h
  | _::_,_,h=>simp[Row] at h
 | cons t l ih=>
  match as1,bs,h with
  | a::as1,b::bs,h=>
   obtain rfl:=hf t (by simp);simp only[Row,Tr] at h;obtain⟨S1,S2,⟨rfl,hF,rfl⟩,h2,rfl,_⟩:=h;obtain⟨rfl,rfl,h3⟩:=ih h2 (fun t ht=>hf t (by simp[ht]));refine⟨rfl,rfl,fun a ha=>?_⟩;rcases List.mem_cons.1 ha with rfl | ha
   ·exact hF
   ·exact h3 a ha
  | [],_,h=>simp[Row] at h
  | _::_,[],h=>simp[Row] at h
theorem bM.fresh {l:List Sh} {es:List (List au)} (h:∀ e ∈ es,e.length=l.length/\∀ a ∈ e,bY a) (hf:∀ t ∈ l,t = .c):bM (Row H l) es es []:=by
 induction es with
 | nil=>rfl
 | cons e es ih=>
  refine⟨[],[],?_,ih fun f hf=>h f (by simp[hf]),rfl,by simp⟩;obtain⟨h1,h2⟩:=h e (by simp);clear ih h
  induction l generalizing e with
  | nil=>cases e with
   | nil=>simp[Row]
   | cons=>simp at h1
  | cons t l ih=>
   cases e with
   | nil=>simp at h1
   | cons a e=>
    obtain rfl:=hf t (by simp);have ha:=h2 a (by simp);simp only[Row,Tr];exact⟨[],[],⟨by trivial,ha,rfl⟩,ih (fun t ht=>hf t (by simp[ht])) e (by simpa using h1) (fun a ha=>h2 a (by simp[ha])),rfl,by simp⟩
theorem bM.DD {l:List Sh} {es:List (List au)} (h:∀ e ∈ es,e.length=l.length/\∀ a ∈ e,flat a=true) (hf:∀ t ∈ l,t = .c):bM (Row H l) es es []:=bM.fresh (fun e he=>⟨(h e he).1,fun a ha=>bY.flat ((h e he).2 a ha)⟩) hf
end
section
variable {H:ax} {n:Nat} {K K1 K2:List bX} {ids:List Id} {Ty:Types} {t:TypeId} {j:TI} {l:List Sh} {v:au} {es:List (List au)}
theorem Sep.append {d:Nat} {x:au} {add adds:List (List au)} (h:Sep H n ((.s l,v,.list true es)::(K1++K2)) ids) (hk:kd Ty t = .slice j) (hj:j.size=l.length) (hz:j.zero.length=j.size/\j.bytes<=131072)
  (hx:cA H x=some add) (ho:add.all (fun e=>e.all aM)=true) (hadd:∀ S,Row H (K1.map (·.1)) (K1.map (·.2.1)) (K1.map (·.2.2)) S->bM (Row H l) add adds S) (hne:adds ≠ []) (hlen:es.length+adds.length<=1073741824) :
  ∃ v' H' n',bo Ty (some d) t v x H n=some (v',H',n')/\Sep H' n' ((.s l,v',.list true (es++adds))::K2) ids/\(∀ i ∈ ids,H' i=H i)/\n<=n':=by
 obtain⟨h0,S,h1,h2⟩:=h;simp only[List.map_cons,Row] at h1;obtain⟨T1,T2,r1,r2,rfl,r4⟩:=h1;simp only[List.map_append] at r2;obtain⟨a1,a2,b1,b2,U1,U2,e1,e2,p1,p2,rfl,p4⟩:=Row.split r2;have l1:=p1.len;have ha:K1.map (·.2.1)=a1/\K2.map (·.2.1)=a2:=List.append_inj e1 (by simpa using l1.1.symm);have hb:K1.map (·.2.2)=b1/\K2.map (·.2.2)=b2:=List.append_inj e2 (by simpa using l1.2.symm);obtain⟨rfl,rfl⟩:=ha;obtain⟨rfl,rfl⟩:=hb;have hr:=hadd _ p1;have hal:=hr.len;have hsz:add.all (fun e=>e.length == j.size)=true:=by
  rw[List.all_eq_true];intro e he;have:∀ {as1 bs:List (List au)} {S:List Id},bM (Row H l) as1 bs S->∀ e ∈ as1,e.length=l.length:=by
   intro as1
   induction as1 with
   | nil=>intro _ _ _ e he;cases he
   | cons a as1 ih=>
    intro bs S hr e he
    match bs,hr with
    | b::bs,⟨_,_,q1,q2,_,_⟩=>
     rcases List.mem_cons.1 he with rfl | he
     ·exact q1.len.1
     ·exact ih q2 e he
    | [],hr=>exact hr.elim
  simp[this hr e he,hj]
 simp only[Tr] at r1;have hadd0:add.length ≠ 0:=by
  rw[hal];intro h;exact hne (List.eq_nil_of_length_eq_zero h)
 rcases r1 with ⟨rfl,he,rfl⟩ | ⟨id,els,es',T,rfl,he,q3,q4,q5,rfl⟩
 ·injection he with _ he
  subst he;refine⟨.arr (n,d) add.length 0 add.length,H.set (n,d) ⟨j.size,add⟩,n+1,?_,?_,fun i hi=>?_,by omega⟩
  ·simp only[bo,hk,hx];rw[if_pos ⟨hz.1,hz.2,hsz,ho⟩,if_neg hadd0,if_pos (by rw[hal];simpa using hlen)]
  ·have hnew:∀ i ∈ U1++U2,i ≠ (n,d):=fun i hi he=>by
    have:=(h2 i (by simpa using hi)).1;rw[he] at this;simp at this
   refine⟨fun i hi=>by have:=h0 i hi;omega,(n,d)::U1++U2,?_,fun i hi=>?_⟩
   ·simp only[List.map_cons,Row,Tr];refine⟨(n,d)::U1,U2,.inr ⟨(n,d),add,adds,U1,rfl,by simp,by simp[ax.aZ,hj],?_,fun hm=>hnew _ (by simp[hm]) rfl,rfl⟩,p2.frame fun i hi=>?_,rfl,fun i hi hm=>?_⟩
    ·exact hr.mono fun e f T' hr hs=>hr.frame fun i hi=>ax.aG _ _ (hnew i (by simp[hs i hi]))
    ·exact ax.aG _ _ (hnew i (by simp[hi]))
    ·rcases List.mem_cons.1 hi with rfl | hi
     ·exact hnew _ (by simp[hm]) rfl
     ·exact p4 i hi hm
   ·simp only[List.cons_append,List.mem_cons] at hi;rcases hi with rfl | hi
    ·exact⟨by simp,fun hm=>by have:=h0 _ hm;simp at this⟩
    ·have:=h2 i (by simpa using hi);exact⟨by omega,this.2⟩
  ·refine ax.aG _ _ fun he=>?_
   have:=h0 i hi;rw[he] at this;simp at this
 ·injection he with _ he
  subst he;have hel:=q4.len;refine⟨.arr id (els.length+add.length) 0 (els.length+add.length),H.set id ⟨j.size,els++add⟩,n,?_,?_,fun i hi=>?_,Nat.le_refl _⟩
  ·simp only[bo,hk,hx];rw[if_pos ⟨hz.1,hz.2,hsz,ho⟩];simp only[live,q3,↓reduceIte];rw[if_pos ⟨trivial,trivial,hj.symm,by rw[hel,hal];exact hlen⟩]
  ·have hnid:∀ i ∈ U1++U2,i ≠ id:=fun i hi he=>by
    subst he;exact r4 i (by simp) (by simpa using hi)
   have hnT:∀ i ∈ T,i ≠ id:=fun i hi he=>by subst he;exact q5 hi
   refine⟨h0,(id::(T++U1))++U2,?_,fun i hi=>h2 i ?_⟩
   ·simp only[List.map_cons,Row,Tr];refine⟨id::(T++U1),U2,.inr ⟨id,els++add,es++adds,T++U1,by simp,rfl,by simp[ax.aZ,hj],?_,fun hm=>?_,rfl⟩,p2.frame fun i hi=>?_,rfl,fun i hi hm=>?_⟩
    ·refine bM.append (q4.mono fun e f T' hr hs=>hr.frame fun i hi=>ax.aG _ _ (hnT i (hs i hi))) (hr.mono fun e f T' hr hs=>hr.frame fun i hi=>ax.aG _ _ (hnid i (by simp[hs i hi]))) (fun i hi hm=>r4 i (by simp[hi]) (by simp[hm]))
    ·rcases List.mem_append.1 hm with hm | hm
     ·exact q5 hm
     ·exact hnid id (by simp[hm]) rfl
    ·exact ax.aG _ _ (hnid i (by simp[hi]))
    ·rcases List.mem_cons.1 hi with rfl | hi
     ·exact hnid i (by simp[hm]) rfl
     ·rcases List.mem_append.1 hi with hi | hi
      ·exact r4 i (by simp[hi]) (by simp[hm])
      ·exact p4 i hi hm
   ·simp only[List.cons_append,List.mem_cons,List.mem_append] at hi ⊢;rcases hi with h | (h | h) | h<;>simp[h]
  ·refine ax.aG _ _ fun he=>?_
   subst he;exact (h2 i (by simp)).2 hi
theorem Sep.store {id:Id} {g:Nat} {k:Nat} {i:TI} {new news:List au} (h:Sep H n ((.s l,.arr id g 0 g,.list true es)::(K1++K2)) ids) (hi:i.size=l.length) (hk:k<es.length) (hg:g=es.length) (hone:new.all aM=true)
  (hf:bb l K1 new news):∃ H',cq (some i) (.ptr id g k 0) (some new) H=some H'/\Sep H' n ((.s l,.arr id g 0 g,.list true (es.set k news))::K2) ids/\∀ i ∈ ids,H' i=H i:=by
 obtain⟨h0,S,h1,h2⟩:=h;simp only[List.map_cons,Row] at h1;obtain⟨T1,T2,r1,r2,rfl,r4⟩:=h1;simp only[List.map_append] at r2;obtain⟨a1,a2,b1,b2,U1,U2,e1,e2,p1,p2,rfl,p4⟩:=Row.split r2;have l1:=p1.len;have ha:K1.map (·.2.1)=a1/\K2.map (·.2.1)=a2:=List.append_inj e1 (by simpa using l1.1.symm);have hb:K1.map (·.2.2)=b1/\K2.map (·.2.2)=b2:=List.append_inj e2 (by simpa using l1.2.symm);obtain⟨rfl,rfl⟩:=ha;obtain⟨rfl,rfl⟩:=hb;have hrow:=hf.row p1;have hnl:new.length=l.length:=hrow.len.1;simp only[Tr] at r1;rcases r1 with ⟨e,_⟩ | ⟨id',els,es',T,e,he,q3,q4,q5,rfl⟩
 ·cases e
 ·injection e with e1 e2 e3 e4
  subst e1
  injection he with _ he
  subst he;have hel:=q4.len;have hkel:k<els.length:=by omega
  obtain⟨e0,f0,Tk,Uk,s1,s2,s3,s4,s5,s6,s7⟩:=q4.at hkel;have he0:els[k]=e0:=by
   rw[List.getElem?_eq_getElem hkel] at s1;exact Option.some.inj s1
  have hnid:∀ i ∈ U1++U2,i ≠ id:=fun i hi he=>by
   subst he;exact r4 i (by simp) (by simpa using hi)
  have hnT:∀ i ∈ T,i ≠ id:=fun i hi he=>by subst he;exact q5 hi
  let H':=H.set id (Ob.write ⟨l.length,els⟩ k 0 new)
  have hw:(Ob.write ⟨l.length,els⟩ k 0 new)=⟨l.length,els.set k new⟩:=by
   have hlen0:e0.length=l.length:=s3.len.1;have h3:els[k]?=some e0:=s1;simp only[Ob.write,Ob.mk.injEq,true_and];simp[h3,hkel,he0,fa,hnl,hlen0,List.drop_eq_nil_of_le (Nat.le_of_eq hlen0)]
  refine⟨H',?_,?_,fun i hi=>?_⟩
  ·simp only[cq,live,q3];rw[if_pos (by omega)];simp only;rw[if_pos ⟨by omega,by omega,by omega,hone⟩]
  ·obtain⟨S',w1,w2⟩:=s7 (Row H' l) new news U1 (hrow.frame fun i hi=>ax.aG _ _ (hnid i (by simp[hi]))) (fun e f T' hr hs=>hr.frame fun i hi=>ax.aG _ _ (hnT i (s6 i (hs i hi)))) (fun i hi hm=>r4 i (by simp[s6 i hm]) (by simp[hi]));have hS':∀ i ∈ S',i ∈ U1\/i ∈ T:=fun i hi=>(w2 i hi).imp_right (s6 i)
   refine⟨h0,(id::S')++U2,?_,fun i hi=>?_⟩
   ·simp only[List.map_cons,Row,Tr];refine⟨id::S',U2,.inr ⟨id,els.set k new,es.set k news,S',by simp;omega,rfl,?_,w1,fun hm=>?_,rfl⟩,p2.frame fun i hi=>?_,rfl,fun i hi hm=>?_⟩
    ·show H.set id _ id=_;rw[ax.bl,hw]
    ·rcases hS' id hm with h | h
     ·exact hnid id (by simp[h]) rfl
     ·exact hnT id h rfl
    ·exact ax.aG _ _ (hnid i (by simp[hi]))
    ·rcases List.mem_cons.1 hi with rfl | hi
     ·exact hnid i (by simp[hm]) rfl
     ·rcases hS' i hi with h | h
      ·exact p4 i h hm
      ·exact r4 i (by simp[h]) (by simp[hm])
   ·simp only[List.cons_append,List.mem_cons,List.mem_append] at hi;rcases hi with rfl | hi | hi
    ·exact h2 i (by simp)
    ·rcases hS' i hi with h | h
     ·exact h2 i (by simp[h])
     ·exact h2 i (by simp[h])
    ·exact h2 i (by simp[hi])
  ·refine ax.aG _ _ fun he=>?_
   subst he;exact (h2 i (by simp)).2 hi
end
end Go.Ab
namespace Go.Ab
def bG (P:Program) (f:FuncId) (args:List au) (h:Sh) (R:au->Prop):Prop:=bE P f args bw 0 fun v H n=>∃ r,Sep H n [(h,v,r)] []/\R r
theorem bG.mono {P:Program} {f:FuncId} {args:List au} {h:Sh} {R R':au->Prop} (hc:bG P f args h R) (hr:∀ r,R r->R' r):bG P f args h R':=by
 unfold bG at *;exact bE.mono hc fun _ _ _ ⟨r,h1,h2⟩=>⟨r,h1,hr r h2⟩
section
variable {H:ax} {n:Nat} {K:List bX} {ids:List Id} {h:Sh} {v r:au}
theorem Sep.tr (hs:Sep H n ((h,v,r)::K) ids):∃ S,Tr H h v r S:=by
 obtain⟨_,S,h1,_⟩:=hs;simp only[List.map_cons,Row] at h1;obtain⟨S1,_,h1,_⟩:=h1;exact⟨S1,h1⟩
theorem Sep.argOk (hs:Sep H n ((h,v,r)::K) ids):aJ H n v (old r):=by
 obtain⟨S,h1⟩:=hs.tr;exact aJ.own h1.own
theorem Sep.dt {b:au} (hs:Sep H n ((h,v,r)::K) ids) (e:old r=b):aJ H n v b:=e ▸ hs.argOk
theorem Sep.ret (hs:Sep H n ((h,v,r)::K) ids):jk H v r:=by
 obtain⟨S,h1⟩:=hs.tr;exact h1.own.ret
theorem Sep.pack {l:List Sh} {K1:List bX} {as1 bs:List au} (hf:bb l K1 as1 bs) (hs:Sep H n (K1++K) ids):Sep H n ((.a l,.agg as1,.agg bs)::K) ids:=by
 obtain⟨h0,S1,S2,p1,p2,hd,q1,q2⟩:=hs.split;refine⟨h0,S1++S2,?_,fun i hi=>?_⟩
 ·simp only[List.map_cons,Row,Tr];exact⟨S1,S2,⟨as1,bs,rfl,rfl,hf.row p1⟩,p2,rfl,hd⟩
 ·rcases List.mem_append.1 hi with hi | hi
  ·exact q1 i hi
  ·exact q2 i hi
theorem Sep.te {l:List Sh} {K1:List bX} {as1 bs:List au} (hf:bb l K1 as1 bs) (hs:Sep H n (K1++K) ids):Sep H n ((.t l,.tup as1,.tup bs)::K) ids:=by
 obtain⟨h0,S1,S2,p1,p2,hd,q1,q2⟩:=hs.split;refine⟨h0,S1++S2,?_,fun i hi=>?_⟩
 ·simp only[List.map_cons,Row,Tr];exact⟨S1,S2,⟨as1,bs,rfl,rfl,hf.row p1⟩,p2,rfl,hd⟩
 ·rcases List.mem_append.1 hi with hi | hi
  ·exact q1 i hi
  ·exact q2 i hi
def gp:List Sh->List au->List au->List bX
 | h::l,a::as1,b::bs=>(h,a,b)::gp l as1 bs
 | _,_,_=>[]
theorem kY:∀ {l:List Sh} {as1 bs:List au},as1.length=l.length->bs.length=l.length->(gp l as1 bs).map (·.1)=l/\(gp l as1 bs).map (·.2.1)=as1/\(gp l as1 bs).map (·.2.2)=bs
 | [],[],[],_,_=>⟨rfl,rfl,rfl⟩
 | h::l,a::as1,b::bs,h1,h2=>by
  obtain⟨p,q,r⟩:=kY (l:=l) (as1:=as1) (bs:=bs) (by simpa using h1) (by simpa using h2);simp[gp,p,q,r]
 | [],[],_::_,_,h=>by simp at h
 | [],_::_,_,h,_=>by simp at h
 | _::_,[],_,h,_=>by simp at h
 | _::_,_::_,[],_,h=>by simp at h
theorem Sep.Hm {l:List Sh} {bs:List au} {S1 S2:List Id} {as1:List au} (h0:∀ i ∈ ids,i.1<n) (p1:Row H l as1 bs S1) (p2:Row H (K.map (·.1)) (K.map (·.2.1)) (K.map (·.2.2)) S2) (hd:∀ i ∈ S1,i ∉ S2) (hS:∀ i ∈ S1++S2,i.1<n/\i ∉ ids) :
  Sep H n (gp l as1 bs++K) ids:=by
 obtain⟨e1,e2⟩:=p1.len;obtain⟨z1,z2,z3⟩:=kY e1 e2;refine Sep.join h0 (S1:=S1) (S2:=S2) ?_ p2 hd (fun i hi=>hS i (by simp[hi])) (fun i hi=>hS i (by simp[hi]));rw[z1,z2,z3];exact p1
theorem Sep.unpack {l:List Sh} {bs:List au} (hs:Sep H n ((.a l,v,.agg bs)::K) ids):∃ as1,v = .agg as1/\as1.length=l.length/\Sep H n (gp l as1 bs++K) ids:=by
 obtain⟨h0,S,h1,h2⟩:=hs;simp only[List.map_cons,Row,Tr] at h1;obtain⟨S1,S2,⟨as1,bs',rfl,hb,p1⟩,p2,rfl,p4⟩:=h1;cases hb;exact⟨as1,rfl,p1.len.1,Sep.Hm h0 p1 p2 p4 h2⟩
theorem Sep.fF {l:List Sh} {bs:List au} (hs:Sep H n ((.t l,v,.tup bs)::K) ids):∃ as1,v = .tup as1/\as1.length=l.length/\Sep H n (gp l as1 bs++K) ids:=by
 obtain⟨h0,S,h1,h2⟩:=hs;simp only[List.map_cons,Row,Tr] at h1;obtain⟨S1,S2,⟨as1,bs',rfl,hb,p1⟩,p2,rfl,p4⟩:=h1;cases hb;exact⟨as1,rfl,p1.len.1,Sep.Hm h0 p1 p2 p4 h2⟩
theorem Sep.ofArr {l:List Sh} {id:Id} {g:Nat} {els:List (List au)} (h0:∀ i ∈ ids,i.1<n) (hid:H id=some ⟨l.length,els⟩) (hg:els.length=g) (hn:id.1<n) (hi:id ∉ ids) (hl:∀ e ∈ els,e.length=l.length/\∀ a ∈ e,flat a=true) (hf:∀ t ∈ l,t = .c) :
  Sep H n [(.s l,.arr id g 0 g,.list true els)] ids:=by
 subst hg;refine⟨h0,[id],?_,fun i hi'=>by simp at hi';subst hi';exact⟨hn,hi⟩⟩;simp only[List.map_cons,List.map_nil,Row,Tr];exact⟨[id],[],.inr ⟨id,els,els,[],rfl,rfl,hid,bM.DD hl hf,by simp,rfl⟩,rfl,rfl,by simp⟩
theorem Sep.ju {l:List Sh} (hs:Sep H n K ids):Sep H n ((.s l,.v (.slice none 0 0),.list true [])::K) ids:=by
 obtain⟨h0,S,h1,h2⟩:=hs;exact⟨h0,S,by simp only[List.map_cons,Row,Tr];exact⟨[],S,.inl ⟨trivial,trivial,rfl⟩,h1,rfl,by simp⟩,h2⟩
theorem Sep.rK {l:List Sh} {d:Nat} {els es:List (List au)} (hs:Sep H n K ids) (hl:bM (Row (H.set (n,d) ⟨l.length,els⟩) l) els es []):Sep (H.set (n,d) ⟨l.length,els⟩) (n+1) ((.s l,.arr (n,d) els.length 0 els.length,.list true es)::K) ids:=by
 obtain⟨h0,S,h1,h2⟩:=hs;have hne:∀ i ∈ S,i ≠ (n,d):=fun i hi he=>by have:=(h2 i hi).1;rw[he] at this;simp at this
 refine⟨fun i hi=>by have:=h0 i hi;omega,(n,d)::S,?_,fun i hi=>?_⟩
 ·simp only[List.map_cons,Row,Tr];refine⟨[(n,d)],S,.inr ⟨(n,d),els,es,[],rfl,rfl,by simp[ax.aZ],hl,by simp,rfl⟩,h1.frame fun i hi=>ax.aG _ _ (hne i hi),rfl,fun i hi hm=>?_⟩;simp at hi;exact hne i hm hi
 ·rcases List.mem_cons.1 hi with rfl | hi
  ·exact⟨by simp,fun hm=>by have:=h0 _ hm;simp at this⟩
  ·have:=h2 i hi;exact⟨by omega,this.2⟩
end
theorem bG.pure {P:Program} {f:FuncId} {args:List au} {h:Sh} {R:au->Prop} (hc:bG P f args h R):aC P f args R:=by
 unfold bG at hc;exact bE.mono hc fun _ _ _ ⟨r,h1,hR⟩=>⟨r,.of h1.ret,hR⟩
theorem aN.lK {P:Program} {N:Nat} {d:Option Tmp} {g:Operand} {args:Array Operand} {ats:Array TypeId} {ty:TypeId} {pos:String} {af:Array Edge} {gu:Option (Nat × Bool)} {O:Env} {H:ax} {n:Nat} {R:au->Prop} {K:List bX} {ids:List Id}
  {f:FuncId} {cz:List au} {sh:Sh} (hg:O.ev g = .fn (.func f) [] []) (c9:a8 P f) (ha:bS H n (args.toList.map O.ev) cz) (h:bG P f cz sh R) (hs:Sep H n K ids) :
  aN P N ⟨d,.call ⟨.value g,args,ats⟩,ty,pos,af,gu⟩ O H n fun v1 H1 U=>∃ r,Sep H1 U ((sh,v1,r)::K) ids/\R r/\n<=U/\∀ i ∈ ids,H1 i=H i:=by
 classical
 refine aN.call hg c9 ?_;intro c xs hH hn gd hl;simp only[List.nil_append,List.append_nil] at hl;have hb:Good ⟨c.w.heap.size,fun _=>0,bw,0,c.w⟩:=ll c.w;obtain⟨hlen,hget⟩:=ha.get;have hrep:dD ⟨c.w.heap.size,fun _=>0,bw,0,c.w⟩ cz xs:=by
  refine⟨by rw[<- hlen];exact hl.1,fun i b x hb' hx=>?_⟩;have hi:=(List.getElem?_eq_some_iff.1 hb').1;have ha':(args.toList.map O.ev)[i]?=some ((args.toList.map O.ev)[i]'(by omega)):=List.getElem?_eq_getElem (by omega);exact hget i _ b ha' hb' c x hH hn gd (hl.2 i _ x ha' hx) _ rfl (fun _=>rfl)
 refine (h _ xs rfl rfl hb hrep).mono ?_;rintro e w' ⟨x,v,c1,he,hw,⟨r,hsep,hR⟩,hrv,hg1,hk⟩;subst hw;obtain⟨_,S,h1,h2⟩:=hsep;simp only[List.map_cons,List.map_nil,Row] at h1;obtain⟨S1,S2,hT,hS2,rfl,_⟩:=h1;subst hS2;simp only[List.append_nil] at h2;have hO:=hT.own;have hKS:∀ i:Id,(fun i:Id=>decide (i ∈ S1)) i=true↔i ∈ S1:=fun i=>by simp
 have hcl:Ey c1.H fun i=>decide (i ∈ S1):=fun id o ho hK e he a ha=>(hO.cells id o ho ((hKS id).1 hK) e he a ha).mono fun i hi=>(hKS i).2 hi
 obtain⟨c2,e1,e2,e3,g2,k2,r2⟩:=Cb gd hg1 hk hcl;subst hH hn;have hT2:Tr c2.H sh (jY c.n v) r (S1.map (dR c.n)):=hT.sh fun i hi=>by rw[e1,wQ ((hKS i).2 hi)]
 have hlow:∀ i:Id,i.1<c.n->c2.H i=c.H i:=fun i hi=>by rw[e1,merge_lt hi]
 obtain⟨h0,S,p1,p2⟩:=hs;have hst:∀ i ∈ S1.map (dR c.n),c.n<=i.1/\i.1<c2.n:=fun i hi=>by
  obtain⟨o,ho⟩:=hT2.has i hi;refine⟨?_,g2.stamp i o ho⟩;obtain⟨j,_,rfl⟩:=List.mem_map.1 hi;simp[dR]
 have hn2:c.n<=c2.n:=by rw[e2];omega
 refine⟨x,jY c.n v,c2,he,e3,⟨r,⟨fun i hi=>by have:=h0 i hi;omega,S1.map (dR c.n)++S,?_,fun i hi=>?_⟩,hR,hn2,fun i hi=>hlow i (h0 i hi)⟩,r2 v x hrv (hO.mv.mono fun i hi=>(hKS i).2 hi),g2,k2⟩
 ·simp only[List.map_cons,Row];refine⟨_,S,hT2,p1.frame fun i hi=>hlow i (p2 i hi).1,rfl,fun i hi hm=>?_⟩;have:=(hst i hi).1;have:=(p2 i hm).1;omega
 ·rcases List.mem_append.1 hi with hi | hi
  ·have:=hst i hi;exact⟨this.2,fun hm=>by have:=h0 i hm;omega⟩
  ·have:=p2 i hi;exact⟨by omega,this.2⟩
def PostS (h:Sh) (R:au->Prop) (Q:au->ax->Nat->Prop):Prop:=∀ v H n r,Sep H n [(h,v,r)] []->R r->Q v H n
theorem bG.of {P:Program} {f:FuncId} {fn:Func} {body:Code} {args:List au} {R:au->Prop} {N:Nat} {h:Sh} (hfn:P.funcs[f]?=some fn) (hb:fn.body=some body) (hn:fn.ntmps=N) (hN:args.length<=N)
  (hq:∀ Q,PostS h R Q->J P f N [.code body] (jv args) bw 0 Q):bG P f args h R:=by
 subst hn;exact bE.nm hfn hb hN (hq (fun v H n=>∃ r,Sep H n [(h,v,r)] []/\R r) fun v H n r h1 h2=>⟨r,h1,h2⟩)
section
variable {P:Program} {f:FuncId} {N:Nat} {k:List Item} {Q:au->ax->Nat->Prop} {Ty:Types} {l:List Oper} {O:Env} {H:ax} {n:Nat} {K:List bX} {ids:List Id}
theorem bz.lK (hT:aW P Ty) {d:Option Tmp} {g:Operand} {args:Array Operand} {ats:Array TypeId} {ty:TypeId} {pos:String} {af:Array Edge} {R:au->Prop} {f':FuncId} {as1 cz:List au} {ops:List Oper} {sh:Sh}
  (h:bG P f' cz sh R) (c9:a8 P f') (ha:bS H n as1 cz) (hs:Sep H n K ids)
  (hN:ops.all (fun o=>dC N o.dst)=true) (hl:(⟨d,.call ⟨.value g,args,ats⟩,ty,pos,af,none⟩::l:List Oper).all (fun o=>dC N o.dst)=true) (hg:O.ev g = .fn (.func f') [] []) (has:args.toList.map O.ev=as1)
  (hk:∀ v H1 U r,Sep H1 U ((sh,v,r)::K) ids->R r->n<=U->(∀ i ∈ ids,H1 i=H i)->cd P f N k Q Ty ops.toArray l (O.put d v) H1 U) :
  bz P f N k Q ops.toArray (⟨d,.call ⟨.value g,args,ats⟩,ty,pos,af,none⟩::l) O H n:=
 bz.op hT hN hl rfl (aN.lK hg c9 (has ▸ ha) h hs) fun v H' n' ⟨r,h1,h2,h3,h4⟩=>hk v H' n' r h1 h2 h3 h4
end
end Go.Ab
namespace Go.Ab
section
variable {H H':ax} {n n':Nat} {K K1 K2:List bX} {ids dK:List Id}
theorem Sep.ET (h:Sep H n K ids) (hn:n<=n') (hH:∀ i:Id,i.1<n->i ∉ ids->H' i=H i) (hi:∀ i ∈ dK,i ∈ ids\/(n<=i.1/\i.1<n')):Sep H' n' K dK:=
 h.keep hn hH fun i hi'=>(hi i hi').elim (fun h2=>⟨.inl h2,by have:=h.1 i h2;omega⟩) fun h2=>⟨.inr h2.1,h2.2⟩
theorem wF {w:Id} {o:Ob} (h:∀ i:Id,i.1<n->i ∉ ids->H' i=H i) (hw:w ∈ ids\/n<=w.1):∀ i:Id,i.1<n->i ∉ ids->(H'.set w o) i=H i:=fun i h1 h2=>by
 rw[ax.aG _ _ (by rintro rfl;rcases hw with hw | hw;exact h2 hw;omega)];exact h i h1 h2
theorem Sep.var {d:Nat} {o:Ob} (h:Sep H n K ids):Sep (H.set (n,d) o) (n+1) K ((n,d)::ids):=
 h.ET (Nat.le_succ n) (wF (fun _ _ _=>rfl) (.inr (Nat.le_refl _))) fun i hi=>by
  rcases List.mem_cons.1 hi with rfl | hi
  ·exact .inr ⟨Nat.le_refl _,Nat.lt_succ_self _⟩
  ·exact .inl hi
theorem Sep.bH {w:Id} {o:Ob} (h:Sep H n K ids) (hw:w ∈ ids):Sep (H.set w o) n K ids:=
 h.ET (Nat.le_refl n) (wF (fun _ _ _=>rfl) (.inl hw)) fun _ hi=>.inl hi
theorem Sep.sub (h:Sep H n K ids) (hi:∀ i ∈ dK,i ∈ ids):Sep H n K dK:=h.ET (Nat.le_refl n) (fun _ _ _=>rfl) fun i h=>.inl (hi i h)
theorem Sep.addEmpty {l:List Sh} {d:Nat} (hs:Sep H n K ids):Sep (H.set (n,d) ⟨l.length,[]⟩) (n+1) ((.s l,.arr (n,d) 0 0 0,.list true [])::K) ids:=Sep.rK (els:=[]) (es:=[]) hs rfl
theorem xy {l:List Sh} {z z':List au} (h:Row H l z z' []):∀ k,bM (Row H l) (List.replicate k z) (List.replicate k z') []
 | 0=>rfl
 | k+1=>⟨[],[],h,xy h k,rfl,by simp⟩
theorem Sep.addRep {α:Type} [Inhabited α] {f:α->List au} {l:List Sh} {d k:Nat} {z:List au} (hs:Sep H n K ids) (hz:∀ H:ax,Row H l z (f default) []) :
  Sep (H.set (n,d) ⟨l.length,List.replicate k z⟩) (n+1) ((.s l,.arr (n,d) k 0 k,.list true ((List.replicate k (default:α)).map f))::K) ids:=by
 have h:=Sep.rK (d:=d) (els:=List.replicate k z) (es:=List.replicate k (f default)) hs (xy (hz _) k);rw[List.map_replicate];simpa using h
theorem Sep.oo {x:bX} (h:Sep H n (x::K) ids):Sep H n (K++[x]) ids:=Sep.swap (K1:=[x]) h
theorem Sep.eA {l:List Sh} {v:au} {i:Int} {α:Type} {f:α->List au} {xs:List α} (h:Sep H n ((.s l,v,.list true (xs.map f))::K) ids) (hf:∀ t ∈ l,t = .c) (hb:0<=i/\i<xs.length) :
  ∃ id,v = .arr id xs.length 0 xs.length/\H id=some ⟨l.length,xs.map f⟩/\id.1<n/\id ∉ ids:=by
 obtain⟨h0,S,h1,h2⟩:=h;simp only[List.map_cons,Row,Tr] at h1;obtain⟨S1,S2,h3,_,rfl,_⟩:=h1;rcases h3 with ⟨_,e,_⟩ | ⟨id,els,es',T,rfl,he,q3,q4,q5,rfl⟩
 ·injection e with _ e
  have:xs=[]:=by simpa using e
  subst this;simp at hb;omega
 ·injection he with _ he
  subst he;have hel:els=xs.map f:=by
   have:∀ {as1 bs:List (List au)} {S:List Id},bM (Row H l) as1 bs S->as1=bs:=by
    intro as1
    induction as1 with
    | nil=>intro bs S hr;match bs,hr with
     | [],_=>rfl
     | _::_,hr=>exact hr.elim
    | cons a as1 ih=>
     intro bs S hr
     match bs,hr with
     | b::bs,⟨_,_,q1,q2,_,_⟩=>rw[(q1.fill hf).1,ih q2]
     | [],hr=>exact hr.elim
   exact this q4
  subst hel;exact⟨id,by simp,q3,(h2 id (by simp)).1,(h2 id (by simp)).2⟩
theorem Sep.len {Ty:Types} {t:TypeId} {j:TI} {l:List Sh} {v:au} {es:List (List au)} {m:Int} (h:Sep H n ((.s l,v,.list true es)::K) ids) (hk:kd Ty t = .slice j) (hm:m=(es.length:Int)):aL Ty H t v=some (int m):=by
 obtain⟨_,es',he,hv⟩:=h.form
 injection he with _ he
 subst he hm;rcases hv with ⟨rfl,rfl⟩ | ⟨id,els,rfl,hl,hH,_⟩
 ·simp[aL,hk]
 ·simp[aL,hk,live,hH,hl]
theorem Sep.cells {l:List Sh} {v e:au} (h:Sep H n ((.s l,v,e)::K) ids):aE v=some [v]:=by
 obtain⟨_,es,_,hv⟩:=h.form;rcases hv with ⟨rfl,_⟩ | ⟨id,els,rfl,_⟩<;>rfl
theorem Sep.aM {l:List Sh} {v e:au} (h:Sep H n ((.s l,v,e)::K) ids):Ab.aM v=true:=h.form.1
end
section
variable {P:Program} {f f':FuncId} {N:Nat} {k:List Item} {Q:au->ax->Nat->Prop} {Ty:Types} {ops:Array Oper} {L:List Oper} {O:Env} {H:ax} {n:Nat} {K1 K2:List bX} {ids:List Id} {t:TypeId} {j:TI} {l:List Sh} {v:au} {es:List (List au)} {o:Oper}
theorem cQ {d:Nat} {x:au} (K1 K2:List bX) (add adds:List (List au)) (h:Sep H n ((.s l,v,.list true es)::(K1++K2)) ids) (hk:kd Ty t = .slice j) (hj:j.size=l.length) (hz:j.zero.length=j.size/\j.bytes<=131072)
  (hx:cA H x=some add) (ho:add.all (fun e=>e.all Ab.aM)=true) (hadd:∀ S,Row H (K1.map (·.1)) (K1.map (·.2.1)) (K1.map (·.2.2)) S->bM (Row H l) add adds S) (hne:adds ≠ []) (hlen:es.length+adds.length<=1073741824)
  (hc:∀ v' H' n',Sep H' n' ((.s l,v',.list true (es++adds))::K2) ids->(∀ i ∈ ids,H' i=H i)->n<=n'->cd P f N k Q Ty ops L (O.put o.dst v') H' n'):jV P f N k Q Ty ops (bo Ty (some d) t v x H n) o L O H n:=by
 obtain⟨v',H',n',h1,h2,h3,h4⟩:=Sep.append (d:=d) h hk hj hz hx ho hadd hne hlen;rw[h1,hJ];exact hc v' H' n' h2 h3 h4
theorem dh {κ:Op->Nat} {d:Nat} {x:au} (K1 K2:List bX) (add adds:List (List au)) (h:Sep H n ((.s l,v,.list true es)::(K1++K2)) ids) (hk:kd Ty t = .slice j) (hj:j.size=l.length) (hz:j.zero.length=j.size/\j.bytes<=131072)
  (hx:cA H x=some add) (ho:add.all (fun e=>e.all Ab.aM)=true) (hadd:∀ S,Row H (K1.map (·.1)) (K1.map (·.2.1)) (K1.map (·.2.2)) S->bM (Row H l) add adds S) (hne:adds ≠ []) (hlen:es.length+adds.length<=1073741824)
  (hc:∀ v' H' n',Sep H' n' ((.s l,v',.list true (es++adds))::K2) ids->(∀ i ∈ ids,H' i=H i)->n<=n'->dv P f N k Q Ty κ ops L (O.put o.dst v') H' n'):kz P f N k Q Ty κ ops (bo Ty (some d) t v x H n) o L O H n:=by
 obtain⟨v',H',n',h1,h2,h3,h4⟩:=Sep.append (d:=d) h hk hj hz hx ho hadd hne hlen;rw[h1,jn];exact hc v' H' n' h2 h3 h4
theorem cL {id:Id} {g q:Nat} {i:TI} {new news:List au} (K1 K2:List bX) (h:Sep H n ((.s l,.arr id g 0 g,.list true es)::(K1++K2)) ids) (hi:i.size=l.length) (hk:q<es.length) (hg:g=es.length) (hone:new.all Ab.aM=true)
  (hf:bb l K1 new news) (hc:∀ H',Sep H' n ((.s l,.arr id g 0 g,.list true (es.set q news))::K2) ids->(∀ i ∈ ids,H' i=H i)->cd P f N k Q Ty ops L (O.put o.dst .undef) H' n) :
  jV P f N k Q Ty ops (match cq (some i) (.ptr id g q 0) (some new) H with | some H'=>some (au.undef,H',n) | none=>none) o L O H n:=by
 obtain⟨H',h1,h2,h3⟩:=Sep.store h hi hk hg hone hf;rw[h1];exact (hJ (v:=au.undef) (H':=H') (n':=n)).symm ▸ hc H' h2 h3
theorem cf {K1:List bX} {cs ds:List au} (hf:bb l K1 cs ds):∀ S,Row H (K1.map (·.1)) (K1.map (·.2.1)) (K1.map (·.2.2)) S->bM (Row H l) [cs] [ds] S:=fun S h=>⟨S,[],hf.row h,rfl,by simp,by simp⟩
theorem zT {es:List (List au)} (h:∀ e ∈ es,e.length=l.length/\∀ a ∈ e,bY a) (hf:∀ t ∈ l,t = .c):∀ S,Row H (([]:List bX).map (·.1)) (([]:List bX).map (·.2.1)) (([]:List bX).map (·.2.2)) S->bM (Row H l) es es S:=fun S hS=>by
 simp only[List.map_nil,Row] at hS;subst hS;exact bM.fresh h hf
end
section
variable {P:Program} {f f':FuncId} {N:Nat} {k:List Item} {Q:au->ax->Nat->Prop} {Ty:Types} {ops:Array Oper} {L:List Oper} {O:Env} {H:ax} {n:Nat} {K:List bX} {ids:List Id} {t:TypeId} {j:TI} {l:List Sh} {v:au} {es:List (List au)} {o:Oper}
theorem bM.same {l:List Sh} (hf:∀ t ∈ l,t = .c):∀ {as1 bs:List (List au)} {S:List Id},bM (Row H l) as1 bs S->as1=bs
 | [],[],_,_=>rfl
 | [],_::_,_,hr=>hr.elim
 | _::_,[],_,hr=>hr.elim
 | a::as1,b::bs,_,⟨_,_,q1,q2,_,_⟩=>by rw[(q1.fill hf).1,bM.same hf q2]
theorem Sep.G9 {α:Type} {g:α->List au} {xs:List α} (h:Sep H n ((.s l,v,.list true (xs.map g))::K) ids) (hf:∀ t ∈ l,t = .c) :
  (v = .v (.slice none 0 0)/\xs=[])\/∃ id,v = .arr id xs.length 0 xs.length/\H id=some ⟨l.length,xs.map g⟩:=by
 obtain⟨h0,S,h1,h2⟩:=h;simp only[List.map_cons,Row,Tr] at h1;obtain⟨S1,S2,h3,_,rfl,_⟩:=h1;rcases h3 with ⟨rfl,e,_⟩ | ⟨id,els,es',T,rfl,he,q3,q4,q5,rfl⟩
 ·injection e with _ e
  exact .inl ⟨rfl,by simpa using e⟩
 ·injection he with _ he
  subst he;have:=bM.same hf q4;subst this;exact .inr ⟨id,by simp,q3⟩
theorem Sep.src {α:Type} {g:α->List au} {xs:List α} (h:Sep H n ((.s l,v,.list true (xs.map g))::K) ids) (hf:∀ t ∈ l,t = .c):cA H v=some (xs.map g):=by
 rcases h.G9 hf with ⟨rfl,rfl⟩ | ⟨id,rfl,hH⟩
 ·rfl
 ·simp[cA,live,hH];rw[<- List.map_take];simp
theorem Sep.dH {d:Nat} {x:au} {add:List (List au)} (h:Sep H n ((.s l,v,.list true es)::K) ids) (hf:∀ t ∈ l,t = .c) (hk:kd Ty t = .slice j) (hj:j.size=l.length) (hz:j.zero.length=j.size/\j.bytes<=131072)
  (hx:cA H x=some add) (ho:∀ e ∈ add,e.length=l.length/\∀ a ∈ e,bY a/\Ab.aM a=true) (hlen:es.length+add.length<=1073741824) :
  ∃ v' H' n',bo Ty (some d) t v x H n=some (v',H',n')/\Sep H' n' ((.s l,v',.list true (es++add))::K) ids/\(∀ i ∈ ids,H' i=H i)/\n<=n':=by
 have ho':add.all (fun e=>e.all Ab.aM)=true:=by
  rw[List.all_eq_true];intro e he;rw[List.all_eq_true];exact fun a ha=>((ho e he).2 a ha).2
 by_cases hne:add=[]
 ·subst hne;obtain⟨_,es',he,hv⟩:=h.form
  injection he with _ he
  subst he;rcases hv with ⟨rfl,rfl⟩ | ⟨id,els,rfl,hl,hH,_⟩
  ·refine⟨.v (.slice none 0 0),H,n,?_,by simpa using h,fun _ _=>rfl,Nat.le_refl _⟩;simp only[bo,hk,hx];rw[if_pos ⟨hz.1,hz.2,rfl,rfl⟩]
   rfl
  ·have hs:H.set id ⟨l.length,els⟩=H:=by
    funext i
    by_cases hi:i=id
    ·subst hi;simp[ax.aZ,hH]
    ·exact ax.aG _ _ hi
   refine⟨.arr id es.length 0 es.length,H,n,?_,by simpa using h,fun _ _=>rfl,Nat.le_refl _⟩;simp only[bo,hk,hx];rw[if_pos ⟨hz.1,hz.2,rfl,rfl⟩];simp only[live,hH,hl,↓reduceIte];rw[if_pos ⟨trivial,trivial,hj.symm,by simpa using hlen⟩];simp[hj,hs]
 ·exact Sep.append (K1:=[]) (K2:=K) h hk hj hz hx ho' (zT (fun e he=>⟨(ho e he).1,fun a ha=>((ho e he).2 a ha).1⟩) hf) hne hlen
theorem dg {d:Nat} {x:au} (add:List (List au)) (h:Sep H n ((.s l,v,.list true es)::K) ids) (hf:∀ t ∈ l,t = .c) (hk:kd Ty t = .slice j) (hj:j.size=l.length) (hz:j.zero.length=j.size/\j.bytes<=131072)
  (hx:cA H x=some add) (ho:∀ e ∈ add,e.length=l.length/\∀ a ∈ e,bY a/\Ab.aM a=true) (hlen:es.length+add.length<=1073741824)
  (hc:∀ v' H' n',Sep H' n' ((.s l,v',.list true (es++add))::K) ids->(∀ i ∈ ids,H' i=H i)->n<=n'->cd P f N k Q Ty ops L (O.put o.dst v') H' n'):jV P f N k Q Ty ops (bo Ty (some d) t v x H n) o L O H n:=by
 obtain⟨v',H',n',h1,h2,h3,h4⟩:=Sep.dH (d:=d) h hf hk hj hz hx ho hlen;rw[h1,hJ];exact hc v' H' n' h2 h3 h4
end
theorem Dp (k:IntKind) (a:Int):aM (.v (.int k a))=true:=rfl
theorem Ay (a:Bool):aM (.v (.bool a))=true:=rfl
theorem Fj (a:ByteArray):aM (.v (.string a))=true:=rfl
theorem D5:aM (.v (.slice none 0 0))=true:=rfl
theorem AE (fr:Bool) (l:List (List au)):aM (.list fr l)=true:=rfl
theorem EU (id:Id) (g o l:Nat):aM (.arr id g o l)=true:=rfl
theorem Fy (id:Id) (g o l:Nat):aM (.ptr id g o l)=true:=rfl
theorem cu {α:Type} [Inhabited α] {l:List α} {i:Int} {x:α} {q:Nat} (hb:0<=i/\i<l.length) (hx:x=at' l i) (hq:q=i.toNat):l[q]?=some x:=by
 obtain⟨h,hg⟩:=qY hb hx;rw[hq,List.getElem?_eq_getElem h,hg]
theorem pU {α:Type} {a:Option α} {b:α} (h:a=some b):a=some b:=h
theorem bh {α:Type} {l:List α} (h:l.length=2):∃ a b,l=[a,b]:=by match l,h with | [a,b],_=>exact⟨a,b,rfl⟩
theorem len3 {α:Type} {l:List α} (h:l.length=3):∃ a b c,l=[a,b,c]:=by match l,h with | [a,b,c],_=>exact⟨a,b,c,rfl⟩
theorem cM {α:Type} {l:List α} (h:l.length=4):∃ a b c d,l=[a,b,c,d]:=by match l,h with | [a,b,c,d],_=>exact⟨a,b,c,d,rfl⟩
theorem a7 {α:Type} {l:List α} (h:l.length=6):∃ a b c d e f,l=[a,b,c,d,e,f]:=by match l,h with | [a,b,c,d,e,f],_=>exact⟨a,b,c,d,e,f,rfl⟩
theorem ue {α:Type} {l:List α} (h:l.length=7):∃ a b c d e f g,l=[a,b,c,d,e,f,g]:=by match l,h with | [a,b,c,d,e,f,g],_=>exact⟨a,b,c,d,e,f,g,rfl⟩
theorem len8 {α:Type} {l:List α} (h:l.length=8):∃ a b c d e f g i,l=[a,b,c,d,e,f,g,i]:=by match l,h with | [a,b,c,d,e,f,g,i],_=>exact⟨a,b,c,d,e,f,g,i,rfl⟩
theorem gk {α:Type} {l:List α} (h:l.length=10):∃ a b c d e f g i j k,l=[a,b,c,d,e,f,g,i,j,k]:=by match l,h with | [a,b,c,d,e,f,g,i,j,k],_=>exact⟨a,b,c,d,e,f,g,i,j,k,rfl⟩
theorem pk {α:Type} {l:List α} (h:l.length=12):∃ a b c d e f g i j k m n,l=[a,b,c,d,e,f,g,i,j,k,m,n]:=by match l,h with | [a,b,c,d,e,f,g,i,j,k,m,n],_=>exact⟨a,b,c,d,e,f,g,i,j,k,m,n,rfl⟩
theorem Fs {α:Type} {l:List α} (h:l.length=13):∃ a b c d e f g i j k m n o,l=[a,b,c,d,e,f,g,i,j,k,m,n,o]:=by match l,h with | [a,b,c,d,e,f,g,i,j,k,m,n,o],_=>exact⟨a,b,c,d,e,f,g,i,j,k,m,n,o,rfl⟩
section
variable {P:Program} {f:FuncId} {N:Nat} {k:List Item} {Q:au->ax->Nat->Prop} {Ty:Types} {l:List Oper} {O:Env} {H:ax} {n:Nat} {K:List bX} {ids:List Id}
end
def av (n:Int):List au:=[int n]
def bg (s:cP):List au:=[str s]
end Go.Ab
namespace Go.Ab
def Ax:au->List Id
 | .arr id _ _ _=>[id]
 | _=>[]
section
variable (P:Program) (N:Nat) (ops:Array Oper) (W:List Id)
end
section
variable {P:Program} {N:Nat} {ops:Array Oper} {W:List Id}
end
section
variable {P:Program} {f:FuncId} {N:Nat} {k:List Item} {O:Env} {H:ax} {n:Nat} {Q:au->ax->Nat->Prop}
end
section
variable (P:Program) (f:FuncId) (N:Nat) (k:List Item) (Q:au->ax->Nat->Prop) (Ty:Types) (W:List Id) (ops:Array Oper)
end
section
variable {P:Program} {f:FuncId} {N:Nat} {k:List Item} {Q:au->ax->Nat->Prop} {Ty:Types} {W:List Id} {ops:Array Oper} {o:Oper} {L:List Oper} {O:Env} {H:ax} {n:Nat}
end
section
variable {P:Program} {f f':FuncId} {N:Nat} {k:List Item} {Q:au->ax->Nat->Prop} {Ty:Types} {W:List Id} {L:List Oper} {O:Env} {H:ax} {n:Nat} {K K1 K2:List bX} {ids:List Id} {t:TypeId} {j:TI} {l:List Sh} {v:au} {es:List (List au)} {o:Oper}
theorem Sep.at {α:Type} {g:α->List au} {xs:List α} (h:Sep H n ((.s l,v,.list true (xs.map g))::K) ids) (hf:∀ t ∈ l,t = .c):∀ i ∈ Ax v,H i=some ⟨l.length,xs.map g⟩/\i.1<n:=fun i hi=>by
 obtain⟨h0,S,h1,h2⟩:=h;simp only[List.map_cons,Row,Tr] at h1;obtain⟨S1,S2,h3,_,rfl,_⟩:=h1;rcases h3 with ⟨rfl,e,_⟩ | ⟨id,els,es',T,rfl,he,q3,q4,q5,rfl⟩
 ·cases hi
 ·injection he with _ he
  subst he;have:=bM.same hf q4;subst this;obtain rfl:i=id:=by simpa[Ax] using hi
  exact⟨q3,(h2 i (by simp)).1⟩
end
end Go.Ab
namespace Go.Ab
section
variable {P:Program} {Ty:Types} {N:Nat} {O:Env} {H:ax} {n:Nat}
theorem pK {t e:TypeId} {w:World} (h:(underlying t).run P w = .ok (.slice e) w) (a:Option Addr) (m c:Nat):(Op.equal t (.slice a m c) (.slice none 0 0)).run P w = .ok a.isNone w:=by
 have h1:∀ k,(Op.equalIn (k+1) t (.slice a m c) (.slice none 0 0)).run P w = .ok a.isNone w:=fun k=>by cases a<;>simp[Op.equalIn,h]
 exact h1 9999
theorem aN.isNil (hT:aW P Ty) {d:Option Tmp} {t t' ty:TypeId} {x y:Operand} {pos:String} {af:Array Edge} {gu:Option (Nat × Bool)} {j:TI} {fr:Bool} {els:List (List au)} (hk:kd Ty t = .slice j) (hx:O.ev x = .list fr els) (hy:O.ev y = .v (.slice none 0 0)) :
  aN P N ⟨d,.binOp .eql t x y t',ty,pos,af,gu⟩ O H n fun v1 H1 U=>(∃ b:Bool,v1=bool b/\(b=true->els=[]))/\H1=H/\U=n:=
 aN.dA fun c a hH hn g r=>by
  obtain⟨i,e,hi,hd,hj⟩:=cw hk;have hde:=(hT t i hi).bI c.w;rw[hd] at hde;have rx:=r.ev x;have ry:=r.ev y;rw[hx] at rx;rw[hy] at ry;have ey:=ry.cE;have hrun:∀ (b:Option Addr) (m q:Nat),(binOp .eql t (.slice b m q) (.slice none 0 0)).run P c.w = .ok (.bool b.isNone) c.w:=fun b m q=>by
   show ((Op.equal t (.slice b m q) (.slice none 0 0)) >>= fun r=>_).run P c.w=_;simp only[Sem.run_bind,pK hde,Result.andThen_ok,Sem.run_pure]
  generalize hv:a.eval x=vx at rx;cases rx with
  | lnil=>exact⟨bool true,.bool true,c,by simp[execOp,hv,ey,hrun,eqGuard],⟨⟨true,rfl,fun _=>rfl⟩,hH,hn⟩,.v _,g,bD.refl c⟩
  | list fr els ad cap sz cell hs eH hm hsz hc h=>exact⟨bool false,.bool false,c,by simp[execOp,hv,ey,hrun,eqGuard],⟨⟨false,rfl,fun h=>by cases h⟩,hH,hn⟩,.v _,g,bD.refl c⟩
theorem bz.isNil (hT:aW P Ty) {f:FuncId} {k:List Item} {Q:au->ax->Nat->Prop} {ops l:List Oper} {d:Option Tmp} {t t' ty:TypeId} {x y:Operand} {pos:String} {af:Array Edge} {j:TI} {fr:Bool} {els:List (List au)}
  (hN:ops.all (fun o=>dC N o.dst)=true) (hl:(⟨d,.binOp .eql t x y t',ty,pos,af,none⟩::l:List Oper).all (fun o=>dC N o.dst)=true) (hk:kd Ty t = .slice j) (hx:O.ev x = .list fr els) (hy:O.ev y = .v (.slice none 0 0))
  (h:∀ b:Bool,(b=true->els=[])->cd P f N k Q Ty ops.toArray l (O.put d (bool b)) H n):bz P f N k Q ops.toArray (⟨d,.binOp .eql t x y t',ty,pos,af,none⟩::l) O H n:=
 bz.op hT hN hl rfl (aN.isNil hT hk hx hy) (by rintro v H' n' ⟨⟨b,rfl,hb⟩,rfl,rfl⟩;exact h b hb)
end
section
variable {P:Program} {f f':FuncId} {N:Nat} {k:List Item} {Q:au->ax->Nat->Prop} {Ty:Types} {ops:Array Oper} {L:List Oper} {O:Env} {H:ax} {n:Nat} {K1 K2:List bX} {ids:List Id} {t:TypeId} {j:TI} {l:List Sh} {v:au} {es:List (List au)} {o:Oper}
theorem ph {κ:Op->Nat} {id:Id} {g q:Nat} {i:TI} {new news:List au} (K1 K2:List bX) (h:Sep H n ((.s l,.arr id g 0 g,.list true es)::(K1++K2)) ids) (hi:i.size=l.length) (hk:q<es.length) (hg:g=es.length) (hone:new.all Ab.aM=true)
  (hf:bb l K1 new news) (hc:∀ H',Sep H' n ((.s l,.arr id g 0 g,.list true (es.set q news))::K2) ids->(∀ i ∈ ids,H' i=H i)->dv P f N k Q Ty κ ops L (O.put o.dst .undef) H' n) :
  kz P f N k Q Ty κ ops (match cq (some i) (.ptr id g q 0) (some new) H with | some H'=>some (au.undef,H',n) | none=>none) o L O H n:=by
 obtain⟨H',h1,h2,h3⟩:=Sep.store h hi hk hg hone hf;rw[h1];exact (jn (v:=au.undef) (H':=H') (n':=n)).symm ▸ hc H' h2 h3
end
end Go.Ab
namespace Go.Ab
section
variable {P:Program} {N:Nat} {Ty:Types} {O:Env} {H:ax} {n:Nat}
variable {d:Option Tmp} {ty:TypeId} {pos:String} {af:Array Edge} {gu:Option (Nat × Bool)}
theorem xg {c:Ctx} (g:Good c) {t e:TypeId} {j:TI} {info:TypeInfo} {zv:Value} (ht:P.underlying t=some (.slice e)) (hi:P.info? e=some info) (hs:info.size=j.size) (hb:info.bytes=j.bytes) (hz:info.zero=some zv) (hzs:zv.cells.size=j.size)
  (k:Nat) {sv xv:Value} {cC els:List (List au)} (rs:Src c sv cC j.size) (hf:full sv=true) (rx:Src c xv els j.size) (hpos:els ≠ []) (hbytes:(cC.length+els.length) * j.bytes<=140737488355328) (hm:cC.length+els.length<=4611686018427387904) :
  ∃ u c',(Builtin.append_ #[t,t] ty #[sv,xv]).run P c.w = .ok u c'.w/\c'.H=c.H.set (c.n,k) ⟨j.size,cC++els⟩/\c'.n=c.n+1/\bW c' (.arr (c.n,k) (cC.length+els.length) 0 (cC.length+els.length)) u/\Good c'/\bD c c':=by
 rcases rs with ⟨rfl,rfl⟩ | ⟨sa,scap,onews,rfl,honl,honcell,honrep⟩
 ·simpa using append_nil g ht hi hs hb hz hzs k rx hpos (by simpa using hbytes) (by simpa using hm)
 rcases rx with ⟨rfl,rfl⟩ | ⟨xa,xcap,news,rfl,hnl,hncell,hnrep⟩
 ·exact absurd rfl hpos
 have hlen:0<els.length:=List.length_pos_iff.2 hpos;have eH:cC.length=scap:=by simpa[full] using hf
 subst eH;have hfit3:=growslice_fits (need:=cC.length+els.length) (old:=cC.length) (bytes:=info.bytes) (by omega) (by rw[hb];exact hbytes);have hrun:=run_append_grow (P:=P) c.w t ty e info zv ht hi hz sa cC.length cC.length onews (by rw[hs];exact honl) honcell xa els.length xcap news (by rw[hs];exact hnl) hncell (by omega) (by omega) hfit3;have hge:=grownCap_ge c.w (cC.length+els.length) cC.length e;generalize hgc:grownCap c.w (cC.length+els.length) cC.length e=gc at hrun hge;have hholds:Holds c (onews.toArray++news.toArray++Builtin.zeroCells zv.cells (gc - (cC.length+els.length))) ⟨j.size,cC++els⟩:=by
  have:=ew (c:=c) (o:=⟨j.size,cC⟩) (els:=els) (news:=news) (cC:=onews) (rest:=(Builtin.zeroCells zv.cells (gc - (cC.length+els.length))).toList) hnl hnrep honl honrep rfl;have e1:onews.toArray++news.toArray++Builtin.zeroCells zv.cells (gc - (cC.length+els.length))=(onews++news++(Builtin.zeroCells zv.cells (gc - (cC.length+els.length))).toList).toArray:=by
   apply Array.ext';simp
  rw[e1];exact this
 have hsize:(onews.toArray++news.toArray++Builtin.zeroCells zv.cells (gc - (cC.length+els.length))).size=gc * j.size:=by
  simp only[Array.size_append,List.size_toArray,honl,hnl,size_zeroCells,hzs,<- Nat.add_mul]
  congr 1
  omega
 generalize hcells:onews.toArray++news.toArray++Builtin.zeroCells zv.cells (gc - (cC.length+els.length))=cells at hrun hholds hsize;have hk:=p0 g (c.n,k) ⟨j.size,cC++els⟩ (c.w.drew.alloc (.cells cells e)) cells e (c.n+1) ⟨rfl,rfl,rfl⟩ (by simp) (fun k hk=>heap_alloc_old c.w.drew _ k hk) (heap_alloc_new c.w.drew _) (Nat.le_succ _) (Nat.lt_succ_self _) (fun h=>absurd h (Nat.lt_irrefl _)) hholds;refine⟨_,{ B:=c.B,β:=fun j=>if j=(c.n,k) then c.w.heap.size else c.β j,H:=c.H.set (c.n,k) ⟨j.size,cC++els⟩,n:=c.n+1,w:=c.w.drew.alloc (.cells cells e) },hrun,rfl,rfl,?_,hk.2,hk.1⟩;refine .arr (c.n,k) _ _ _ _ rfl (Nat.lt_succ_self _) (fun o' ho'=>?_) (fun o' ho' _=>?_)
 ·simp only[ax.bl,Option.some.injEq] at ho';subst ho';simp
 ·simp only[ax.bl,Option.some.injEq] at ho';subst ho';refine⟨by omega,_,_,rfl,by simp,rfl,hge,.inl (by simp),fun cl' el' fz' hcl'=>?_⟩;simp only[if_true] at hcl';have h2:=heap_alloc_new c.w.drew (.cells cells e);simp only[World.size_drew] at h2;rw[h2] at hcl';cases hcl';rw[hsize];simp
theorem bW.wK {c:Ctx} {fr:Bool} {els:List (List Value)} {x:Value} (r:bW c (.clip fr els) x):full x=true/\bW c (.list fr (els.map fun e=>e.map .v)) x:=by
 cases r with
 | clip _ _ _ hf h=>exact⟨hf,h⟩
theorem aN.FW (hT:aW P Ty) {dd:Nat} {t:TypeId} {s x:Operand} {j:TI} {fr:Bool} {vs:List (List Value)} {els:List (List au)} (hk:kd Ty t = .slice j) (hs:O.ev s = .clip fr vs) (hx:cA H (O.ev x)=some els)
  (hv:vs.all (·.length == j.size)=true) (hsz:els.all (·.length == j.size)=true) (hne:els ≠ []) (hz:j.zero.length=j.size/\j.bytes<=131072) (hm:vs.length+els.length<=1073741824) :
  aN P N ⟨some dd,.call ⟨.builtin .append,#[s,x],#[t,t]⟩,ty,pos,af,gu⟩ O H n fun v1 H1 U=>v1 = .arr (n,dd) (vs.length+els.length) 0 (vs.length+els.length)/\H1=H.set (n,dd) ⟨j.size,(vs.map fun e=>e.map .v)++els⟩/\U=n+1:=by
 refine aN.dA fun c a hH hn g r=>?_
 subst hH;obtain⟨i,e,hi,hde,hje⟩:=cw hk;obtain⟨hu,_⟩:=hT t i hi;rw[hde] at hu;obtain⟨_,info,zv,hinfo,his,hib,hiz,hzc⟩:=hT e j hje;have rs:=r.ev s;rw[hs] at rs;obtain⟨hf,rl⟩:=rs.wK;have rs':=fS (sz:=j.size) g rl (els:=vs.map fun e=>e.map .v) rfl (by simpa[List.all_map,Function.comp_def] using hv);have hl:(vs.map fun e=>e.map au.v).length=vs.length:=by simp
 obtain⟨u,c',hrun,hH',hn',hrep,hgood,hkeep⟩:=xg (P:=P) (ty:=ty) g hu hinfo his hib hiz (by rw[hzc];simpa using hz.1) dd rs' hf (fS g (r.ev x) hx hsz) hne (by rw[hl];exact kL hm hz.2) (by rw[hl];omega);rw[hl] at hrep;rw[hn] at hH' hn' hrep;exact⟨_,u,c',fT hrun,⟨rfl,hH',hn'⟩,hrep,hgood,hkeep⟩
theorem qE {c:Ctx} (g:Good c) {sz:Nat} {els:List (List au)} {cells:Array Value} {e:TypeId} (E:Holds c cells ⟨sz,els⟩) {cap:Nat} (hc:els.length<=cap) :
  bW { c with w:=c.w.drew.alloc (.cells cells e) } (.list true els) (.slice (some ⟨c.w.heap.size,0,none⟩) els.length cap)/\Good { c with w:=c.w.drew.alloc (.cells cells e) }/\bD c { c with w:=c.w.drew.alloc (.cells cells e) }:=by
 have hk:=ee g (c.w.drew.alloc (.cells cells e)) ⟨rfl,rfl,rfl⟩ (by simp) (fun k hk=>heap_alloc_old c.w.drew _ k hk);refine⟨?_,hk.2,hk.1⟩;have hnew:=heap_alloc_new c.w.drew (.cells cells e);simp only[World.size_drew] at hnew;refine .list true els _ cap sz (fun p q=>cells.getD (p * sz+q) undef) (fun _=>rfl) hc (fun _=>⟨?_,by simp,fun _=>g.Bsize⟩) (fun i e he=>(E.2 i e he).1) (fun i e j x he hx=>?_) (fun i e j x he hx=>?_)
 ·rintro⟨id,o,ho,hb⟩;have:=g.lt ho;simp only at hb;omega
 ·obtain⟨y,hy,_⟩:=(E.2 i e he).2 j x hx;simp only at hy;simp only[World.cell?];rw[hnew];simp[Array.getD_eq_getD_getElem?,hy]
 ·obtain⟨y,hy,hr⟩:=(E.2 i e he).2 j x hx;rw[Array.getD_eq_getD_getElem?,hy];exact hr.keeps hk.1
theorem uQ {c:Ctx} (g:Good c) {t e:TypeId} {j:TI} {info:TypeInfo} {zv:Value} (ht:P.underlying t=some (.slice e)) (hi:P.info? e=some info) (hs:info.size=j.size) (hb:info.bytes=j.bytes) (hz:info.zero=some zv) (hzs:zv.cells.size=j.size)
  {sv xv:Value} {cC els:List (List au)} (rs:Src c sv cC j.size) (hf:full sv=true) (rx:Src c xv els j.size) (hpos:els ≠ []) (hbytes:(cC.length+els.length) * j.bytes<=140737488355328) (hm:cC.length+els.length<=4611686018427387904) :
  ∃ u w',(Builtin.append_ #[t,t] ty #[sv,xv]).run P c.w = .ok u w'/\bW { c with w:=w' } (.list true (cC++els)) u/\Good { c with w:=w' }/\bD c { c with w:=w' }:=by
 rcases rx with ⟨rfl,rfl⟩ | ⟨xa,xcap,news,rfl,hnl,hncell,hnrep⟩
 ·exact absurd rfl hpos
 have hlen:0<els.length:=List.length_pos_iff.2 hpos;rcases rs with ⟨rfl,rfl⟩ | ⟨sa,scap,onews,rfl,honl,honcell,honrep⟩
 ·have hrun:=run_append_nil (P:=P) c.w t ty e info zv ht hi hz xa els.length xcap news (by rw[hs];exact hnl) hncell hlen (by simp at hm;omega) (by rw[hb];simp at hbytes;omega);have hge:=grownCap_ge c.w els.length 0 e;generalize hgc:grownCap c.w els.length 0 e=gc at hrun hge;have hholds:Holds c (news.toArray++Builtin.zeroCells zv.cells (gc - els.length)) ⟨j.size,els⟩:=by
   have:=ew (c:=c) (o:=⟨j.size,[]⟩) (els:=els) (news:=news) (cC:=[]) (rest:=(Builtin.zeroCells zv.cells (gc - els.length)).toList) hnl hnrep (by simp) (fun i e he=>by simp at he) rfl;have e1:news.toArray++Builtin.zeroCells zv.cells (gc - els.length)=([]++news++(Builtin.zeroCells zv.cells (gc - els.length)).toList).toArray:=by
    apply Array.ext';simp
   rw[e1];simpa using this
  have hk:=qE (e:=e) g hholds (cap:=gc) hge;exact⟨_,_,hrun,hk.1,hk.2.1,hk.2.2⟩
 have eH:cC.length=scap:=by simpa[full] using hf
 subst eH;have hfit3:=growslice_fits (need:=cC.length+els.length) (old:=cC.length) (bytes:=info.bytes) (by omega) (by rw[hb];exact hbytes);have hrun:=run_append_grow (P:=P) c.w t ty e info zv ht hi hz sa cC.length cC.length onews (by rw[hs];exact honl) honcell xa els.length xcap news (by rw[hs];exact hnl) hncell (by omega) (by omega) hfit3;have hge:=grownCap_ge c.w (cC.length+els.length) cC.length e;generalize hgc:grownCap c.w (cC.length+els.length) cC.length e=gc at hrun hge;have hholds:Holds c (onews.toArray++news.toArray++Builtin.zeroCells zv.cells (gc - (cC.length+els.length))) ⟨j.size,cC++els⟩:=by
  have:=ew (c:=c) (o:=⟨j.size,cC⟩) (els:=els) (news:=news) (cC:=onews) (rest:=(Builtin.zeroCells zv.cells (gc - (cC.length+els.length))).toList) hnl hnrep honl honrep rfl;have e1:onews.toArray++news.toArray++Builtin.zeroCells zv.cells (gc - (cC.length+els.length))=(onews++news++(Builtin.zeroCells zv.cells (gc - (cC.length+els.length))).toList).toArray:=by
   apply Array.ext';simp
  rw[e1];exact this
 have hk:=qE (e:=e) g hholds (cap:=gc) (by simpa using hge);have hl:(cC++els).length=cC.length+els.length:=by simp
 rw[hl] at hk;exact⟨_,_,hrun,hk.1,hk.2.1,hk.2.2⟩
theorem aN.pX (hT:aW P Ty) {t:TypeId} {s x:Operand} {j:TI} {fr:Bool} {vs:List (List Value)} {els:List (List au)} (hk:kd Ty t = .slice j) (hs:O.ev s = .clip fr vs) (hx:cA H (O.ev x)=some els)
  (hv:vs.all (·.length == j.size)=true) (hsz:els.all (·.length == j.size)=true) (hne:els ≠ []) (hz:j.zero.length=j.size/\j.bytes<=131072) (hm:vs.length+els.length<=1073741824) :
  aN P N ⟨d,.call ⟨.builtin .append,#[s,x],#[t,t]⟩,ty,pos,af,gu⟩ O H n fun v1 H1 U=>v1 = .list true ((vs.map fun e=>e.map .v)++els)/\H1=H/\U=n:=by
 refine aN.dA fun c a hH hn g r=>?_
 subst hH;obtain⟨i,e,hi,hde,hje⟩:=cw hk;obtain⟨hu,_⟩:=hT t i hi;rw[hde] at hu;obtain⟨_,info,zv,hinfo,his,hib,hiz,hzc⟩:=hT e j hje;have rs:=r.ev s;rw[hs] at rs;obtain⟨hf,rl⟩:=rs.wK;have rs':=fS (sz:=j.size) g rl (els:=vs.map fun e=>e.map .v) rfl (by simpa[List.all_map,Function.comp_def] using hv);have hl:(vs.map fun e=>e.map au.v).length=vs.length:=by simp
 obtain⟨u,w',hrun,hrep,hgood,hkeep⟩:=uQ (P:=P) (ty:=ty) g hu hinfo his hib hiz (by rw[hzc];simpa using hz.1) rs' hf (fS g (r.ev x) hx hsz) hne (by rw[hl];exact kL hm hz.2) (by rw[hl];omega);exact⟨_,u,{ c with w:=w' },fT hrun,⟨rfl,rfl,hn⟩,hrep,hgood,hkeep⟩
theorem mI {c:Ctx} {a:Act} (r:cJ N c O a) {x:Operand} {k:IntKind} {m:Int} (h:O.ev x = .v (.int k m)):a.eval x = .int k m:=by
 have:=r.ev x;rw[h] at this;exact this.cE
theorem aN.DP (hT:aW P Ty) {t:TypeId} {x hi mx:Operand} {j:TI} {fr:Bool} {vs:List (List Value)} {k k':IntKind} (hk:kd Ty t = .slice j) (hx:O.ev x = .list fr (vs.map fun e=>e.map .v))
  (E:O.ev hi = .v (.int k vs.length)) (hm:O.ev mx = .v (.int k' vs.length)) :
  aN P N ⟨d,.slice t x none (some hi) (some mx),ty,pos,af,gu⟩ O H n fun v1 H1 U=>v1 = .clip fr vs/\H1=H/\U=n:=
 aN.pure fun c a hH g r=>by
  obtain⟨i,e,hi',hd,hj⟩:=cw hk;have hde:=(hT t i hi').bI c.w;have hsz:=(hT e j hj).cF c.w;have rx:=r.ev x;rw[hx] at rx;have e1:=mI r E;have e2:=mI r hm;have hb:∀ cap:Nat,vs.length<=cap->(Instr.sliceBounds true vs.length cap none (some (a.eval hi)) (some (a.eval mx))).run P c.w = .ok (0,vs.length,vs.length) c.w:=fun cap eH=>by
   have b1:∀ code,(Instr.sliceBound (.int k' vs.length) cap code).run P c.w = .ok vs.length c.w:=fun code=>iS (by omega) (by omega)
   have b2:∀ code,(Instr.sliceBound (.int k vs.length) vs.length code).run P c.w = .ok vs.length c.w:=fun code=>iS (by omega) (by omega)
   simp[Instr.sliceBounds,e1,e2,b1,b2]
  generalize hvx:a.eval x=vx at rx;generalize hE:(vs.map fun e=>e.map au.v)=els at rx;have hlen:els.length=vs.length:=by rw[<- hE];simp
  cases rx with
  | lnil fr=>
   have h0:vs.length=0:=by simpa using hlen.symm
   have h1:=hb 0 (by omega);rw[h0] at h1;refine⟨.slice none 0 0,by simp[execOp,Instr.sliceAt,Instr.slice,hde,hd,hvx,h1,hsz],.clip fr vs _ rfl ?_⟩;rw[hE];exact .lnil fr
  | list fr els ad cap sz cell hs eH hmm hsz' hcc hr=>
   have h1:=hb cap (by omega);refine⟨.slice (some ad) vs.length vs.length,?_,.clip fr vs _ (by simp[full]) ?_⟩
   ·by_cases h0:vs.length=0
    ·rw[h0] at h1 hlen;rw[hlen] at hvx;simp[execOp,Instr.sliceAt,Instr.slice,hde,hd,hvx,h1,hsz,h0]
    ·have hadd:ad.add 0=ad:=by
      have hsp:=hs (by intro h;rw[h] at hlen;simp at hlen;omega);obtain⟨b,o,M⟩:=ad;simp only at hsp;subst hsp;rw[Addr.add_lit];rfl
     rw[hlen] at hvx;simp[execOp,Instr.sliceAt,Instr.slice,hde,hd,hvx,h1,hsz,hadd]
   ·rw[hE,<- hlen];exact .list fr els ad els.length sz cell hs (Nat.le_refl _) hmm hsz' hcc hr
end
section
variable {P:Program} {f:FuncId} {N:Nat} {k:List Item} {Q:au->ax->Nat->Prop} {Ty:Types} {l:List Oper} {O:Env} {H:ax} {n:Nat}
variable {d:Option Tmp} {ty:TypeId} {pos:String} {af:Array Edge}
theorem bz.pX (hT:aW P Ty) {ops:List Oper} {t:TypeId} {s x:Operand} {j:TI} {fr:Bool} {vs:List (List Value)} {els:List (List au)}
  (hN:ops.all (fun o=>dC N o.dst)=true) (hl:(⟨d,.call ⟨.builtin .append,#[s,x],#[t,t]⟩,ty,pos,af,none⟩::l:List Oper).all (fun o=>dC N o.dst)=true) (hk:kd Ty t = .slice j) (hz:j.zero.length=j.size/\j.bytes<=131072) (hs:O.ev s = .clip fr vs) (hx:cA H (O.ev x)=some els)
  (hv:vs.all (·.length == j.size)=true) (hsz:els.all (·.length == j.size)=true) (hne:els ≠ []) (hm:vs.length+els.length<=1073741824)
  (h:cd P f N k Q Ty ops.toArray l (O.put d (.list true ((vs.map fun e=>e.map .v)++els))) H n):bz P f N k Q ops.toArray (⟨d,.call ⟨.builtin .append,#[s,x],#[t,t]⟩,ty,pos,af,none⟩::l) O H n:=
 bz.op hT hN hl rfl (aN.pX hT hk hs hx hv hsz hne hz hm) (by rintro v H' n' ⟨rfl,rfl,rfl⟩;exact h)
theorem bz.DP (hT:aW P Ty) {ops:List Oper} {t:TypeId} {x hi mx:Operand} {j:TI} {fr:Bool} {vs:List (List Value)} {k1 k2:IntKind}
  (hN:ops.all (fun o=>dC N o.dst)=true) (hl:(⟨d,.slice t x none (some hi) (some mx),ty,pos,af,none⟩::l:List Oper).all (fun o=>dC N o.dst)=true) (hk:kd Ty t = .slice j) (hx:O.ev x = .list fr (vs.map fun e=>e.map .v))
  (E:O.ev hi = .v (.int k1 vs.length)) (hm:O.ev mx = .v (.int k2 vs.length))
  (h:cd P f N k Q Ty ops.toArray l (O.put d (.clip fr vs)) H n):bz P f N k Q ops.toArray (⟨d,.slice t x none (some hi) (some mx),ty,pos,af,none⟩::l) O H n:=
 bz.op hT hN hl rfl (aN.DP hT hk hx E hm) (by rintro v H' n' ⟨rfl,rfl,rfl⟩;exact h)
end
def mR (n:Int):List Value:=[.int .i64 n]
theorem nc (l:List Int):(l.map mR).map (fun e=>e.map au.v)=l.map av:=by simp[mR,av,Function.comp_def]
section
variable {P:Program} {f:FuncId} {N:Nat} {k:List Item} {Q:au->ax->Nat->Prop} {Ty:Types} {L:List Oper} {O:Env} {H:ax} {n:Nat}
variable {d:Option Tmp} {ty:TypeId} {pos:String} {af:Array Edge}
theorem bz.FN (hT:aW P Ty) {ops:List Oper} {t:TypeId} {s x:Operand} {j:TI} {fr t':Bool} {l m:List Int}
  (hN:ops.all (fun o=>dC N o.dst)=true) (hl:(⟨d,.call ⟨.builtin .append,#[s,x],#[t,t]⟩,ty,pos,af,none⟩::L:List Oper).all (fun o=>dC N o.dst)=true) (hk:kd Ty t = .slice j) (hz:j.size=1/\j.zero.length=1/\j.bytes<=131072) (hs:O.ev s = .clip fr (l.map mR)) (hx:O.ev x = .list t' (m.map av))
  (hne:m ≠ []) (hm:l.length+m.length<=1073741824)
  (h:cd P f N k Q Ty ops.toArray L (O.put d (.list true ((l++m).map av))) H n):bz P f N k Q ops.toArray (⟨d,.call ⟨.builtin .append,#[s,x],#[t,t]⟩,ty,pos,af,none⟩::L) O H n:=
 bz.pX hT hN hl hk ⟨by omega,hz.2.2⟩ hs (els:=m.map av) (by rw[hx];rfl) (by simp[hz.1,mR]) (by simp[hz.1,av]) (by simpa using hne) (by simpa using hm) (by rw[nc,<- List.map_append];exact h)
theorem aN.DY (hT:aW P Ty) {gu:Option (Nat × Bool)} {t:TypeId} {s x:Operand} {j:TI} {fr t':Bool} {l m:List Int} (hk:kd Ty t = .slice j) (hz:j.size=1/\j.zero.length=1/\j.bytes<=131072) (hs:O.ev s = .clip fr (l.map mR)) (hx:O.ev x = .list t' (m.map av))
  (hne:m ≠ []) (hm:l.length+m.length<=1073741824) :
  aN P N ⟨d,.call ⟨.builtin .append,#[s,x],#[t,t]⟩,ty,pos,af,gu⟩ O H n fun v1 H1 U=>v1 = .list true ((l++m).map av)/\H1=H/\U=n:=by
 have:=aN.pX (P:=P) (N:=N) (O:=O) (H:=H) (n:=n) (d:=d) (ty:=ty) (pos:=pos) (af:=af) (gu:=gu) hT hk hs (x:=x) (els:=m.map av) (by rw[hx];rfl) (by simp[hz.1,mR]) (by simp[hz.1,av]) (by simpa using hne) ⟨by omega,hz.2.2⟩ (by simpa using hm);rw[nc,<- List.map_append] at this;exact this
end
end Go.Ab
