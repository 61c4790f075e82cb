/- Merged texts (3 of 11) of the proof that ends in Fpy: Sp Sq Sr Ss Sv Sw Sk. -/
import Derived.Test.YtiokiodmcghlhaaDoorAbQfp2
/- The abstract machine, part Sp: arrays of the call's own as values, each kept apart from the others; what is done with them. -/
namespace Go.Ab
set_option linter.unusedSectionVars false
variable [Inhabited Tabs]
set_option linter.unusedSectionVars false
set_option linter.unusedSimpArgs false
inductive Sh where
 | c
 | s (l:List Sh)
 | a (l:List Sh)
 | t (l:List Sh)
def rowsP (R:List AVal→List AVal→List Id→Prop):List (List AVal)→List (List AVal)→List Id→Prop
 | [],[],T=>T=[]
 | e::es,f::fs,T=>∃ T1 T2,R e f T1∧rowsP R es fs T2∧T=T1++T2∧∀ i ∈ T1,i ∉ T2
 | _,_,_=>False
mutual
def Tr (H:Heap):Sh→AVal→AVal→List Id→Prop
 | .c,a,b,S=>a=b∧Fresh a∧S=[]
 | .s l,a,b,S=>(a = .v (.slice none 0 0)∧b = .list true []∧S=[])∨∃ id els es T,a = .arr id els.length 0 els.length∧b = .list true es∧H id=some ⟨l.length,els⟩∧rowsP (Row H l) els es T∧id ∉ T∧S=id::T
 | .a l,a,b,S=>∃ as1 bs,a = .agg as1∧b = .agg bs∧Row H l as1 bs S
 | .t l,a,b,S=>∃ as1 bs,a = .tup as1∧b = .tup bs∧Row H l as1 bs S
def Row (H:Heap):List Sh→List AVal→List AVal→List Id→Prop
 | [],[],[],S=>S=[]
 | h::l,a::as1,b::bs,S=>∃ S1 S2,Tr H h a b S1∧Row H l as1 bs S2∧S=S1++S2∧∀ i ∈ S1,i ∉ S2
 | _,_,_,_=>False
end
section
variable {R R':List AVal→List AVal→List Id→Prop}
theorem rowsP.mono:∀ {as1 bs:List (List AVal)} {S:List Id},rowsP R as1 bs S→(∀ (e f:List AVal) (T:List Id),R e f T→(∀ i ∈ T,i ∈ S)→R' e f T)→rowsP R' as1 bs S
 | [],[],_,h,_=>h
 | _::_,_::_,_,⟨T1,T2,h1,h2,h3,h4⟩,hm=>⟨T1,T2,hm _ _ _ h1 (fun i hi=>by simp[h3,hi]),rowsP.mono h2 (fun e f T h hs=>hm e f T h fun i hi=>by simp[h3,hs i hi]),h3,h4⟩
 | [],_::_,_,h,_=>h.elim
 | _::_,[],_,h,_=>h.elim
theorem rowsP.len:∀ {as1 bs:List (List AVal)} {S:List Id},rowsP R as1 bs S→as1.length=bs.length
 | [],[],_,_=>rfl
 | _::_,_::_,_,⟨_,_,_,h2,_,_⟩=>by simp[h2.len]
 | [],_::_,_,h=>h.elim
 | _::_,[],_,h=>h.elim
theorem rowsP.append:∀ {as1 bs cs ds:List (List AVal)} {S T:List Id},rowsP R as1 bs S→rowsP R cs ds T→(∀ i ∈ S,i ∉ T)→rowsP R (as1++cs) (bs++ds) (S++T)
 | [],[],_,_,_,_,h,k,_=>by rw[show _=[] from h];exact k
 | _::_,_::_,_,_,_,T,⟨T1,T2,h1,h2,h3,h4⟩,k,hd=>by
  subst h3
  refine⟨T1,T2++T,h1,rowsP.append h2 k (fun i hi=>hd i (by simp[hi])),by simp,fun i hi hm=>?_⟩
  rcases List.mem_append.1 hm with hm | hm
  ·exact h4 i hi hm
  ·exact hd i (by simp[hi]) hm
 | [],_::_,_,_,_,_,h,_,_=>h.elim
 | _::_,[],_,_,_,_,h,_,_=>h.elim
theorem rowsP.map {f:AVal→AVal} {g:Id→Id} (hg:∀ i j,g i=g j→i=j):∀ {as1 bs:List (List AVal)} {S:List Id},rowsP R as1 bs S→(∀ (e d:List AVal) (T:List Id),R e d T→(∀ i ∈ T,i ∈ S)→R' (e.map f) d (T.map g))→rowsP R' (as1.map fun e=>e.map f) bs (S.map g)
 | [],[],_,h,_=>by rw[show _=[] from h];rfl
 | _::_,_::_,_,⟨T1,T2,h1,h2,h3,h4⟩,hm=>⟨T1.map g,T2.map g,hm _ _ _ h1 (fun i hi=>by simp[h3,hi]),rowsP.map hg h2 (fun e d T h hs=>hm e d T h fun i hi=>by simp[h3,hs i hi]),by simp[h3],fun i hi hm=>by
   obtain⟨j,hj,rfl⟩:=List.mem_map.1 hi
   obtain⟨j2,hj2,he⟩:=List.mem_map.1 hm
   rw[hg _ _ he] at hj2
   exact h4 j hj hj2⟩
 | [],_::_,_,h,_=>h.elim
 | _::_,[],_,h,_=>h.elim
end
mutual
theorem Tr.frame {H H':Heap}:∀ {h:Sh} {a b:AVal} {S:List Id},Tr H h a b S→(∀ i ∈ S,H' i=H i)→Tr H' h a b S
 | .c,_,_,_,h,_=>by simpa[Tr] using h
 | .s l,a,b,S,h,hf=>by
  simp only[Tr] at h ⊢
  rcases h with h | ⟨id,els,es,T,h1,h2,h3,h4,h5,rfl⟩
  ·exact .inl h
  ·exact .inr ⟨id,els,es,T,h1,h2,by rw[hf id (by simp)];exact h3,h4.mono fun e f T' hr hs=>Row.frame hr fun i hi=>hf i (by simp[hs i hi]),h5,rfl⟩
 | .a l,a,b,S,h,hf=>by
  simp only[Tr] at h ⊢
  obtain⟨as1,bs,h1,h2,h3⟩:=h
  exact⟨as1,bs,h1,h2,Row.frame h3 hf⟩
 | .t l,a,b,S,h,hf=>by
  simp only[Tr] at h ⊢
  obtain⟨as1,bs,h1,h2,h3⟩:=h
  exact⟨as1,bs,h1,h2,Row.frame h3 hf⟩
theorem Row.frame {H H':Heap}:∀ {l:List Sh} {as1 bs:List AVal} {S:List Id},Row H l as1 bs S→(∀ i ∈ S,H' i=H i)→Row H' l as1 bs S
 | [],[],[],_,h,_=>by simpa[Row] using h
 | _::_,_::_,_::_,_,h,hf=>by
  simp only[Row] at h ⊢
  obtain⟨S1,S2,h1,h2,h3,h4⟩:=h
  exact⟨S1,S2,h1.frame fun i hi=>hf i (by simp[h3,hi]),Row.frame h2 fun i hi=>hf i (by simp[h3,hi]),h3,h4⟩
 | [],[],_::_,_,h,_=>by simp[Row] at h
 | [],_::_,_,_,h,_=>by simp[Row] at h
 | _::_,[],_,_,h,_=>by simp[Row] at h
 | _::_,_::_,[],_,h,_=>by simp[Row] at h
end
mutual
theorem Tr.has {H:Heap}:∀ {h:Sh} {a b:AVal} {S:List Id},Tr H h a b S→∀ i ∈ S,∃ o,H i=some o
 | .c,_,_,_,h,i,hi=>by simp only[Tr] at h;obtain⟨_,_,rfl⟩:=h;cases hi
 | .s l,a,b,S,h,i,hi=>by
  simp only[Tr] at h
  rcases h with ⟨_,_,rfl⟩ | ⟨id,els,es,T,h1,h2,h3,h4,h5,rfl⟩
  ·cases hi
  ·rcases List.mem_cons.1 hi with rfl | hi
   ·exact⟨_,h3⟩
   ·exact rows_has (l:=l) (fun e f T hr=>Row.has hr) h4 i hi
 | .a l,a,b,S,h,i,hi=>by simp only[Tr] at h;obtain⟨as1,bs,_,_,h3⟩:=h;exact Row.has h3 i hi
 | .t l,a,b,S,h,i,hi=>by simp only[Tr] at h;obtain⟨as1,bs,_,_,h3⟩:=h;exact Row.has h3 i hi
theorem Row.has {H:Heap}:∀ {l:List Sh} {as1 bs:List AVal} {S:List Id},Row H l as1 bs S→∀ i ∈ S,∃ o,H i=some o
 | [],[],[],_,h,i,hi=>by simp only[Row] at h;subst h;cases hi
 | _::_,_::_,_::_,_,h,i,hi=>by
  simp only[Row] at h
  obtain⟨S1,S2,h1,h2,h3,_⟩:=h
  subst h3
  rcases List.mem_append.1 hi with hi | hi
  ·exact h1.has i hi
  ·exact Row.has h2 i hi
 | [],[],_::_,_,h,_,_=>by simp[Row] at h
 | [],_::_,_,_,h,_,_=>by simp[Row] at h
 | _::_,[],_,_,h,_,_=>by simp[Row] at h
 | _::_,_::_,[],_,h,_,_=>by simp[Row] at h
theorem rows_has {H:Heap} {l:List Sh} (hr:∀ (e f:List AVal) (T:List Id),Row H l e f T→∀ i ∈ T,∃ o,H i=some o):∀ {as1 bs:List (List AVal)} {S:List Id},rowsP (Row H l) as1 bs S→∀ i ∈ S,∃ o,H i=some o
 | [],[],_,h,i,hi=>by rw[show _=[] from h] at hi;cases hi
 | _::_,_::_,_,⟨T1,T2,h1,h2,h3,_⟩,i,hi=>by
  subst h3
  rcases List.mem_append.1 hi with hi | hi
  ·exact hr _ _ _ h1 i hi
  ·exact rows_has hr h2 i hi
 | [],_::_,_,h,_,_=>h.elim
 | _::_,[],_,h,_,_=>h.elim
end
mutual
def Sh.dep:Sh→Nat
 | .c=>0
 | .s l=>Sh.depL l+1
 | .a l=>Sh.depL l+1
 | .t l=>Sh.depL l+1
def Sh.depL:List Sh→Nat
 | []=>0
 | h::l=>max (Sh.dep h) (Sh.depL l)
end
theorem Own.up {H:Heap}:∀ {d:Nat} {a b:AVal} {S:List Id},Own H d a b S→Own H (d+1) a b S
 | 0,_,_,_,h=>.inl h
 | d+1,a,b,S,h=>by
  rcases h with h | ⟨cs,ds,h1,h2,h3⟩ | ⟨cs,ds,h1,h2,h3⟩ | h | ⟨id,o,els,T,h1,h2,h3,h4,h5⟩
  ·exact .inl h
  ·exact .inr (.inl ⟨cs,ds,h1,h2,h3.mono fun _ _ _ _ h _=>Own.up h⟩)
  ·exact .inr (.inr (.inl ⟨cs,ds,h1,h2,h3.mono fun _ _ _ _ h _=>Own.up h⟩))
  ·exact .inr (.inr (.inr (.inl h)))
  ·exact .inr (.inr (.inr (.inr ⟨id,o,els,T,h1,h2,h3,h4.mono fun _ _ _ _ _ _ h _=>Own.up h,h5⟩)))
theorem Own.le {H:Heap} {d e:Nat} {a b:AVal} {S:List Id} (hd:d≤e) (h:Own H d a b S):Own H e a b S:=by
 induction hd with
 | refl=>exact h
 | step _ ih=>exact ih.up
mutual
theorem Tr.own {H:Heap}:∀ {h:Sh} {a b:AVal} {S:List Id},Tr H h a b S→Own H h.dep a b S
 | .c,_,_,_,h=>by
  simp only[Tr] at h
  obtain⟨rfl,hF,rfl⟩:=h
  exact⟨⟨rfl,hF⟩,rfl⟩
 | .s l,a,b,S,h=>by
  simp only[Tr] at h
  rcases h with ⟨rfl,rfl,rfl⟩ | ⟨id,els,es,T,rfl,rfl,h3,h4,h5,rfl⟩
  ·exact .inr (.inr (.inr (.inl ⟨rfl,rfl,rfl⟩)))
  ·exact .inr (.inr (.inr (.inr ⟨id,_,es,T,rfl,rfl,h3,rowsLL (l:=l) (fun e f T h=>Row.own h) h4,h5,rfl⟩)))
 | .a l,a,b,S,h=>by
  simp only[Tr] at h
  obtain⟨as1,bs,rfl,rfl,h3⟩:=h
  exact .inr (.inl ⟨as1,bs,rfl,rfl,Row.own h3⟩)
 | .t l,a,b,S,h=>by
  simp only[Tr] at h
  obtain⟨as1,bs,rfl,rfl,h3⟩:=h
  exact .inr (.inr (.inl ⟨as1,bs,rfl,rfl,Row.own h3⟩))
theorem Row.own {H:Heap}:∀ {l:List Sh} {as1 bs:List AVal} {S:List Id},Row H l as1 bs S→OwnL (Own H (Sh.depL l)) as1 bs S
 | [],[],[],_,h=>by simp only[Row] at h;exact h
 | h::l,_::_,_::_,_,hr=>by
  simp only[Row] at hr
  obtain⟨S1,S2,h1,h2,h3,h4⟩:=hr
  exact⟨S1,S2,h1.own.le (Nat.le_max_left _ _),(Row.own h2).mono fun _ _ _ _ h _=>h.le (Nat.le_max_right _ _),h3,h4⟩
 | [],[],_::_,_,h=>by simp[Row] at h
 | [],_::_,_,_,h=>by simp[Row] at h
 | _::_,[],_,_,h=>by simp[Row] at h
 | _::_,_::_,[],_,h=>by simp[Row] at h
theorem rowsLL {H:Heap} {l:List Sh} {Q:AVal→AVal→List Id→Prop} (hr:∀ (e f:List AVal) (T:List Id),Row H l e f T→OwnL Q e f T):∀ {as1 bs:List (List AVal)} {S:List Id},rowsP (Row H l) as1 bs S→OwnLL Q as1 bs S
 | [],[],_,h=>h
 | _::_,_::_,_,⟨T1,T2,h1,h2,h3,h4⟩=>⟨T1,T2,hr _ _ _ h1,rowsLL hr h2,h3,h4⟩
 | [],_::_,_,h=>h.elim
 | _::_,[],_,h=>h.elim
end
mutual
theorem Tr.sh {H H2:Heap} {n:Nat}:∀ {h:Sh} {a b:AVal} {S:List Id},Tr H h a b S→(∀ i ∈ S,H2 (shId n i)=(H i).map (shOb n))→Tr H2 h (shA n a) b (S.map (shId n))
 | .c,_,_,_,h,_=>by
  simp only[Tr] at h ⊢
  obtain⟨rfl,hF,rfl⟩:=h
  rw[hF.sh]
  exact⟨rfl,hF,rfl⟩
 | .s l,a,b,S,h,hf=>by
  simp only[Tr] at h ⊢
  rcases h with ⟨rfl,rfl,rfl⟩ | ⟨id,els,es,T,rfl,rfl,h3,h4,h5,rfl⟩
  ·exact .inl ⟨shA_v n _,rfl,rfl⟩
  ·refine .inr ⟨shId n id,els.map fun e=>e.map (shA n),es,T.map (shId n),by rw[shA_arr,List.length_map],rfl,by rw[hf id (by simp),h3];rfl,?_,?_,rfl⟩
   ·exact h4.map (shId_inj n) fun e d T' hr hs=>Row.sh hr fun i hi=>hf i (by simp[hs i hi])
   ·intro hm
    obtain⟨j,hj,he⟩:=List.mem_map.1 hm
    rw[shId_inj n _ _ he] at hj
    exact h5 hj
 | .a l,a,b,S,h,hf=>by
  simp only[Tr] at h ⊢
  obtain⟨as1,bs,rfl,rfl,h3⟩:=h
  exact⟨_,bs,shA_agg n as1,rfl,Row.sh h3 hf⟩
 | .t l,a,b,S,h,hf=>by
  simp only[Tr] at h ⊢
  obtain⟨as1,bs,rfl,rfl,h3⟩:=h
  exact⟨_,bs,shA_tup n as1,rfl,Row.sh h3 hf⟩
theorem Row.sh {H H2:Heap} {n:Nat}:∀ {l:List Sh} {as1 bs:List AVal} {S:List Id},Row H l as1 bs S→(∀ i ∈ S,H2 (shId n i)=(H i).map (shOb n))→Row H2 l (as1.map (shA n)) bs (S.map (shId n))
 | [],[],[],_,h,_=>by simp only[Row] at h ⊢;subst h;simp[Row]
 | h::l,_::_,_::_,_,hr,hf=>by
  simp only[Row] at hr
  obtain⟨S1,S2,h1,h2,rfl,h4⟩:=hr
  simp only[List.map_cons,Row]
  refine⟨S1.map (shId n),S2.map (shId n),h1.sh fun i hi=>hf i (by simp[hi]),Row.sh h2 fun i hi=>hf i (by simp[hi]),by simp,fun i hi hm=>?_⟩
  obtain⟨j,hj,rfl⟩:=List.mem_map.1 hi
  obtain⟨j2,hj2,he⟩:=List.mem_map.1 hm
  rw[shId_inj n _ _ he] at hj2
  exact h4 j hj hj2
 | [],[],_::_,_,h,_=>by simp[Row] at h
 | [],_::_,_,_,h,_=>by simp[Row] at h
 | _::_,[],_,_,h,_=>by simp[Row] at h
 | _::_,_::_,[],_,h,_=>by simp[Row] at h
end
theorem Row.len {H:Heap}:∀ {l:List Sh} {as1 bs:List AVal} {S:List Id},Row H l as1 bs S→as1.length=l.length∧bs.length=l.length
 | [],[],[],_,_=>⟨rfl,rfl⟩
 | _::_,_::_,_::_,_,h=>by
  simp only[Row] at h
  obtain⟨_,_,_,h2,_,_⟩:=h
  have:=Row.len h2
  simp[this.1,this.2]
 | [],[],_::_,_,h=>by simp[Row] at h
 | [],_::_,_,_,h=>by simp[Row] at h
 | _::_,[],_,_,h=>by simp[Row] at h
 | _::_,_::_,[],_,h=>by simp[Row] at h
theorem Row.append {H:Heap}:∀ {l m:List Sh} {as1 bs cs ds:List AVal} {S T:List Id},Row H l as1 bs S→Row H m cs ds T→(∀ i ∈ S,i ∉ T)→Row H (l++m) (as1++cs) (bs++ds) (S++T)
 | [],m,[],[],_,_,_,_,h,k,_=>by simp only[Row] at h;subst h;simpa using k
 | _::_,_,_::_,_::_,_,_,_,T,h,k,hd=>by
  simp only[Row] at h
  obtain⟨S1,S2,h1,h2,rfl,h4⟩:=h
  simp only[List.cons_append,Row]
  refine⟨S1,S2++T,h1,Row.append h2 k (fun i hi=>hd i (by simp[hi])),by simp,fun i hi hm=>?_⟩
  rcases List.mem_append.1 hm with hm | hm
  ·exact h4 i hi hm
  ·exact hd i (by simp[hi]) hm
 | [],_,[],_::_,_,_,_,_,h,_,_=>by simp[Row] at h
 | [],_,_::_,_,_,_,_,_,h,_,_=>by simp[Row] at h
 | _::_,_,[],_,_,_,_,_,h,_,_=>by simp[Row] at h
 | _::_,_,_::_,[],_,_,_,_,h,_,_=>by simp[Row] at h
theorem Row.split {H:Heap}:∀ {l m:List Sh} {as1 bs:List AVal} {S:List Id},Row H (l++m) as1 bs S→∃ a1 a2 b1 b2 S1 S2,as1=a1++a2∧bs=b1++b2∧Row H l a1 b1 S1∧Row H m a2 b2 S2∧S=S1++S2∧∀ i ∈ S1,i ∉ S2
 | [],m,as1,bs,S,h=>⟨[],as1,[],bs,[],S,rfl,rfl,by simp[Row],h,rfl,by simp⟩
 | x::l,m,a::as1,b::bs,S,h=>by
  simp only[List.cons_append,Row] at h
  obtain⟨S1,S2,h1,h2,rfl,h4⟩:=h
  obtain⟨a1,a2,b1,b2,T1,T2,rfl,rfl,p1,p2,rfl,p4⟩:=Row.split h2
  refine⟨a::a1,a2,b::b1,b2,S1++T1,T2,rfl,rfl,?_,p2,by simp,fun i hi hm=>?_⟩
  ·simp only[Row]
   exact⟨S1,T1,h1,p1,rfl,fun i hi hm=>h4 i hi (by simp[hm])⟩
  ·rcases List.mem_append.1 hi with hi | hi
   ·exact h4 i hi (by simp[hm])
   ·exact p4 i hi hm
 | _::_,_,[],_,_,h=>by simp[Row] at h
 | _::_,_,_::_,[],_,h=>by simp[Row] at h
end Go.Ab
/- The abstract machine, part Sq: what a call owns, told apart: lists of own values; appending, reading, storing, handing over. -/
namespace Go.Ab
set_option linter.unusedSectionVars false
variable [Inhabited Tabs]
set_option linter.unusedSectionVars false
set_option linter.unusedSimpArgs false
abbrev OwnE:=Sh × AVal × AVal
def Sep (H:Heap) (n:Nat) (K:List OwnE) (ids:List Id):Prop:=
 (∀ i ∈ ids,i.1<n)∧∃ S,Row H (K.map (·.1)) (K.map (·.2.1)) (K.map (·.2.2)) S∧∀ i ∈ S,i.1<n∧i ∉ ids
section
variable {H H':Heap} {n n':Nat} {K K1 K2:List OwnE} {ids ids':List Id}
theorem Sep.nil (h:∀ i ∈ ids,i.1<n):Sep H n [] ids:=⟨h,[],by simp[Row],by simp⟩
theorem Sep.split (h:Sep H n (K1++K2) ids):(∀ i ∈ ids,i.1<n)∧∃ S1 S2,Row H (K1.map (·.1)) (K1.map (·.2.1)) (K1.map (·.2.2)) S1∧Row H (K2.map (·.1)) (K2.map (·.2.1)) (K2.map (·.2.2)) S2∧(∀ i ∈ S1,i ∉ S2)∧(∀ i ∈ S1,i.1<n∧i ∉ ids)∧∀ i ∈ S2,i.1<n∧i ∉ ids:=by
 obtain⟨h0,S,h1,h2⟩:=h
 simp only[List.map_append] at h1
 obtain⟨a1,a2,b1,b2,S1,S2,e1,e2,p1,p2,rfl,p4⟩:=Row.split h1
 have l1:=p1.len
 have ha:K1.map (·.2.1)=a1∧K2.map (·.2.1)=a2:=List.append_inj e1 (by simpa using l1.1.symm)
 have hb:K1.map (·.2.2)=b1∧K2.map (·.2.2)=b2:=List.append_inj e2 (by simpa using l1.2.symm)
 rw[ha.1,ha.2,hb.1,hb.2]
 exact⟨h0,S1,S2,p1,p2,p4,fun i hi=>h2 i (by simp[hi]),fun i hi=>h2 i (by simp[hi])⟩
theorem Sep.join {S1 S2:List Id} (h0:∀ i ∈ ids,i.1<n) (p1:Row H (K1.map (·.1)) (K1.map (·.2.1)) (K1.map (·.2.2)) S1) (p2:Row H (K2.map (·.1)) (K2.map (·.2.1)) (K2.map (·.2.2)) S2) (hd:∀ i ∈ S1,i ∉ S2)
  (h1:∀ i ∈ S1,i.1<n∧i ∉ ids) (h2:∀ i ∈ S2,i.1<n∧i ∉ ids):Sep H n (K1++K2) ids:=
 ⟨h0,S1++S2,by simp only[List.map_append];exact p1.append p2 hd,fun i hi=>by
  rcases List.mem_append.1 hi with hi | hi
  ·exact h1 i hi
  ·exact h2 i hi⟩
theorem Sep.swap (h:Sep H n (K1++K2) ids):Sep H n (K2++K1) ids:=by
 obtain⟨h0,S1,S2,p1,p2,hd,q1,q2⟩:=h.split
 exact Sep.join h0 p2 p1 (fun i hi hm=>hd i hm hi) q2 q1
theorem Sep.left (h:Sep H n (K1++K2) ids):Sep H n K1 ids:=by
 obtain⟨h0,S1,S2,p1,p2,hd,q1,q2⟩:=h.split
 exact⟨h0,S1,p1,q1⟩
theorem Sep.right (h:Sep H n (K1++K2) ids):Sep H n K2 ids:=h.swap.left
theorem Sep.front {x:OwnE} (h:Sep H n (K1++x::K2) ids):Sep H n (x::(K1++K2)) ids:=by
 obtain⟨h0,S1,S2,p1,p2,hd,q1,q2⟩:=h.split
 simp only[List.map_cons,Row] at p2
 obtain⟨T1,T2,r1,r2,rfl,r4⟩:=p2
 refine⟨h0,T1++(S1++T2),?_,fun i hi=>?_⟩
 ·simp only[List.map_cons,List.map_append,Row]
  refine⟨T1,S1++T2,r1,p1.append r2 (fun i hi hm=>hd i hi (by simp[hm])),rfl,fun i hi hm=>?_⟩
  rcases List.mem_append.1 hm with hm | hm
  ·exact hd i hm (by simp[hi])
  ·exact r4 i hi hm
 ·simp only[List.mem_append] at hi
  rcases hi with hi | hi | hi
  ·exact q2 i (by simp[hi])
  ·exact q1 i hi
  ·exact q2 i (by simp[hi])
theorem Sep.keep (h:Sep H n K ids) (hn:n≤n') (hH:∀ i:Id,i.1<n→i ∉ ids→H' i=H i) (hi:∀ i ∈ ids',(i ∈ ids∨n≤i.1)∧i.1<n'):Sep H' n' K ids':=by
 obtain⟨_,S,h1,h2⟩:=h
 refine⟨fun i h=>(hi i h).2,S,h1.frame fun i hs=>hH i (h2 i hs).1 (h2 i hs).2,fun i hs=>⟨by have:=(h2 i hs).1;omega,fun hm=>?_⟩⟩
 rcases (hi i hm).1 with h | h
 ·exact (h2 i hs).2 h
 ·have:=(h2 i hs).1;omega
theorem Sep.scalar {v:AVal} {x:Value} (h:Sep H n ((.c,v,.v x)::K) ids):v = .v x∧Sep H n K ids:=by
 obtain⟨h0,S,h1,h2⟩:=h
 simp only[List.map_cons,Row,Tr] at h1
 obtain⟨S1,S2,⟨e1,_,rfl⟩,p2,rfl,_⟩:=h1
 exact⟨e1,h0,_,p2,fun i hi=>h2 i (by simpa using hi)⟩
theorem Sep.addScalar (x:Value) (h:Sep H n K ids):Sep H n ((.c,.v x,.v x)::K) ids:=by
 obtain⟨h0,S,h1,h2⟩:=h
 exact⟨h0,S,by simp only[List.map_cons,Row,Tr];exact⟨[],S,⟨by trivial,.v x,rfl⟩,h1,rfl,by simp⟩,h2⟩
theorem Sep.form {l:List Sh} {v e:AVal} (h:Sep H n ((.s l,v,e)::K) ids):one1 v=true∧∃ es,e = .list true es∧((v = .v (.slice none 0 0)∧es=[])∨∃ id els,v = .arr id es.length 0 es.length∧els.length=es.length∧H id=some ⟨l.length,els⟩∧id.1<n∧id ∉ ids):=by
 obtain⟨h0,S,h1,h2⟩:=h
 simp only[List.map_cons,Row,Tr] at h1
 obtain⟨S1,S2,h3,_,rfl,_⟩:=h1
 rcases h3 with ⟨rfl,rfl,rfl⟩ | ⟨id,els,es,T,rfl,rfl,p3,p4,p5,rfl⟩
 ·exact⟨rfl,[],rfl,.inl ⟨rfl,rfl⟩⟩
 ·have hl:=p4.len
  exact⟨rfl,es,rfl,.inr ⟨id,els,by rw[hl],hl,p3,(h2 id (by simp)).1,(h2 id (by simp)).2⟩⟩
inductive Fill:List Sh→List OwnE→List AVal→List AVal→Prop
 | nil:Fill [] [] [] []
 | v {l:List Sh} {K:List OwnE} {as1 bs:List AVal} (x:Value) (h:Fill l K as1 bs):Fill (.c::l) K (.v x::as1) (.v x::bs)
 | i {l:List Sh} {K:List OwnE} {as1 bs:List AVal} {a:AVal} (hF:Fresh a) (h:Fill l K as1 bs):Fill (.c::l) K (a::as1) (a::bs)
 | own {l:List Sh} {K:List OwnE} {as1 bs:List AVal} {t:Sh} {a b:AVal} (h:Fill l K as1 bs):Fill (t::l) ((t,a,b)::K) (a::as1) (b::bs)
theorem Fill.row {l:List Sh} {as1 bs:List AVal} (h:Fill l K as1 bs):∀ {S:List Id},Row H (K.map (·.1)) (K.map (·.2.1)) (K.map (·.2.2)) S→Row H l as1 bs S:=by
 induction h with
 | nil=>intro S h;simpa using h
 | v x _ ih=>intro S h;simp only[Row,Tr];exact⟨[],S,⟨by trivial,.v x,rfl⟩,ih h,rfl,by simp⟩
 | i hF _ ih=>intro S h;simp only[Row,Tr];exact⟨[],S,⟨by trivial,hF,rfl⟩,ih h,rfl,by simp⟩
 | own _ ih=>
  intro S h
  simp only[List.map_cons,Row] at h ⊢
  obtain⟨S1,S2,h1,h2,h3,h4⟩:=h
  exact⟨S1,S2,h1,ih h2,h3,h4⟩
theorem Row.fill {l:List Sh} {as1 bs:List AVal} {S:List Id} (h:Row H l as1 bs S) (hf:∀ t ∈ l,t = .c):as1=bs∧S=[]∧∀ a ∈ as1,Fresh a:=by
 induction l generalizing as1 bs S with
 | nil=>
  match as1,bs,h with
  | [],[],h=>simp only[Row] at h;exact⟨rfl,h,by simp⟩
  | [],_::_,h=>simp[Row] at h
  | _::_,_,h=>simp[Row] at h
 | cons t l ih=>
  match as1,bs,h with
  | a::as1,b::bs,h=>
   obtain rfl:=hf t (by simp)
   simp only[Row,Tr] at h
   obtain⟨S1,S2,⟨rfl,hF,rfl⟩,h2,rfl,_⟩:=h
   obtain⟨rfl,rfl,h3⟩:=ih h2 (fun t ht=>hf t (by simp[ht]))
   refine⟨rfl,rfl,fun a ha=>?_⟩
   rcases List.mem_cons.1 ha with rfl | ha
   ·exact hF
   ·exact h3 a ha
  | [],_,h=>simp[Row] at h
  | _::_,[],h=>simp[Row] at h
theorem rowsP.fresh {l:List Sh} {es:List (List AVal)} (h:∀ e ∈ es,e.length=l.length∧∀ a ∈ e,Fresh a) (hf:∀ t ∈ l,t = .c):rowsP (Row H l) es es []:=by
 induction es with
 | nil=>rfl
 | cons e es ih=>
  refine⟨[],[],?_,ih fun f hf=>h f (by simp[hf]),rfl,by simp⟩
  obtain⟨h1,h2⟩:=h e (by simp)
  clear ih h
  induction l generalizing e with
  | nil=>cases e with
   | nil=>simp[Row]
   | cons=>simp at h1
  | cons t l ih=>
   cases e with
   | nil=>simp at h1
   | cons a e=>
    obtain rfl:=hf t (by simp)
    have ha:=h2 a (by simp)
    simp only[Row,Tr]
    exact⟨[],[],⟨by trivial,ha,rfl⟩,ih (fun t ht=>hf t (by simp[ht])) e (by simpa using h1) (fun a ha=>h2 a (by simp[ha])),rfl,by simp⟩
theorem rowsP.flats {l:List Sh} {es:List (List AVal)} (h:∀ e ∈ es,e.length=l.length∧∀ a ∈ e,flat a=true) (hf:∀ t ∈ l,t = .c):rowsP (Row H l) es es []:=rowsP.fresh (fun e he=>⟨(h e he).1,fun a ha=>Fresh.flat ((h e he).2 a ha)⟩) hf
end
section
variable {H:Heap} {n:Nat} {K K1 K2:List OwnE} {ids:List Id} {Ty:Types} {t:TypeId} {j:TI} {l:List Sh} {v:AVal} {es:List (List AVal)}
theorem Sep.append {d:Nat} {x:AVal} {add adds:List (List AVal)} (h:Sep H n ((.s l,v,.list true es)::(K1++K2)) ids) (hk:kd Ty t = .slice j) (hj:j.size=l.length) (hz:j.zero.length=j.size∧j.bytes≤131072)
  (hx:srcOf H x=some add) (ho:add.all (fun e=>e.all one1)=true) (hadd:∀ S,Row H (K1.map (·.1)) (K1.map (·.2.1)) (K1.map (·.2.2)) S→rowsP (Row H l) add adds S) (hne:adds ≠ []) (hlen:es.length+adds.length≤1073741824) :
  ∃ v' H' n',appendF Ty (some d) t v x H n=some (v',H',n')∧Sep H' n' ((.s l,v',.list true (es++adds))::K2) ids∧(∀ i ∈ ids,H' i=H i)∧n≤n':=by
 obtain⟨h0,S,h1,h2⟩:=h
 simp only[List.map_cons,Row] at h1
 obtain⟨T1,T2,r1,r2,rfl,r4⟩:=h1
 simp only[List.map_append] at r2
 obtain⟨a1,a2,b1,b2,U1,U2,e1,e2,p1,p2,rfl,p4⟩:=Row.split r2
 have l1:=p1.len
 have ha:K1.map (·.2.1)=a1∧K2.map (·.2.1)=a2:=List.append_inj e1 (by simpa using l1.1.symm)
 have hb:K1.map (·.2.2)=b1∧K2.map (·.2.2)=b2:=List.append_inj e2 (by simpa using l1.2.symm)
 obtain⟨rfl,rfl⟩:=ha
 obtain⟨rfl,rfl⟩:=hb
 have hr:=hadd _ p1
 have hal:=hr.len
 have hsz:add.all (fun e=>e.length == j.size)=true:=by
  rw[List.all_eq_true]
  intro e he
  have:∀ {as1 bs:List (List AVal)} {S:List Id},rowsP (Row H l) as1 bs S→∀ e ∈ as1,e.length=l.length:=by
   intro as1
   induction as1 with
   | nil=>intro _ _ _ e he;cases he
   | cons a as1 ih=>
    intro bs S hr e he
    match bs,hr with
    | b::bs,⟨_,_,q1,q2,_,_⟩=>
     rcases List.mem_cons.1 he with rfl | he
     ·exact q1.len.1
     ·exact ih q2 e he
    | [],hr=>exact hr.elim
  simp[this hr e he,hj]
 simp only[Tr] at r1
 have hadd0:add.length ≠ 0:=by
  rw[hal]
  intro h
  exact hne (List.eq_nil_of_length_eq_zero h)
 rcases r1 with ⟨rfl,he,rfl⟩ | ⟨id,els,es',T,rfl,he,q3,q4,q5,rfl⟩
 ·injection he with _ he
  subst he
  refine⟨.arr (n,d) add.length 0 add.length,H.set (n,d) ⟨j.size,add⟩,n+1,?_,?_,fun i hi=>?_,by omega⟩
  ·simp only[appendF,hk,hx]
   rw[if_pos ⟨hz.1,hz.2,hsz,ho⟩,if_neg hadd0,if_pos (by rw[hal];simpa using hlen)]
  ·have hnew:∀ i ∈ U1++U2,i ≠ (n,d):=fun i hi he=>by
    have:=(h2 i (by simpa using hi)).1
    rw[he] at this
    simp at this
   refine⟨fun i hi=>by have:=h0 i hi;omega,(n,d)::U1++U2,?_,fun i hi=>?_⟩
   ·simp only[List.map_cons,Row,Tr]
    refine⟨(n,d)::U1,U2,.inr ⟨(n,d),add,adds,U1,rfl,by simp,by simp[Heap.get_set,hj],?_,fun hm=>hnew _ (by simp[hm]) rfl,rfl⟩,p2.frame fun i hi=>?_,rfl,fun i hi hm=>?_⟩
    ·exact hr.mono fun e f T' hr hs=>hr.frame fun i hi=>Heap.get_set_ne _ _ (hnew i (by simp[hs i hi]))
    ·exact Heap.get_set_ne _ _ (hnew i (by simp[hi]))
    ·rcases List.mem_cons.1 hi with rfl | hi
     ·exact hnew _ (by simp[hm]) rfl
     ·exact p4 i hi hm
   ·simp only[List.cons_append,List.mem_cons] at hi
    rcases hi with rfl | hi
    ·exact⟨by simp,fun hm=>by have:=h0 _ hm;simp at this⟩
    ·have:=h2 i (by simpa using hi)
     exact⟨by omega,this.2⟩
  ·refine Heap.get_set_ne _ _ fun he=>?_
   have:=h0 i hi
   rw[he] at this
   simp at this
 ·injection he with _ he
  subst he
  have hel:=q4.len
  refine⟨.arr id (els.length+add.length) 0 (els.length+add.length),H.set id ⟨j.size,els++add⟩,n,?_,?_,fun i hi=>?_,Nat.le_refl _⟩
  ·simp only[appendF,hk,hx]
   rw[if_pos ⟨hz.1,hz.2,hsz,ho⟩]
   simp only[live,q3,↓reduceIte]
   rw[if_pos ⟨trivial,trivial,hj.symm,by rw[hel,hal];exact hlen⟩]
  ·have hnid:∀ i ∈ U1++U2,i ≠ id:=fun i hi he=>by
    subst he
    exact r4 i (by simp) (by simpa using hi)
   have hnT:∀ i ∈ T,i ≠ id:=fun i hi he=>by subst he;exact q5 hi
   refine⟨h0,(id::(T++U1))++U2,?_,fun i hi=>h2 i ?_⟩
   ·simp only[List.map_cons,Row,Tr]
    refine⟨id::(T++U1),U2,.inr ⟨id,els++add,es++adds,T++U1,by simp,rfl,by simp[Heap.get_set,hj],?_,fun hm=>?_,rfl⟩,p2.frame fun i hi=>?_,rfl,fun i hi hm=>?_⟩
    ·refine rowsP.append (q4.mono fun e f T' hr hs=>hr.frame fun i hi=>Heap.get_set_ne _ _ (hnT i (hs i hi))) (hr.mono fun e f T' hr hs=>hr.frame fun i hi=>Heap.get_set_ne _ _ (hnid i (by simp[hs i hi]))) (fun i hi hm=>r4 i (by simp[hi]) (by simp[hm]))
    ·rcases List.mem_append.1 hm with hm | hm
     ·exact q5 hm
     ·exact hnid id (by simp[hm]) rfl
    ·exact Heap.get_set_ne _ _ (hnid i (by simp[hi]))
    ·rcases List.mem_cons.1 hi with rfl | hi
     ·exact hnid i (by simp[hm]) rfl
     ·rcases List.mem_append.1 hi with hi | hi
      ·exact r4 i (by simp[hi]) (by simp[hm])
      ·exact p4 i hi hm
   ·simp only[List.cons_append,List.mem_cons,List.mem_append] at hi ⊢
    rcases hi with h | (h | h) | h<;>simp[h]
  ·refine Heap.get_set_ne _ _ fun he=>?_
   subst he
   exact (h2 i (by simp)).2 hi
end
end Go.Ab
/- The abstract machine, part Sr: contracts of functions whose results the caller owns, and of those that turn what a caller owns. -/
namespace Go.Ab
set_option linter.unusedSectionVars false
variable [Inhabited Tabs]
set_option linter.unusedSectionVars false
set_option linter.unusedSimpArgs false
def OwnS (P:Program) (f:FuncId) (args:List AVal) (h:Sh) (R:AVal→Prop):Prop:=CallsA P f args noHeap 0 fun v H n=>∃ r,Sep H n [(h,v,r)] []∧R r
theorem OwnS.mono {P:Program} {f:FuncId} {args:List AVal} {h:Sh} {R R':AVal→Prop} (hc:OwnS P f args h R) (hr:∀ r,R r→R' r):OwnS P f args h R':=by
 unfold OwnS at *
 exact CallsA.mono hc fun _ _ _ ⟨r,h1,h2⟩=>⟨r,h1,hr r h2⟩
section
variable {H:Heap} {n:Nat} {K:List OwnE} {ids:List Id} {h:Sh} {v r:AVal}
theorem Sep.tr (hs:Sep H n ((h,v,r)::K) ids):∃ S,Tr H h v r S:=by
 obtain⟨_,S,h1,_⟩:=hs
 simp only[List.map_cons,Row] at h1
 obtain⟨S1,_,h1,_⟩:=h1
 exact⟨S1,h1⟩
theorem Sep.ret (hs:Sep H n ((h,v,r)::K) ids):Ret H v r:=by
 obtain⟨S,h1⟩:=hs.tr
 exact h1.own.ret
theorem Sep.pack {l:List Sh} {K1:List OwnE} {as1 bs:List AVal} (hf:Fill l K1 as1 bs) (hs:Sep H n (K1++K) ids):Sep H n ((.a l,.agg as1,.agg bs)::K) ids:=by
 obtain⟨h0,S1,S2,p1,p2,hd,q1,q2⟩:=hs.split
 refine⟨h0,S1++S2,?_,fun i hi=>?_⟩
 ·simp only[List.map_cons,Row,Tr]
  exact⟨S1,S2,⟨as1,bs,rfl,rfl,hf.row p1⟩,p2,rfl,hd⟩
 ·rcases List.mem_append.1 hi with hi | hi
  ·exact q1 i hi
  ·exact q2 i hi
theorem Sep.packT {l:List Sh} {K1:List OwnE} {as1 bs:List AVal} (hf:Fill l K1 as1 bs) (hs:Sep H n (K1++K) ids):Sep H n ((.t l,.tup as1,.tup bs)::K) ids:=by
 obtain⟨h0,S1,S2,p1,p2,hd,q1,q2⟩:=hs.split
 refine⟨h0,S1++S2,?_,fun i hi=>?_⟩
 ·simp only[List.map_cons,Row,Tr]
  exact⟨S1,S2,⟨as1,bs,rfl,rfl,hf.row p1⟩,p2,rfl,hd⟩
 ·rcases List.mem_append.1 hi with hi | hi
  ·exact q1 i hi
  ·exact q2 i hi
def zip3:List Sh→List AVal→List AVal→List OwnE
 | h::l,a::as1,b::bs=>(h,a,b)::zip3 l as1 bs
 | _,_,_=>[]
theorem zip3_maps:∀ {l:List Sh} {as1 bs:List AVal},as1.length=l.length→bs.length=l.length→(zip3 l as1 bs).map (·.1)=l∧(zip3 l as1 bs).map (·.2.1)=as1∧(zip3 l as1 bs).map (·.2.2)=bs
 | [],[],[],_,_=>⟨rfl,rfl,rfl⟩
 | h::l,a::as1,b::bs,h1,h2=>by
  obtain⟨p,q,r⟩:=zip3_maps (l:=l) (as1:=as1) (bs:=bs) (by simpa using h1) (by simpa using h2)
  simp[zip3,p,q,r]
 | [],[],_::_,_,h=>by simp at h
 | [],_::_,_,h,_=>by simp at h
 | _::_,[],_,h,_=>by simp at h
 | _::_,_::_,[],_,h=>by simp at h
theorem Sep.unrow {l:List Sh} {bs:List AVal} {S1 S2:List Id} {as1:List AVal} (h0:∀ i ∈ ids,i.1<n) (p1:Row H l as1 bs S1) (p2:Row H (K.map (·.1)) (K.map (·.2.1)) (K.map (·.2.2)) S2) (hd:∀ i ∈ S1,i ∉ S2) (hS:∀ i ∈ S1++S2,i.1<n∧i ∉ ids) :
  Sep H n (zip3 l as1 bs++K) ids:=by
 obtain⟨e1,e2⟩:=p1.len
 obtain⟨z1,z2,z3⟩:=zip3_maps e1 e2
 refine Sep.join h0 (S1:=S1) (S2:=S2) ?_ p2 hd (fun i hi=>hS i (by simp[hi])) (fun i hi=>hS i (by simp[hi]))
 rw[z1,z2,z3]
 exact p1
theorem Sep.unpack {l:List Sh} {bs:List AVal} (hs:Sep H n ((.a l,v,.agg bs)::K) ids):∃ as1,v = .agg as1∧as1.length=l.length∧Sep H n (zip3 l as1 bs++K) ids:=by
 obtain⟨h0,S,h1,h2⟩:=hs
 simp only[List.map_cons,Row,Tr] at h1
 obtain⟨S1,S2,⟨as1,bs',rfl,hb,p1⟩,p2,rfl,p4⟩:=h1
 cases hb
 exact⟨as1,rfl,p1.len.1,Sep.unrow h0 p1 p2 p4 h2⟩
theorem Sep.unpackT {l:List Sh} {bs:List AVal} (hs:Sep H n ((.t l,v,.tup bs)::K) ids):∃ as1,v = .tup as1∧as1.length=l.length∧Sep H n (zip3 l as1 bs++K) ids:=by
 obtain⟨h0,S,h1,h2⟩:=hs
 simp only[List.map_cons,Row,Tr] at h1
 obtain⟨S1,S2,⟨as1,bs',rfl,hb,p1⟩,p2,rfl,p4⟩:=h1
 cases hb
 exact⟨as1,rfl,p1.len.1,Sep.unrow h0 p1 p2 p4 h2⟩
theorem Sep.addNil {l:List Sh} (hs:Sep H n K ids):Sep H n ((.s l,.v (.slice none 0 0),.list true [])::K) ids:=by
 obtain⟨h0,S,h1,h2⟩:=hs
 exact⟨h0,S,by simp only[List.map_cons,Row,Tr];exact⟨[],S,.inl ⟨trivial,trivial,rfl⟩,h1,rfl,by simp⟩,h2⟩
theorem Sep.addNew {l:List Sh} {d:Nat} {els es:List (List AVal)} (hs:Sep H n K ids) (hl:rowsP (Row (H.set (n,d) ⟨l.length,els⟩) l) els es []):Sep (H.set (n,d) ⟨l.length,els⟩) (n+1) ((.s l,.arr (n,d) els.length 0 els.length,.list true es)::K) ids:=by
 obtain⟨h0,S,h1,h2⟩:=hs
 have hne:∀ i ∈ S,i ≠ (n,d):=fun i hi he=>by have:=(h2 i hi).1;rw[he] at this;simp at this
 refine⟨fun i hi=>by have:=h0 i hi;omega,(n,d)::S,?_,fun i hi=>?_⟩
 ·simp only[List.map_cons,Row,Tr]
  refine⟨[(n,d)],S,.inr ⟨(n,d),els,es,[],rfl,rfl,by simp[Heap.get_set],hl,by simp,rfl⟩,h1.frame fun i hi=>Heap.get_set_ne _ _ (hne i hi),rfl,fun i hi hm=>?_⟩
  simp at hi
  exact hne i hm hi
 ·rcases List.mem_cons.1 hi with rfl | hi
  ·exact⟨by simp,fun hm=>by have:=h0 _ hm;simp at this⟩
  ·have:=h2 i hi
   exact⟨by omega,this.2⟩
end
theorem OwnS.pure {P:Program} {f:FuncId} {args:List AVal} {h:Sh} {R:AVal→Prop} (hc:OwnS P f args h R):PureC P f args R:=by
 unfold OwnS at hc
 exact CallsA.mono hc fun _ _ _ ⟨r,h1,hR⟩=>⟨r,.of h1.ret,hR⟩
theorem OpSem.callW {P:Program} {N:Nat} {d:Option Tmp} {g:Operand} {args:Array Operand} {ats:Array TypeId} {ty:TypeId} {pos:String} {af:Array Edge} {gu:Option (Nat × Bool)} {ρ:Env} {H:Heap} {n:Nat} {R:AVal→Prop} {K:List OwnE} {ids:List Id}
  {f:FuncId} {args':List AVal} {sh:Sh} (hg:ρ.ev g = .fn (.func f) [] []) (hent:Ent P f) (ha:ArgsOk H n (args.toList.map ρ.ev) args') (h:OwnS P f args' sh R) (hs:Sep H n K ids) :
  OpSem P N ⟨d,.call ⟨.value g,args,ats⟩,ty,pos,af,gu⟩ ρ H n fun v1 H1 n1=>∃ r,Sep H1 n1 ((sh,v1,r)::K) ids∧R r∧n≤n1∧∀ i ∈ ids,H1 i=H i:=by
 classical
 refine OpSem.call hg hent ?_
 intro c xs hH hn gd hl
 simp only[List.nil_append,List.append_nil] at hl
 have hb:Good ⟨c.w.heap.size,fun _=>0,noHeap,0,c.w⟩:=good_bare c.w gd.tabUp
 obtain⟨hlen,hget⟩:=ha.get
 have hrep:RepL ⟨c.w.heap.size,fun _=>0,noHeap,0,c.w⟩ args' xs:=by
  refine⟨by rw[← hlen];exact hl.1,fun i b x hb' hx=>?_⟩
  have hi:=(List.getElem?_eq_some_iff.1 hb').1
  have ha':(args.toList.map ρ.ev)[i]?=some ((args.toList.map ρ.ev)[i]'(by omega)):=List.getElem?_eq_getElem (by omega)
  exact hget i _ b ha' hb' c x hH hn gd (hl.2 i _ x ha' hx) _ rfl (fun _=>rfl)
 refine (h _ xs rfl rfl hb hrep).mono ?_
 rintro e w' ⟨x,v,c1,he,hw,⟨r,hsep,hR⟩,hrv,hg1,hk⟩
 subst hw
 obtain⟨_,S,h1,h2⟩:=hsep
 simp only[List.map_cons,List.map_nil,Row] at h1
 obtain⟨S1,S2,hT,hS2,rfl,_⟩:=h1
 subst hS2
 simp only[List.append_nil] at h2
 have hO:=hT.own
 have hKS:∀ i:Id,(fun i:Id=>decide (i ∈ S1)) i=true↔i ∈ S1:=fun i=>by simp
 have hcl:Closed c1.H fun i=>decide (i ∈ S1):=fun id o ho hK e he a ha=>(hO.cells id o ho ((hKS id).1 hK) e he a ha).mono fun i hi=>(hKS i).2 hi
 obtain⟨c2,e1,e2,e3,g2,k2,r2⟩:=take_over gd hg1 hk hcl
 subst hH hn
 have hT2:Tr c2.H sh (shA c.n v) r (S1.map (shId c.n)):=hT.sh fun i hi=>by rw[e1,merge_sh ((hKS i).2 hi)]
 have hlow:∀ i:Id,i.1<c.n→c2.H i=c.H i:=fun i hi=>by rw[e1,merge_lt hi]
 obtain⟨h0,S,p1,p2⟩:=hs
 have hst:∀ i ∈ S1.map (shId c.n),c.n≤i.1∧i.1<c2.n:=fun i hi=>by
  obtain⟨o,ho⟩:=hT2.has i hi
  refine⟨?_,g2.stamp i o ho⟩
  obtain⟨j,_,rfl⟩:=List.mem_map.1 hi
  simp[shId]
 have hn2:c.n≤c2.n:=by rw[e2];omega
 refine⟨x,shA c.n v,c2,he,e3,⟨r,⟨fun i hi=>by have:=h0 i hi;omega,S1.map (shId c.n)++S,?_,fun i hi=>?_⟩,hR,hn2,fun i hi=>hlow i (h0 i hi)⟩,r2 v x hrv (hO.mv.mono fun i hi=>(hKS i).2 hi),g2,k2⟩
 ·simp only[List.map_cons,Row]
  refine⟨_,S,hT2,p1.frame fun i hi=>hlow i (p2 i hi).1,rfl,fun i hi hm=>?_⟩
  have:=(hst i hi).1
  have:=(p2 i hm).1
  omega
 ·rcases List.mem_append.1 hi with hi | hi
  ·have:=hst i hi
   exact⟨this.2,fun hm=>by have:=h0 i hm;omega⟩
  ·have:=p2 i hi
   exact⟨by omega,this.2⟩
def PostS (h:Sh) (R:AVal→Prop) (Q:AVal→Heap→Nat→Prop):Prop:=∀ v H n r,Sep H n [(h,v,r)] []→R r→Q v H n
theorem OwnS.of {P:Program} {f:FuncId} {fn:Func} {body:Code} {args:List AVal} {R:AVal→Prop} {N:Nat} {h:Sh} (hfn:P.funcs[f]?=some fn) (hb:fn.body=some body) (hn:fn.ntmps=N) (hN:args.length≤N)
  (hq:∀ Q,PostS h R Q→Runs P f N [.code body] (argEnv args) noHeap 0 Q):OwnS P f args h R:=by
 subst hn
 exact CallsA.of_runs hfn hb hN (hq (fun v H n=>∃ r,Sep H n [(h,v,r)] []∧R r) fun v H n r h1 h2=>⟨r,h1,h2⟩)
section
variable {P:Program} {f:FuncId} {N:Nat} {k:List Item} {Q:AVal→Heap→Nat→Prop} {Ty:Types} {l:List Oper} {ρ:Env} {H:Heap} {n:Nat} {K:List OwnE} {ids:List Id}
theorem RunK.callW (hT:TypesOk P Ty) {d:Option Tmp} {g:Operand} {args:Array Operand} {ats:Array TypeId} {ty:TypeId} {pos:String} {af:Array Edge} {R:AVal→Prop} {f':FuncId} {as1 args':List AVal} {ops:List Oper} {sh:Sh}
  (h:OwnS P f' args' sh R) (hent:Ent P f') (ha:ArgsOk H n as1 args') (hs:Sep H n K ids)
  (hN:ops.all (fun o=>dok N o.dst)=true) (hl:(⟨d,.call ⟨.value g,args,ats⟩,ty,pos,af,none⟩::l:List Oper).all (fun o=>dok N o.dst)=true) (hg:ρ.ev g = .fn (.func f') [] []) (has:args.toList.map ρ.ev=as1)
  (hk:∀ v H1 n1 r,Sep H1 n1 ((sh,v,r)::K) ids→R r→n≤n1→(∀ i ∈ ids,H1 i=H i)→evalK P f N k Q Ty ops.toArray l (ρ.put d v) H1 n1) :
  RunK P f N k Q ops.toArray (⟨d,.call ⟨.value g,args,ats⟩,ty,pos,af,none⟩::l) ρ H n:=
 RunK.op hT hN hl rfl (OpSem.callW hg hent (has ▸ ha) h hs) fun v H' n' ⟨r,h1,h2,h3,h4⟩=>hk v H' n' r h1 h2 h3 h4
end
end Go.Ab
/- The abstract machine, part Ss: own values in a walk by program. -/
namespace Go.Ab
set_option linter.unusedSectionVars false
variable [Inhabited Tabs]
set_option linter.unusedSectionVars false
set_option linter.unusedSimpArgs false
section
variable {H H':Heap} {n n':Nat} {K K1 K2:List OwnE} {ids ids':List Id}
theorem Sep.keep' (h:Sep H n K ids) (hn:n≤n') (hH:∀ i:Id,i.1<n→i ∉ ids→H' i=H i) (hi:∀ i ∈ ids',i ∈ ids∨(n≤i.1∧i.1<n')):Sep H' n' K ids':=
 h.keep hn hH fun i hi'=>(hi i hi').elim (fun h2=>⟨.inl h2,by have:=h.1 i h2;omega⟩) fun h2=>⟨.inr h2.1,h2.2⟩
theorem keep_set {w:Id} {o:Ob} (h:∀ i:Id,i.1<n→i ∉ ids→H' i=H i) (hw:w ∈ ids∨n≤w.1):∀ i:Id,i.1<n→i ∉ ids→(H'.set w o) i=H i:=fun i h1 h2=>by
 rw[Heap.get_set_ne _ _ (by rintro rfl;rcases hw with hw | hw;exact h2 hw;omega)]
 exact h i h1 h2
theorem Sep.var {d:Nat} {o:Ob} (h:Sep H n K ids):Sep (H.set (n,d) o) (n+1) K ((n,d)::ids):=
 h.keep' (Nat.le_succ n) (keep_set (fun _ _ _=>rfl) (.inr (Nat.le_refl _))) fun i hi=>by
  rcases List.mem_cons.1 hi with rfl | hi
  ·exact .inr ⟨Nat.le_refl _,Nat.lt_succ_self _⟩
  ·exact .inl hi
theorem Sep.setVar {w:Id} {o:Ob} (h:Sep H n K ids) (hw:w ∈ ids):Sep (H.set w o) n K ids:=
 h.keep' (Nat.le_refl n) (keep_set (fun _ _ _=>rfl) (.inl hw)) fun _ hi=>.inl hi
theorem Sep.sub (h:Sep H n K ids) (hi:∀ i ∈ ids',i ∈ ids):Sep H n K ids':=h.keep' (Nat.le_refl n) (fun _ _ _=>rfl) fun i h=>.inl (hi i h)
theorem Sep.addEmpty {l:List Sh} {d:Nat} (hs:Sep H n K ids):Sep (H.set (n,d) ⟨l.length,[]⟩) (n+1) ((.s l,.arr (n,d) 0 0 0,.list true [])::K) ids:=Sep.addNew (els:=[]) (es:=[]) hs rfl
theorem Sep.rot {x:OwnE} (h:Sep H n (x::K) ids):Sep H n (K++[x]) ids:=Sep.swap (K1:=[x]) h
theorem Sep.openF {l:List Sh} {v:AVal} {i:Int} {α:Type} {f:α→List AVal} {xs:List α} (h:Sep H n ((.s l,v,.list true (xs.map f))::K) ids) (hf:∀ t ∈ l,t = .c) (hb:0≤i∧i<xs.length) :
  ∃ id,v = .arr id xs.length 0 xs.length∧H id=some ⟨l.length,xs.map f⟩∧id.1<n∧id ∉ ids:=by
 obtain⟨h0,S,h1,h2⟩:=h
 simp only[List.map_cons,Row,Tr] at h1
 obtain⟨S1,S2,h3,_,rfl,_⟩:=h1
 rcases h3 with ⟨_,e,_⟩ | ⟨id,els,es',T,rfl,he,q3,q4,q5,rfl⟩
 ·injection e with _ e
  have:xs=[]:=by simpa using e
  subst this
  simp at hb;omega
 ·injection he with _ he
  subst he
  have hel:els=xs.map f:=by
   have:∀ {as1 bs:List (List AVal)} {S:List Id},rowsP (Row H l) as1 bs S→as1=bs:=by
    intro as1
    induction as1 with
    | nil=>intro bs S hr;match bs,hr with
     | [],_=>rfl
     | _::_,hr=>exact hr.elim
    | cons a as1 ih=>
     intro bs S hr
     match bs,hr with
     | b::bs,⟨_,_,q1,q2,_,_⟩=>rw[(q1.fill hf).1,ih q2]
     | [],hr=>exact hr.elim
   exact this q4
  subst hel
  exact⟨id,by simp,q3,(h2 id (by simp)).1,(h2 id (by simp)).2⟩
theorem Sep.len {Ty:Types} {t:TypeId} {j:TI} {l:List Sh} {v:AVal} {es:List (List AVal)} {m:Int} (h:Sep H n ((.s l,v,.list true es)::K) ids) (hk:kd Ty t = .slice j) (hm:m=(es.length:Int)):lenF Ty H t v=some (int m):=by
 obtain⟨_,es',he,hv⟩:=h.form
 injection he with _ he
 subst he hm
 rcases hv with ⟨rfl,rfl⟩ | ⟨id,els,rfl,hl,hH,_⟩
 ·simp[lenF,hk]
 ·simp[lenF,hk,live,hH,hl]
theorem Sep.cells {l:List Sh} {v e:AVal} (h:Sep H n ((.s l,v,e)::K) ids):cellsA v=some [v]:=by
 obtain⟨_,es,_,hv⟩:=h.form
 rcases hv with ⟨rfl,_⟩ | ⟨id,els,rfl,_⟩<;>rfl
theorem Sep.one1 {l:List Sh} {v e:AVal} (h:Sep H n ((.s l,v,e)::K) ids):Ab.one1 v=true:=h.form.1
end
section
variable {P:Program} {f f':FuncId} {N:Nat} {k:List Item} {Q:AVal→Heap→Nat→Prop} {Ty:Types} {ops:Array Oper} {L:List Oper} {ρ:Env} {H:Heap} {n:Nat} {K1 K2:List OwnE} {ids:List Id} {t:TypeId} {j:TI} {l:List Sh} {v:AVal} {es:List (List AVal)} {o:Oper}
theorem bind_append {d:Nat} {x:AVal} (K1 K2:List OwnE) (add adds:List (List AVal)) (h:Sep H n ((.s l,v,.list true es)::(K1++K2)) ids) (hk:kd Ty t = .slice j) (hj:j.size=l.length) (hz:j.zero.length=j.size∧j.bytes≤131072)
  (hx:srcOf H x=some add) (ho:add.all (fun e=>e.all Ab.one1)=true) (hadd:∀ S,Row H (K1.map (·.1)) (K1.map (·.2.1)) (K1.map (·.2.2)) S→rowsP (Row H l) add adds S) (hne:adds ≠ []) (hlen:es.length+adds.length≤1073741824)
  (hc:∀ v' H' n',Sep H' n' ((.s l,v',.list true (es++adds))::K2) ids→(∀ i ∈ ids,H' i=H i)→n≤n'→evalK P f N k Q Ty ops L (ρ.put o.dst v') H' n'):bindE P f N k Q Ty ops (appendF Ty (some d) t v x H n) o L ρ H n:=by
 obtain⟨v',H',n',h1,h2,h3,h4⟩:=Sep.append (d:=d) h hk hj hz hx ho hadd hne hlen
 rw[h1,bindE_some]
 exact hc v' H' n' h2 h3 h4
theorem bindD_append {κ:Op→Nat} {d:Nat} {x:AVal} (K1 K2:List OwnE) (add adds:List (List AVal)) (h:Sep H n ((.s l,v,.list true es)::(K1++K2)) ids) (hk:kd Ty t = .slice j) (hj:j.size=l.length) (hz:j.zero.length=j.size∧j.bytes≤131072)
  (hx:srcOf H x=some add) (ho:add.all (fun e=>e.all Ab.one1)=true) (hadd:∀ S,Row H (K1.map (·.1)) (K1.map (·.2.1)) (K1.map (·.2.2)) S→rowsP (Row H l) add adds S) (hne:adds ≠ []) (hlen:es.length+adds.length≤1073741824)
  (hc:∀ v' H' n',Sep H' n' ((.s l,v',.list true (es++adds))::K2) ids→(∀ i ∈ ids,H' i=H i)→n≤n'→evalD P f N k Q Ty κ ops L (ρ.put o.dst v') H' n'):bindD P f N k Q Ty κ ops (appendF Ty (some d) t v x H n) o L ρ H n:=by
 obtain⟨v',H',n',h1,h2,h3,h4⟩:=Sep.append (d:=d) h hk hj hz hx ho hadd hne hlen
 rw[h1,bindD_some]
 exact hc v' H' n' h2 h3 h4
theorem rows_one {K1:List OwnE} {cs ds:List AVal} (hf:Fill l K1 cs ds):∀ S,Row H (K1.map (·.1)) (K1.map (·.2.1)) (K1.map (·.2.2)) S→rowsP (Row H l) [cs] [ds] S:=fun S h=>⟨S,[],hf.row h,rfl,by simp,by simp⟩
theorem rows_fresh {es:List (List AVal)} (h:∀ e ∈ es,e.length=l.length∧∀ a ∈ e,Fresh a) (hf:∀ t ∈ l,t = .c):∀ S,Row H (([]:List OwnE).map (·.1)) (([]:List OwnE).map (·.2.1)) (([]:List OwnE).map (·.2.2)) S→rowsP (Row H l) es es S:=fun S hS=>by
 simp only[List.map_nil,Row] at hS
 subst hS
 exact rowsP.fresh h hf
end
/-! Slices of own arrays that are read at once, and lists that may be empty appended to own arrays. -/
section
variable {P:Program} {f f':FuncId} {N:Nat} {k:List Item} {Q:AVal→Heap→Nat→Prop} {Ty:Types} {ops:Array Oper} {L:List Oper} {ρ:Env} {H:Heap} {n:Nat} {K:List OwnE} {ids:List Id} {t:TypeId} {j:TI} {l:List Sh} {v:AVal} {es:List (List AVal)} {o:Oper}
theorem rowsP.same {l:List Sh} (hf:∀ t ∈ l,t = .c):∀ {as1 bs:List (List AVal)} {S:List Id},rowsP (Row H l) as1 bs S→as1=bs
 | [],[],_,_=>rfl
 | [],_::_,_,hr=>hr.elim
 | _::_,[],_,hr=>hr.elim
 | a::as1,b::bs,_,⟨_,_,q1,q2,_,_⟩=>by rw[(q1.fill hf).1,rowsP.same hf q2]
theorem Sep.formF {α:Type} {g:α→List AVal} {xs:List α} (h:Sep H n ((.s l,v,.list true (xs.map g))::K) ids) (hf:∀ t ∈ l,t = .c) :
  (v = .v (.slice none 0 0)∧xs=[])∨∃ id,v = .arr id xs.length 0 xs.length∧H id=some ⟨l.length,xs.map g⟩:=by
 obtain⟨h0,S,h1,h2⟩:=h
 simp only[List.map_cons,Row,Tr] at h1
 obtain⟨S1,S2,h3,_,rfl,_⟩:=h1
 rcases h3 with ⟨rfl,e,_⟩ | ⟨id,els,es',T,rfl,he,q3,q4,q5,rfl⟩
 ·injection e with _ e
  exact .inl ⟨rfl,by simpa using e⟩
 ·injection he with _ he
  subst he
  have:=rowsP.same hf q4
  subst this
  exact .inr ⟨id,by simp,q3⟩
theorem Sep.append0 {d:Nat} {x:AVal} {add:List (List AVal)} (h:Sep H n ((.s l,v,.list true es)::K) ids) (hf:∀ t ∈ l,t = .c) (hk:kd Ty t = .slice j) (hj:j.size=l.length) (hz:j.zero.length=j.size∧j.bytes≤131072)
  (hx:srcOf H x=some add) (ho:∀ e ∈ add,e.length=l.length∧∀ a ∈ e,Fresh a∧Ab.one1 a=true) (hlen:es.length+add.length≤1073741824) :
  ∃ v' H' n',appendF Ty (some d) t v x H n=some (v',H',n')∧Sep H' n' ((.s l,v',.list true (es++add))::K) ids∧(∀ i ∈ ids,H' i=H i)∧n≤n':=by
 have ho':add.all (fun e=>e.all Ab.one1)=true:=by
  rw[List.all_eq_true];intro e he;rw[List.all_eq_true];exact fun a ha=>((ho e he).2 a ha).2
 by_cases hne:add=[]
 ·subst hne
  obtain⟨_,es',he,hv⟩:=h.form
  injection he with _ he
  subst he
  rcases hv with ⟨rfl,rfl⟩ | ⟨id,els,rfl,hl,hH,_⟩
  ·refine⟨.v (.slice none 0 0),H,n,?_,by simpa using h,fun _ _=>rfl,Nat.le_refl _⟩
   simp only[appendF,hk,hx]
   rw[if_pos ⟨hz.1,hz.2,rfl,rfl⟩]
   rfl
  ·have hs:H.set id ⟨l.length,els⟩=H:=by
    funext i
    by_cases hi:i=id
    ·subst hi;simp[Heap.get_set,hH]
    ·exact Heap.get_set_ne _ _ hi
   refine⟨.arr id es.length 0 es.length,H,n,?_,by simpa using h,fun _ _=>rfl,Nat.le_refl _⟩
   simp only[appendF,hk,hx]
   rw[if_pos ⟨hz.1,hz.2,rfl,rfl⟩]
   simp only[live,hH,hl,↓reduceIte]
   rw[if_pos ⟨trivial,trivial,hj.symm,by simpa using hlen⟩]
   simp[hj,hs]
 ·exact Sep.append (K1:=[]) (K2:=K) h hk hj hz hx ho' (rows_fresh (fun e he=>⟨(ho e he).1,fun a ha=>((ho e he).2 a ha).1⟩) hf) hne hlen
theorem bind_append0 {d:Nat} {x:AVal} (add:List (List AVal)) (h:Sep H n ((.s l,v,.list true es)::K) ids) (hf:∀ t ∈ l,t = .c) (hk:kd Ty t = .slice j) (hj:j.size=l.length) (hz:j.zero.length=j.size∧j.bytes≤131072)
  (hx:srcOf H x=some add) (ho:∀ e ∈ add,e.length=l.length∧∀ a ∈ e,Fresh a∧Ab.one1 a=true) (hlen:es.length+add.length≤1073741824)
  (hc:∀ v' H' n',Sep H' n' ((.s l,v',.list true (es++add))::K) ids→(∀ i ∈ ids,H' i=H i)→n≤n'→evalK P f N k Q Ty ops L (ρ.put o.dst v') H' n'):bindE P f N k Q Ty ops (appendF Ty (some d) t v x H n) o L ρ H n:=by
 obtain⟨v',H',n',h1,h2,h3,h4⟩:=Sep.append0 (d:=d) h hf hk hj hz hx ho hlen
 rw[h1,bindE_some]
 exact hc v' H' n' h2 h3 h4
end
theorem at_some {α:Type} [Inhabited α] {l:List α} {i:Int} {x:α} {q:Nat} (hb:0≤i∧i<l.length) (hx:x=at' l i) (hq:q=i.toNat):l[q]?=some x:=by
 obtain⟨h,hg⟩:=at_get hb hx
 rw[hq,List.getElem?_eq_getElem h,hg]
theorem len_own {α:Type} {a:Option α} {b:α} (h:a=some b):a=some b:=h
theorem len2 {α:Type} {l:List α} (h:l.length=2):∃ a b,l=[a,b]:=by match l,h with | [a,b],_=>exact⟨a,b,rfl⟩
theorem len3 {α:Type} {l:List α} (h:l.length=3):∃ a b c,l=[a,b,c]:=by match l,h with | [a,b,c],_=>exact⟨a,b,c,rfl⟩
theorem len4 {α:Type} {l:List α} (h:l.length=4):∃ a b c d,l=[a,b,c,d]:=by match l,h with | [a,b,c,d],_=>exact⟨a,b,c,d,rfl⟩
theorem len6 {α:Type} {l:List α} (h:l.length=6):∃ a b c d e f,l=[a,b,c,d,e,f]:=by match l,h with | [a,b,c,d,e,f],_=>exact⟨a,b,c,d,e,f,rfl⟩
theorem len7 {α:Type} {l:List α} (h:l.length=7):∃ a b c d e f g,l=[a,b,c,d,e,f,g]:=by match l,h with | [a,b,c,d,e,f,g],_=>exact⟨a,b,c,d,e,f,g,rfl⟩
theorem len8 {α:Type} {l:List α} (h:l.length=8):∃ a b c d e f g i,l=[a,b,c,d,e,f,g,i]:=by match l,h with | [a,b,c,d,e,f,g,i],_=>exact⟨a,b,c,d,e,f,g,i,rfl⟩
theorem len9 {α:Type} {l:List α} (h:l.length=9):∃ a b c d e f g i j,l=[a,b,c,d,e,f,g,i,j]:=by match l,h with | [a,b,c,d,e,f,g,i,j],_=>exact⟨a,b,c,d,e,f,g,i,j,rfl⟩
section
variable {P:Program} {f:FuncId} {N:Nat} {k:List Item} {Q:AVal→Heap→Nat→Prop} {Ty:Types} {l:List Oper} {ρ:Env} {H:Heap} {n:Nat} {K:List OwnE} {ids:List Id}
end
def intC (n:Int):List AVal:=[int n]
def strC (s:Str):List AVal:=[str s]
end Go.Ab
/- The abstract machine, part Sv: regions that draw their order and slice arrays of the call's own. -/
namespace Go.Ab
set_option linter.unusedSectionVars false
variable [Inhabited Tabs]
set_option linter.unusedSectionVars false
set_option linter.unusedSimpArgs false
set_option linter.unusedVariables false
section
variable (P:Program) (N:Nat) (ops:Array Oper) (W:List Id)
end
section
variable {P:Program} {N:Nat} {ops:Array Oper} {W:List Id}
end
section
variable {P:Program} {f:FuncId} {N:Nat} {k:List Item} {ρ:Env} {H:Heap} {n:Nat} {Q:AVal→Heap→Nat→Prop}
end
section
variable (P:Program) (f:FuncId) (N:Nat) (k:List Item) (Q:AVal→Heap→Nat→Prop) (Ty:Types) (W:List Id) (ops:Array Oper)
end
section
variable {P:Program} {f:FuncId} {N:Nat} {k:List Item} {Q:AVal→Heap→Nat→Prop} {Ty:Types} {W:List Id} {ops:Array Oper} {o:Oper} {L:List Oper} {ρ:Env} {H:Heap} {n:Nat}
end
section
variable {P:Program} {f f':FuncId} {N:Nat} {k:List Item} {Q:AVal→Heap→Nat→Prop} {Ty:Types} {W:List Id} {L:List Oper} {ρ:Env} {H:Heap} {n:Nat} {K K1 K2:List OwnE} {ids:List Id} {t:TypeId} {j:TI} {l:List Sh} {v:AVal} {es:List (List AVal)} {o:Oper}
end
end Go.Ab
/- The abstract machine, part Sw: whether a slice is nil. -/
namespace Go.Ab
set_option linter.unusedSectionVars false
variable [Inhabited Tabs]
section
variable {P:Program} {Ty:Types} {N:Nat} {ρ:Env} {H:Heap} {n:Nat}
end
section
variable {P:Program} {f f':FuncId} {N:Nat} {k:List Item} {Q:AVal→Heap→Nat→Prop} {Ty:Types} {ops:Array Oper} {L:List Oper} {ρ:Env} {H:Heap} {n:Nat} {K1 K2:List OwnE} {ids:List Id} {t:TypeId} {j:TI} {l:List Sh} {v:AVal} {es:List (List AVal)} {o:Oper}
end
end Go.Ab
/- The abstract machine, part Sk: appending to a slice without spare room. -/
namespace Go.Ab
set_option linter.unusedSectionVars false
variable [Inhabited Tabs]
section
variable {P:Program} {N:Nat} {Ty:Types} {ρ:Env} {H:Heap} {n:Nat}
variable {d:Option Tmp} {ty:TypeId} {pos:String} {af:Array Edge} {gu:Option (Nat × Bool)}
end
section
variable {P:Program} {f:FuncId} {N:Nat} {k:List Item} {Q:AVal→Heap→Nat→Prop} {Ty:Types} {l:List Oper} {ρ:Env} {H:Heap} {n:Nat}
variable {d:Option Tmp} {ty:TypeId} {pos:String} {af:Array Edge}
end
section
variable {P:Program} {f:FuncId} {N:Nat} {k:List Item} {Q:AVal→Heap→Nat→Prop} {Ty:Types} {L:List Oper} {ρ:Env} {H:Heap} {n:Nat}
variable {d:Option Tmp} {ty:TypeId} {pos:String} {af:Array Edge}
end
end Go.Ab
