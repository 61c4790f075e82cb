/- Merged texts (11 of 18) of the proof that ends in Mhy: Nd Nf Nh Ne Ni L2kw Maw. -/
import Derived.Test.YtehcknfedbjaaaaGreatDoorAbQmh10
set_option linter.unusedSimpArgs false
set_option linter.unusedVariables false
open Go.Proofs.Tryz
namespace Go.Ab.Vg
theorem BZ:∀ n:Fin 26,(fun i:Nat=>gJ (97+(i:Int))=[UInt8.ofNat (97+i)]) n.val:=by
 simp only
 decide
theorem wU {l:Int} (h:0<=l/\l<26):nH l=[UInt8.ofNat (97+l.toNat)]:=by
 obtain⟨n,rfl⟩:∃ n:Nat,l=n:=⟨l.toNat,by omega⟩
 exact BZ ⟨n,by omega⟩
theorem FV {i j:Int} (h0:0<=i) (h:i<j) (hj:j<26):nH i<nH j:=by
 rw[wU ⟨h0,by omega⟩,wU ⟨by omega,hj⟩];refine List.cons_lt_cons_iff.2 (.inl ?_);rw[UInt8.lt_iff_toNat_lt,UInt8.toNat_ofNat',UInt8.toNat_ofNat'];omega
theorem Ap {b:aG} {kind kind':Int->Bool} {links links':Int->Int} {one:Bool} (hd:pj b) (hk:∀ k:Int,0<=k->k<b.nodes.length->kind k=kind' k) (hl:∀ k:Int,0<=k->k<b.nodes.length->kind' k=true->∀ l ∈ (at' b.nodes k).links,links l=links' l) :
  iO b kind links one=iO b kind' links' one:=by
 rw[iO,iO,sy hk];refine List.map_congr_left fun k hm=>?_
 obtain⟨⟨h0,h1⟩,h2⟩:=(dD _).1 hm;have hp:=hd.2 k h0 h1;have hc:∀ n:Nat,n<=b.nodes.length->dq kind n=dq kind' n:=fun n hn=>by rw[dq,dq,sy fun x hx hx'=>hk x hx (by omega)]
 rw[dm,dm]
 congr 1
 ·by_cases h3:0<=(at' b.nodes k).parent
  ·rw[hk _ h3 (by omega),hc _ (by omega)]
  ·rw[if_neg (show ¬ (0<=(at' b.nodes k).parent/\kind (at' b.nodes k).parent=true) from fun h=>h3 h.1),if_neg (show ¬ (0<=(at' b.nodes k).parent/\kind' (at' b.nodes k).parent=true) from fun h=>h3 h.1)]
 ·exact List.map_congr_left fun l hm=>hl k h0 h1 h2 l hm
abbrev wY (b:aG) (node:Int) (k:Int):Bool:=decide (node ∈ above b k)
def xD (b:aG) (node l:Int):Int:=(((bF b l).filter fun q=>wY b node q.1).length:Int)
def Db (b:aG) (node l:Int):Bool:=decide (l<b.edges) && (decide (0<xD b node l) && decide (xD b node l=(bF b l).length))
def Hb (b:aG) (node l:Int):Bool:=decide (l<b.edges) && !Db b node l
def sV (b:aG) (node l:Int):Bool:=decide (0<xD b node l) && !Db b node l
def uz (b:aG):Nat:=(b.edges+b.outer.length).toNat
def IU (b:aG) (node l:Int):Int:=dq (Hb b node) l.toNat+if l<b.edges then 0 else l - b.edges
def leftL (b:aG) (node l:Int):Int:=if Db b node l then -1 else IU b node l
def rightF (b:aG) (node l:Int):Int:=if Db b node l then dq (Db b node) l.toNat else if sV b node l then dq (Db b node) (uz b)+dq (sV b node) l.toNat else -1
def Hr (b:aG) (node:Int) (n:Nat):List aD:=(cL (sV b node) n).map fun l=>⟨nH l,IU b node l⟩
def Ir (b:aG) (node:Int):aG:=⟨b.roots,iO b (fun k => !wY b node k) (leftL b node) false,[dq (fun k => !wY b node k) node.toNat],dq (Hb b node) (uz b),b.outer,Hr b node (uz b)⟩
def cutLow (b:aG) (node:Int):aG:=⟨1,iO b (wY b node) (rightF b node) true,[],dq (Db b node) (uz b),(cL (sV b node) (uz b)).map nH,[]⟩
abbrev l4Cut (b:aG) (node:Int):aG × aG:=(Ir b node,cutLow b node)
theorem cQ {α:Type} (f:Nat->α) (k:Nat):(List.range (k+1)).map f=(List.range k).map f++[f k]:=by rw[List.range_succ,List.map_append];rfl
theorem HW {b:aG} {k l:Int} (h0:0<=k) (h1:k<b.nodes.length) (hl:l ∈ (at' b.nodes k).links):∃ q:Int,(k,q) ∈ bF b l:=by
 obtain⟨n,rfl⟩:∃ n:Nat,k=n:=⟨k.toNat,by omega⟩
 obtain⟨q,hq,he⟩:=List.getElem_of_mem hl;exact⟨(q:Int),eY.2 ⟨n,by omega,rfl,by simp,by simpa using hq,by simp only;rw[cK hq,he]⟩⟩
theorem Ax {l:List a6} (h:l.Pairwise (·<·)) {q:Nat} (hq:q<l.length):eJ l (at' l (q:Int))=q:=by
 refine pN hq (fun j hj=>?_) rfl;rw[cK hq,cK (by omega)];exact yJ (List.pairwise_iff_getElem.1 h j q (by omega) hq hj)
abbrev z0B:aG:=⟨0,[],[],0,[],[]⟩
theorem Fh {b:aG} {kind:Int->Bool} {links:Int->Int} {one:Bool} {x:ay} (h:x ∈ iO b kind links one):∃ k:Int,(0<=k/\k<b.nodes.length)/\x=dm kind links one b k:=by
 obtain⟨k,hk,rfl⟩:=List.mem_map.1 h;exact⟨k,((dD _).1 hk).1,rfl⟩
theorem FH (b:aG) (kind:Int->Bool) (links:Int->Int) (one:Bool):(iO b kind links one).length<=b.nodes.length:=by
 rw[iO,List.length_map];exact k8 _ _
theorem uj {sig:cP} {b:aG} (hV:cM sig b) {kind:Int->Bool} {links:Int->Int} {one:Bool} {x:ay} (h:x ∈ iO b kind links one):x.links.length<=1048576/\bh x.parent:=by
 obtain⟨k,hk,rfl⟩:=Fh h;have h1:=hV.kq hk;have h2:=hV.zQ hk;have h3:=hV.roots;have h4:=hV.len;have h5:=qD kind (at' b.nodes k).parent.toNat;refine⟨by simp[dm];omega,?_⟩;simp only[dm,bh]
 split
 ·omega
 ·split<;>omega
end Go.Ab.Vg
namespace Go.Ab.Vg
abbrev pz (sig:cP) (b:aG):Prop:=cv sig b
abbrev jx (sig:cP) (b:aG):aG × Bool:=nh sig b
def og (sig:List Control) (b:aG) (Z:(aG × Bool)->Prop):Prop:=
 (cv sig b)/\∀ r6:Bool,r6=fQ sig b->((r6=true->Z (b,true))/\(r6=false->Z ((aG.mk 0 [] [] 0 [] []),false)))
theorem Fm (sig:cP) (b:aG) (h:pz sig b):og sig b (fun y=>y=jx sig b):=by
 unfold og;simp only[forall_eq];refine⟨h,fun h1=>?_,fun h1=>?_⟩
 ·rw[jx,nh,if_pos h1]
 ·rw[jx,nh,if_neg (by rw[h1];simp)]
abbrev parK (I:aG) (m:Match):Int->Bool:=j8 3 I m
def siteF (ar:aG) (m:Match) (p:Int):Int:=c7 ar.sites (c7 m.nodes p)
def It (ar I:aG) (m:Match) (k:Int):ay:=
 ⟨(at' I.nodes k).control,if (at' I.nodes k).parent ∈ m.nodes then -1 - siteF ar m (at' I.nodes k).parent else dq (parK I m) (at' I.nodes k).parent.toNat,(at' I.nodes k).links.map fun l=>c7 (bm I m) l⟩
theorem G6 {i j:Nat} (h:i<j) (hj:j<26):im i<im j:=by
 have:=FV (i:=(i:Int)) (j:=(j:Int)) (by omega) (by omega) (by omega);rw[im,im];exact List.cons_lt_cons_iff.2 (.inr ⟨rfl,this⟩)
theorem Ey {outer:List a6} {n:Nat} (h:n+outer.length<=16):(gq outer n).Pairwise (·<·):=by
 rw[gq];refine List.Pairwise.sublist (List.take_sublist _ _) (List.Pairwise.sublist List.filter_sublist ?_);rw[List.pairwise_map];exact List.pairwise_lt_range.imp_of_mem fun {a b} _ hb h=>G6 h (by have:=List.mem_range.1 hb;omega)
theorem kV {outer:List a6} {n:Nat} (h:n+outer.length<=16):(gq outer n).length=n:=by
 have:=rN outer (k:=n+outer.length) (by omega);rw[gq,List.length_take];omega
theorem Fc {k:Nat} (h:k<64):(im k).length<=5:=by
 have:=q8 h;show (122::gJ (97+(k:Int))).length<=5;rw[List.length_cons];omega
def l8Left (ar I:aG) (m:Match) (_:List Int) (names:List a6):aG:=⟨ar.sites.length,(cL (parK I m) I.nodes.length).map (It ar I m),[],0,names,[]⟩
theorem qn {sig:cP} {I:aG} (hV:cM sig I) {m:Match} {x:Int} (h:x ∈ bm I m):0<=x/\x<I.edges+I.outer.length:=by
 obtain⟨y,hy,_,hl⟩:=qc.1 (((qv (gT I m)).2 x).1 h);exact hV.iT hy x hl
end Go.Ab.Vg
namespace Go.Ab.Vg
abbrev rL (l:List aD):List aD:=l.mergeSort fun x y => !decide (y.name<x.name)
abbrev CP (l:List aD):Prop:=l.length<=1073741824/\(l.map aD.name).Nodup
theorem FP {l:List aD} (h:(l.map aD.name).Nodup) {a b:aD} (ha:a ∈ l) (hb:b ∈ l) (e:a.name=b.name):a=b:=by
 induction l with
 | nil=>cases ha
 | cons x l ih=>
  rw[List.map_cons,List.nodup_cons] at h;rcases List.mem_cons.1 ha with e1 | h1<;>rcases List.mem_cons.1 hb with e2 | h2
  ·rw[e1,e2]
  ·exact absurd (List.mem_map.2 ⟨b,h2,by rw[<- e,e1]⟩) h.1
  ·exact absurd (List.mem_map.2 ⟨a,h1,by rw[e,e2]⟩) h.1
  ·exact ih h.2 h1 h2
theorem uN {l m:List aD} (h:(l.map aD.name).Nodup) (hp:m.Perm l) (hs:m.Pairwise fun a b=>¬ b.name<a.name):m=rL l:=by
 refine List.Perm.eq_of_pairwise (le:=fun x y:aD=>(!decide (y.name<x.name))=true) ?_ ?_ ?_ (hp.trans (List.mergeSort_perm _ _).symm)
 ·intro a b ha hb h1 h2;simp only[Bool.not_eq_true',decide_eq_false_iff_not] at h1 h2;exact FP h (hp.mem_iff.1 ha) ((List.mergeSort_perm _ _).mem_iff.1 hb) (List.le_antisymm (List.not_lt.1 h1) (List.not_lt.1 h2))
 ·exact hs.imp fun h=>by simpa using h
 ·refine List.pairwise_mergeSort ?_ ?_ _
  ·intro a b c h1 h2;simp only[Bool.not_eq_true',decide_eq_false_iff_not] at h1 h2 ⊢;exact List.not_lt.2 (List.le_trans (List.not_lt.1 h1) (List.not_lt.1 h2))
  ·intro a b
   by_cases h:b.name<a.name
   ·have:¬ a.name<b.name:=fun h2=>List.lt_irrefl _ (fc h h2)
    simp[this]
   ·simp[h]
abbrev HR (l:List aD):List aD × Unit:=(rL l,())
abbrev fj (_:Int) (rest:List Int):Prop:=rest.length<=1048576
abbrev mV (p:Int) (rest:List Int):Int:=if 0<=p then c7 rest p else p
def qI (p:Int) (v_:List Int) (Z:Int->Prop):Prop:=
 ∀ c2:Bool,c2=decide (0<=p)->((c2=true->(jE v_ p)/\∀ r5:Int,r5=c7 v_ p->Z r5)/\(c2=false->Z p))
theorem Gz (p:Int) (rest:List Int) (h:fj p rest):qI p rest (fun y=>y=mV p rest):=by
 unfold qI;simp only[forall_eq,decide_eq_true_eq,decide_eq_false_iff_not];exact⟨fun h1=>⟨h,by rw[mV,if_pos h1]⟩,fun h1=>by rw[mV,if_neg h1]⟩
abbrev jo (l:Int) (b:aG):Prop:=bh (l - b.edges)/\0<=l - b.edges/\l - b.edges<b.outer.length
abbrev rY (l:Int) (b:aG):a6:=at' b.outer (l - b.edges)
def qz (l:Int) (v_:aG) (Z:a6->Prop):Prop:=
 (bh (l - v_.edges))/\∀ v3:Int,v3=l - v_.edges->(0<=v3/\v3<v_.outer.length)/\∀ x6:a6,x6=at' v_.outer v3->Z x6
theorem Hy (l:Int) (b:aG) (h:jo l b):qz l b (fun y=>y=rY l b):=by
 unfold qz;simp only[forall_eq];exact⟨h.1,h.2,trivial⟩
abbrev ly (l:Int) (b:aG) (edges:List Int):Prop:=edges.length<=1048576/\bh (edges.length+l)/\bh (edges.length+l - b.edges)
abbrev sr (l:Int) (b:aG) (edges:List Int):Int:=if l<b.edges then c7 edges l else edges.length+l - b.edges
def qq (l:Int) (v_:aG) (v_':List Int) (Z:Int->Prop):Prop:=
 ∀ c2:Bool,c2=decide (l<v_.edges)->((c2=true->(jE v_' l)/\∀ r5:Int,r5=c7 v_' l->Z r5)/\(c2=false->∀ dd:Int,dd=(v_'.length:Int)->(bh (dd+l))/\∀ v9:Int,v9=dd+l->(bh (v9 - v_.edges))/\∀ v12:Int,v12=v9 - v_.edges->Z v12))
theorem GC (l:Int) (b:aG) (edges:List Int) (h:ly l b edges):qq l b edges (fun y=>y=sr l b edges):=by
 unfold qq;simp only[forall_eq,decide_eq_true_eq,decide_eq_false_iff_not];exact⟨fun h1=>⟨h.1,by rw[sr,if_pos h1]⟩,fun h1=>⟨h.2.1,h.2.2,by rw[sr,if_neg h1]⟩⟩
noncomputable def dH (ar I:aG) (m:Match) (l:Int):Bool := !(lg ((gB ar I m.nodes).1.take ar.edges.toNat) l)
abbrev dN (I:aG) (m:Match):Int->Bool:=j8 2 I m
noncomputable def mR (ar I:aG) (m:Match) (l:Int):Int:=if l<I.edges then (if dH ar I m l=true then dq (dH ar I m) l.toNat else -1) else dq (dH ar I m) I.edges.toNat+(l - I.edges)
def vh (I:aG) (m:Match) (p:Int):Int:=if p<0 then p else dq (dN I m) p.toNat
noncomputable def di (ar I:aG) (m:Match) (n:Nat):List aD:=(List.range n).map fun i:Nat=>⟨at' ar.outer (i:Int),mR ar I m (at' (gB ar I m.nodes).1 (ar.edges+i))⟩
noncomputable def dO (ar I:aG) (m:Match) (n:Nat):List aD:=(List.range n).map fun i:Nat=>⟨at' (gq ar.outer (bm I m).length) (i:Int),mR ar I m (at' (bm I m) (i:Int))⟩
noncomputable def yY (ar I:aG) (m:Match):aG:=⟨I.roots,iO I (dN I m) (mR ar I m) false,m.roots.map (vh I m),dq (dH ar I m) I.edges.toNat,I.outer,rL (di ar I m ar.outer.length++dO ar I m (bm I m).length)⟩
theorem nm {sig:cP} {ar I:aG} (h:bW sig ar I=true):ar.outer.Pairwise (·<·)/\I.outer.Pairwise (·<·):=by
 simp only[bW,gA,Bool.and_eq_true] at h;exact⟨rU h.1.1,rU h.2.1⟩
theorem td {ar I:aG} {m:Match} (h:iD ar I m):(gB ar I m.nodes).1=(List.range (ar.edges+ar.outer.length).toNat).map fun l:Nat=>dR ar I m.nodes (l:Int):=by rw[jX h.2.2.2]
theorem gP {sig:cP} {ar I:aG} (hP:rG sig ar I) {m:Match} (h:iD ar I m):dh ar I m.nodes:=by
 obtain⟨⟨h1,h2⟩,_,h3,_⟩:=h;refine⟨⟨sig,hP⟩,⟨h1,fun i hi=>?_⟩,fun k hk=>(h3 k hk).1⟩;have:=(h2 i hi).1;simp only[ez,within,Bool.and_eq_true,decide_eq_true_eq] at this;omega
theorem Gj {sig:cP} {ar I:aG} (hP:rG sig ar I) {m:Match} (h:iD ar I m) {l:Int} (h0:0<=l) (h1:l<ar.edges+ar.outer.length):0<=dR ar I m.nodes l/\dR ar I m.nodes l<I.edges+I.outer.length:=by
 have hp:=hP.red.port h0 h1;rw[dR]
 match hq:bF ar l,hp with
 | p::_,_=>
  have hm:p ∈ bF ar l:=by rw[hq];simp
  obtain⟨_,i2,i3,_⟩:=nc (gP hP h) hm;exact hP.a.iT i2 _ (at_mem i3)
theorem HL {sig:cP} {ar I:aG} (hP:rG sig ar I) {m:Match} (h:iD ar I m) {l:Int} (h0:0<=l) (h1:l<ar.edges+ar.outer.length):l<(gB ar I m.nodes).1.length/\0<=at' (gB ar I m.nodes).1 l/\at' (gB ar I m.nodes).1 l<I.edges+I.outer.length:=by
 have hf:=Gj hP h h0 h1;rw[td h];obtain⟨n,rfl⟩:∃ n:Nat,l=n:=⟨l.toNat,by omega⟩
 refine⟨by simp;omega,?_⟩;rw[cK (by simp;omega)];simpa using hf
theorem FB {α:Type} [DecidableEq α] {a b:List α} (h:a.Nodup) (hs:∀ x ∈ a,x ∈ b):a.length<=b.length:=by
 induction a generalizing b with
 | nil=>simp
 | cons x a ih=>
  rw[List.nodup_cons] at h;have hx:=hs x (by simp);have:=ih (b:=b.erase x) h.2 fun y hy=>(List.mem_erase_of_ne (by rintro rfl;exact h.1 hy)).2 (hs y (by simp[hy]))
  rw[List.length_erase_of_mem hx] at this;have:=List.length_pos_of_mem hx;simp only[List.length_cons];omega
theorem sm (b:aG) (l:Int):∀ i,(dx b l i).Nodup
 | 0=>by simp[dx]
 | i+1=>by
  rw[en,List.nodup_append];refine⟨sm b l i,?_,?_⟩
  ·rw[mq,List.Nodup,List.pairwise_map,idxs,List.pairwise_map];refine List.Pairwise.imp (fun h he=>?_) (List.pairwise_lt_range.sublist List.filter_sublist)
   injection he;omega
  ·intro x hx y hy he;subst he;obtain⟨j,hj,h1,_⟩:=eY.1 hx;rw[mq,List.mem_map] at hy;obtain⟨z,_,rfl⟩:=hy;simp only at h1;omega
theorem sd {sig:cP} {ar I:aG} (hP:rG sig ar I) {m:Match} (h:iD ar I m) {k x:Int} (h0:0<=k) (h1:k<I.nodes.length) (hk:k ∉ m.nodes) (hx:x ∈ (at' I.nodes k).links):dH ar I m x=true:=by
 rw[dH,Bool.not_eq_true',qf,td h];intro hm;obtain⟨j,hj,rfl⟩:=List.getElem_of_mem hm;simp only[List.length_take,List.length_map,List.length_range] at hj;simp only[List.getElem_take,List.getElem_map,List.getElem_range] at hx;have hE:=hP.r.edges;obtain⟨q1,q2⟩:=h.2.2.2 (j:Int) (by omega) (by omega);have q3:=(q2 (by omega)).2;obtain⟨q,hq⟩:=HW h0 h1 hx;have hnd:((bF ar (j:Int)).map fun p=>(at' m.nodes p.1,p.2)).Nodup:=by
  rw[List.Nodup,List.pairwise_map];refine (sm ar (j:Int) ar.nodes.length).imp_of_mem fun {a b} ha hb hne he=>hne ?_
  obtain⟨a1,_⟩:=nc (gP hP h) ha;obtain⟨b1,_⟩:=nc (gP hP h) hb
  injection he with e1 e2
  refine Prod.ext ?_ e2;obtain⟨u,hu⟩:∃ u:Nat,a.1=u:=⟨a.1.toNat,by omega⟩
  obtain⟨v,hv⟩:∃ v:Nat,b.1=v:=⟨b.1.toNat,by omega⟩
  rw[hu,hv] at e1;rw[hu,hv];have key:∀ u v:Nat,u<v->v<m.nodes.length->at' m.nodes (u:Int) ≠ at' m.nodes (v:Int):=fun u v huv hv he=>by
   refine (h.1.2 v hv).2 ?_;rw[<- he,cK (by omega),<- List.getElem_take (j:=v) (h:=by simp;omega)];exact List.getElem_mem _
  rcases Nat.lt_trichotomy u v with h3 | h3 | h3
  ·exact absurd e1 (key u v h3 (by omega))
  ·omega
  ·exact absurd e1.symm (key v u h3 (by omega))
 have:=FB (a:=(k,q)::(bF ar (j:Int)).map fun p=>(at' m.nodes p.1,p.2)) (b:=bF I (dR ar I m.nodes (j:Int))) (List.nodup_cons.2 ⟨fun hm2=>by
   obtain⟨p,hp,he⟩:=List.mem_map.1 hm2;obtain⟨p1,_⟩:=nc (gP hP h) hp
   injection he with e1 e2
   exact hk (e1 ▸ at_mem p1),hnd⟩) (fun y hy=>by
   rcases List.mem_cons.1 hy with rfl | hy
   ·exact hq
   ·obtain⟨p,hp,rfl⟩:=List.mem_map.1 hy;obtain⟨p1,p2,p3,_⟩:=nc (gP hP h) hp;refine eY.2 ⟨(at' m.nodes p.1).toNat,by omega,by simp only;omega,p3.1,?_,?_⟩
    ·rw[show (((at' m.nodes p.1).toNat:Nat):Int)=at' m.nodes p.1 by omega];exact p3.2
    ·rw[show (((at' m.nodes p.1).toNat:Nat):Int)=at' m.nodes p.1 by omega];exact q1 p hp)
 simp only[List.length_cons,List.length_map] at this;omega
theorem tG {I:aG} {m:Match} {k:Int}:dN I m k=true↔cZ I m.nodes k=false:=by simp[dN,j8]
theorem Dw {sig:cP} {I:aG} (hV:cM sig I) {m:Match} {k:Int} (h0:0<=k) (h1:k<I.nodes.length) (hk:dN I m k=true):k ∉ m.nodes/\(at' I.nodes k).parent<k/\(0<=(at' I.nodes k).parent->dN I m (at' I.nodes k).parent=true):=by
 have hu:=tG.1 hk;have hn:k ∉ m.nodes:=fun hm=>by rw[rD h0 hm] at hu;cases hu
 refine⟨hn,(hV.zQ ⟨h0,h1⟩).2,fun h2=>tG.2 ?_⟩;rw[<- q7 hV.qR.2 h0 h1 hn];exact hu
theorem wB (ar I:aG) (m:Match) {x:Int} (h0:0<=x):sr x I (cL (dH ar I m) I.edges.toNat)=mR ar I m x:=by
 rw[sr,mR]
 by_cases h:x<I.edges
 ·rw[if_pos h,if_pos h]
  by_cases hk:dH ar I m x=true
  ·rw[if_pos hk,mO _ ((dD _).2 ⟨⟨h0,by omega⟩,hk⟩)]
  ·rw[if_neg hk,nY _ fun hm=>hk ((dD _).1 hm).2]
 ·rw[if_neg h,if_neg h,dq];omega
theorem HA {sig:cP} {ar I:aG} (hP:rG sig ar I) {m:Match} (h:iD ar I m) (hO:I.outer.Pairwise (·<·)) :
  (cL (dN I m) I.nodes.length).map (gF I (cL (dH ar I m) I.edges.toNat) (bQ I.outer) (fun z=>mV z (cL (dN I m) I.nodes.length)) (fun z=>rY z I))=iO I (dN I m) (mR ar I m) false:=by
 rw[nI hO,iO];refine List.map_congr_left fun k hk=>?_
 obtain⟨⟨h0,h1⟩,hu⟩:=(dD _).1 hk;obtain⟨u1,u2,u3⟩:=Dw hP.a h0 h1 hu;rw[gF,dm]
 congr 1
 ·rw[mV]
  by_cases hp:0<=(at' I.nodes k).parent
  ·rw[if_pos hp,if_pos ⟨hp,u3 hp⟩,mO _ ((dD _).2 ⟨⟨hp,by omega⟩,u3 hp⟩)]
  ·rw[if_neg hp,if_neg (fun h=>hp h.1)];simp
 ·refine List.map_congr_left fun l hl=>?_
  have hr:=hP.a.iT ⟨h0,h1⟩ l hl;have he:=sd hP h h0 h1 u1 hl;rw[mR]
  by_cases hle:l<I.edges
  ·have hc:=qD (dH ar I m) l.toNat;rw[if_pos hle,if_pos he,mO _ ((dD _).2 ⟨⟨hr.1,by omega⟩,he⟩),if_pos hc.1]
  ·have hno:l ∉ cL (dH ar I m) I.edges.toNat:=fun hm=>by have:=((dD _).1 hm).1;omega
   obtain⟨q,hq⟩:∃ q:Nat,l - I.edges=q:=⟨(l - I.edges).toNat,by omega⟩
   rw[if_neg hle,nY _ hno,if_neg (by omega),rY,hq,Ax hO (by omega),dq]
theorem uL {α:Type} [Inhabited α] (l:List α):((List.range l.length).map fun i:Nat=>at' l (i:Int))=l:=by
 refine List.ext_getElem (by simp) fun i h1 h2=>?_
 rw[List.getElem_map,List.getElem_range,cK h2]
theorem sx (ar I:aG) (m:Match) (h1:(bm I m).length+ar.outer.length<=16):(di ar I m ar.outer.length++dO ar I m (bm I m).length).map aD.name=ar.outer++gq ar.outer (bm I m).length:=by
 have e:=uL (gq ar.outer (bm I m).length);rw[kV h1] at e;rw[List.map_append,di,dO,List.map_map,List.map_map];exact congr (congrArg _ (uL ar.outer)) e
theorem Cr {outer:List a6} {n:Nat}:∀ s ∈ gq outer n,s ∉ outer:=fun s hs=>by
 have:=(List.mem_filter.1 (List.mem_of_mem_take hs)).2;simpa using this
theorem qQ {l:List a6} (h:l.Pairwise (·<·)):l.Nodup:=h.imp fun h=>yJ h
theorem DO (ar I:aG) (m:Match) (h1:(bm I m).length+ar.outer.length<=16) (hO:ar.outer.Pairwise (·<·)):CP (di ar I m ar.outer.length++dO ar I m (bm I m).length):=by
 refine⟨by simp[di,dO];omega,?_⟩;rw[sx ar I m h1,List.nodup_append];exact⟨qQ hO,qQ (Ey h1),fun a ha b hb he=>Cr b hb (he ▸ ha)⟩
theorem wA {sig:cP} {ar I:aG} (hR:cv sig ar) (hS:cv sig I) (hP:rG sig ar I) {m:Match} (h:iD ar I m) (h1:(bm I m).length+ar.outer.length<=16) (hm:IQ m):cv sig (yY ar I m):=by
 have h8:=hP.a.len;have t1:=FH I (dN I m) (mR ar I m) false;refine⟨hS.sigLen,hS.sigNames,by simp only[yY];omega,by simp only[yY,List.length_map];exact hm.2,hS.outerLen,by simp[yY,di,dO];omega,hS.outerNames,fun w hw=>?_,fun x hx=>(uj hP.a hx).1,fun x hx=>(uj hP.a hx).2,fun p hp=>?_⟩
 ·have hw1:w.name ∈ (di ar I m ar.outer.length++dO ar I m (bm I m).length).map aD.name:=List.mem_map.2 ⟨w,(List.mergeSort_perm _ _).mem_iff.1 hw,rfl⟩;rw[sx ar I m h1] at hw1;rcases List.mem_append.1 hw1 with h2 | h2
  ·exact hR.outerNames _ h2
  ·rw[gq] at h2;obtain⟨k,hk,he⟩:=List.mem_map.1 (List.mem_filter.1 (List.mem_of_mem_take h2)).1;have h3:=List.mem_range.1 hk;have h4:=Fc (k:=k) (by omega);rw[<- he];omega
 ·obtain⟨q,hq,rfl⟩:=List.mem_map.1 hp;have hr:=h.2.1.2 q hq;have:=hP.a.roots;have:=qD (dN I m) q.toNat;rw[vh]
  split
  ·simp only[bh];omega
  ·simp only[bh];omega
abbrev ru (sig:cP) (ar I:aG) (m:Match):Prop:=eO sig ar I m/\(bW sig ar I && eP ar I m)=true
noncomputable def kB (sig:cP) (ar I:aG) (m:Match):aG × Bool:=if (bm I m).length+ar.outer.length<=16 then nh sig (yY ar I m) else (z0B,false)
def qN (sig:List Control) (ar:aG) (I:aG) (m:Match) (Z:(aG × Bool)->Prop):Prop:=
 (eD ar I m)/\∀ r8:(List Int) × (List a6) × Bool,r8=eU ar I m->((r8.2.2=true->(dh ar I m.nodes)/\∀ r33:(List Int) × Bool,r33=ek ar I m.nodes->aI (σ:=Int × (List Int)) (fun (v69,l70) K77=>∀ c78:Bool,c78=decide (v69<I.edges)->((c78=true->((0:Int)<=0/\(0:Int)<=ar.edges/\ar.edges<=r33.1.length)/\∀ l81:List Int,l81=(r33.1.take ar.edges.toNat).drop 0->(l81.length<=1048576)/\∀ r85:Bool,r85=lg l81 v69->((r85=true->(bh (v69+1))/\∀ v104:Int,v104=v69+1->K77 (v104,l70))/\(r85=false->(l70.length+1<=1073741824)/\∀ l87:List Int,l87=l70++[v69]->(bh (v69+1))/\∀ v101:Int,v101=v69+1->K77 (v101,l87))))/\(c78=false->(pw I m)/\∀ r107:List Int,r107=vk I m->(qV I r107 l70 I.outer (fun z0=>mV z0 r107) (fun z0=>fj z0 r107) (fun z0=>rY z0 I) (fun z0=>jo z0 I))/\∀ r124:aG,r124=lv I r107 l70 I.outer (fun z0=>mV z0 r107) (fun z0=>fj z0 r107) (fun z0=>rY z0 I) (fun z0=>jo z0 I)->∀ len158:Int,len158=(m.roots.length:Int)->aI (σ:=Int × (List Int)) (fun (v183,l184) K196=>∀ c197:Bool,c197=decide (v183<len158)->((c197=true->(0<=v183/\v183<m.roots.length)/\∀ x200:Int,x200=at' m.roots v183->(fj x200 r107)/\∀ r203:Int,r203=mV x200 r107->(l184.length+1<=1073741824)/\∀ l205:List Int,l205=l184++[r203]->(bh (v183+1))/\∀ v224:Int,v224=v183+1->K196 (v224,l205))/\(c197=false->∀ len226:Int,len226=(ar.outer.length:Int)->aI (σ:=Int × (List aD)) (fun (v249,l250) K261=>∀ c262:Bool,c262=decide (v249<len226)->((c262=true->(0<=v249/\v249<ar.outer.length)/\∀ x265:a6,x265=at' ar.outer v249->(bh (ar.edges+v249))/\∀ v268:Int,v268=ar.edges+v249->(0<=v268/\v268<r33.1.length)/\∀ x275:Int,x275=at' r33.1 v268->(ly x275 I l70)/\∀ r279:Int,r279=sr x275 I l70->(l250.length+1<=1073741824)/\∀ l281:List aD,l281=l250++[(aD.mk x265 r279)]->(bh (v249+1))/\∀ v299:Int,v299=v249+1->K261 (v299,l281))/\(c262=false->∀ len301:Int,len301=(r8.2.1.length:Int)->aI (σ:=Int × (List aD)) (fun (v322,l323) K333=>∀ c334:Bool,c334=decide (v322<len301)->((c334=true->(0<=v322/\v322<r8.2.1.length)/\∀ x341:a6,x341=at' r8.2.1 v322->(0<=v322/\v322<r8.1.length)/\∀ x349:Int,x349=at' r8.1 v322->(ly x349 I l70)/\∀ r353:Int,r353=sr x349 I l70->(l323.length+1<=1073741824)/\∀ l355:List aD,l355=l323++[(aD.mk x341 r353)]->(bh (v322+1))/\∀ v372:Int,v372=v322+1->K333 (v372,l355))/\(c334=false->(CP l323)/\∀ r375:(List aD) × Unit,r375=HR l323->(pT sig (aG.mk r124.roots r124.nodes l184 r124.edges r124.outer r375.1))/\∀ r388:aG × Bool,r388=jI sig (aG.mk r124.roots r124.nodes l184 r124.edges r124.outer r375.1)->Z (r388.1,r388.2)))) (0,l250)))) (0,r124.inner)))) (0,r124.sites)))) (0,([]:List Int)))/\(r8.2.2=false->Z ((aG.mk 0 [] [] 0 [] []),false)))
theorem Gw (sig:cP) (ar I:aG) (m:Match) (h:ru sig ar I m):qN sig ar I m (fun y=>y=kB sig ar I m):=by
 unfold qN;obtain⟨hS,hm⟩:=h;have hm2:=Bool.and_eq_true _ _ ▸ hm;have hP:=fu hm2.1;have hM:=jz.1 hm2.2;obtain⟨hO1,hO2⟩:=nm hm2.1;have hV:=hP.a;have h8:=hV.len;have hE:=hV.edges;have hO:=hV.outer;have hrE:=hP.r.edges;have hrO:=hP.r.outer;have hms:=hS.2.2;have hil:(gB ar I m.nodes).1.length=(ar.edges+ar.outer.length).toNat:=by rw[td hM];simp
 simp only[forall_eq,eU,ek,decide_eq_true_eq,decide_eq_false_iff_not,List.drop_zero];refine⟨pk hS hm,fun h1=>⟨gP hP hM,?_⟩,fun h1=>by rw[kB,if_neg h1]⟩;refine aI.mS I.edges.toNat (fun k t=>t=cL (dH ar I m) k) [] rfl ?_;rintro k _ K hk rfl IH;dsimp only;have kl:=k8 (dH ar I m) k;refine⟨fun hc=>⟨by omega,by simp;omega,fun h2=>⟨by simp only[bh];omega,IH (by omega) _ (qS _ (by rw[dH,h2];rfl)).symm⟩,fun h2=>⟨by omega,by simp only[bh];omega,IH (by omega) _ (ow _ (by rw[dH,h2];rfl)).symm⟩⟩,fun hc=>?_⟩;obtain rfl:k=I.edges.toNat:=by omega
 have hrl:=k8 (dN I m) I.nodes.length;rw[show vk I m=cL (dN I m) I.nodes.length from rfl];refine⟨⟨hV.qR,hms.1⟩,⟨by omega,by omega,by omega,fun k hk=>((dD _).1 hk).1,fun k _=>by simp only[fj];omega,fun k hk=>by have:=hV.kq ((dD _).1 hk).1;omega,fun k hk l hl hno=>?_⟩,?_⟩
 ·obtain⟨hkr,hu⟩:=(dD _).1 hk;have hr:=hV.iT hkr l hl;have he:=sd hP hM hkr.1 hkr.2 (Dw hV hkr.1 hkr.2 hu).1 hl;have hle:¬ l<I.edges:=fun h=>hno ((dD _).2 ⟨⟨hr.1,by omega⟩,he⟩)
  exact⟨by simp only[bh];omega,by omega,by omega⟩
 refine aI.mS m.roots.length (fun k t=>t=(m.roots.take k).map (vh I m)) _ (by simp[lv]) ?_;rintro k _ K hk rfl IH;dsimp only;refine⟨fun hc=>⟨by omega,by simp only[fj];omega,by simp;omega,by simp only[bh];omega,IH (by omega) _ ?_⟩,fun hc=>?_⟩
 ·have hk2:k<m.roots.length:=by omega
  obtain⟨r1,r2,r3⟩:=hM.2.1.2 _ (at_mem (l:=m.roots) (i:=(k:Int)) ⟨by omega,by omega⟩);rw[ja hk2,List.map_append]
  congr 1
  simp only[List.map_cons,List.map_nil,List.cons.injEq,and_true];rw[vh,mV]
  by_cases h0:0<=at' m.roots (k:Int)
  ·rw[if_pos h0,if_neg (by omega),mO _ ((dD _).2 ⟨⟨h0,r2⟩,tG.2 r3⟩)]
  ·rw[if_neg h0,if_pos (by omega)]
 obtain rfl:k=m.roots.length:=by omega
 rw[List.take_length];have f3:∀ x:Int,0<=x->x<I.edges+I.outer.length->ly x I (cL (dH ar I m) I.edges.toNat):=fun x x0 x1=>⟨by omega,by simp only[bh];omega,by simp only[bh];omega⟩
 refine aI.mS ar.outer.length (fun k t=>t=di ar I m k) _ (by simp[lv,di]) ?_;rintro k _ K hk rfl IH;dsimp only;have wl:(di ar I m k).length=k:=by simp[di]
 refine⟨fun hc=>?_,fun hc=>?_⟩
 ·obtain⟨i1,i2,i3⟩:=HL hP hM (l:=ar.edges+k) (by omega) (by omega);refine⟨by omega,by simp only[bh];omega,by omega,f3 _ i2 i3,by omega,by simp only[bh];omega,IH (by omega) _ ?_⟩;rw[wB ar I m i2,di,di,cQ]
 obtain rfl:k=ar.outer.length:=by omega
 have nl:=kV h1;refine aI.mS (bm I m).length (fun k t=>t=di ar I m ar.outer.length++dO ar I m k) _ (by simp[dO]) ?_;rintro k _ K hk rfl IH;dsimp only;have wl2:(dO ar I m k).length=k:=by simp[dO]
 refine⟨fun hc=>?_,fun hc=>?_⟩
 ·have hr:=qn hV (at_mem (l:=bm I m) (i:=(k:Int)) ⟨by omega,by omega⟩);refine⟨by omega,by omega,f3 _ hr.1 hr.2,by rw[List.length_append];omega,by simp only[bh];omega,IH (by omega) _ ?_⟩;rw[wB ar I m hr.1,List.append_assoc,dO,dO,cQ]
 obtain rfl:k=(bm I m).length:=by omega
 refine⟨DO ar I m h1 hO1,?_⟩;have e:∀ A:aG,A=lv I (cL (dN I m) I.nodes.length) (cL (dH ar I m) I.edges.toNat) I.outer (fun z=>mV z (cL (dN I m) I.nodes.length)) (fun z=>fj z (cL (dN I m) I.nodes.length)) (fun z=>rY z I) (fun z=>jo z I) ->
   aG.mk A.roots A.nodes (m.roots.map (vh I m)) A.edges A.outer (HR (di ar I m ar.outer.length++dO ar I m (bm I m).length)).1=yY ar I m:=by
  rintro _ rfl;simp only[lv];rw[HA hP hM hO2,nI hO2]
  rfl
 rw[e _ rfl];exact⟨wA hS.1 hS.2.1 hP hM h1 hms,by rw[kB,if_pos h1]⟩
abbrev eZ (sig:cP) (ar I:aG) (m:Match):Prop:=eO sig ar I m
noncomputable def bM (sig:cP) (ar I:aG) (m:Match):aG × Bool:=if bW sig ar I && eP ar I m then kB sig ar I m else (z0B,false)
def fG (sig:List Control) (ar:aG) (I:aG) (m:Match) (Z:(aG × Bool)->Prop):Prop:=
 (kS sig ar I m)/\∀ r8:Bool,r8=jr sig ar I m->((r8=true->(ru sig ar I m)/\∀ r17:aG × Bool,r17=kB sig ar I m->Z (r17.1,r17.2))/\(r8=false->Z ((aG.mk 0 [] [] 0 [] []),false)))
theorem sK (sig:cP) (ar I:aG) (m:Match) (h:eZ sig ar I m):fG sig ar I m (fun y=>y=bM sig ar I m):=by
 unfold fG;simp only[forall_eq];refine⟨h,fun h1=>⟨⟨h,h1⟩,?_⟩,fun h1=>?_⟩
 ·rw[bM,if_pos h1]
 ·rw[bM,if_neg (by rw[show (bW sig ar I && eP ar I m)=false from h1];simp)]
abbrev ny (f n:Int):Prop:=0<=f/\f<=1048576/\0<=n/\n<=1048576
abbrev lM (f n:Int):List Int:=(List.range n.toNat).map fun i:Nat=>f+i
def mB (from_:Int) (n_:Int) (Z:(List Int)->Prop):Prop:=
 aI (σ:=Int × (List Int)) (fun (i12,l13) K17=>∀ c18:Bool,c18=decide (i12<n_)->((c18=true->(bh (from_+i12))/\∀ v21:Int,v21=from_+i12->(l13.length+1<=1073741824)/\∀ l24:List Int,l24=l13++[v21]->(bh (i12+1))/\∀ v34:Int,v34=i12+1->K17 (v34,l24))/\(c18=false->Z l13))) (0,([]:List Int))
theorem CX (f n:Int) (h:ny f n):mB f n (fun y=>y=lM f n):=by
 unfold mB;simp only[forall_eq,decide_eq_true_eq,decide_eq_false_iff_not];refine aI.mS n.toNat (fun k t=>t=(List.range k).map fun i:Nat=>f+i) [] rfl ?_;rintro k _ K hk rfl IH;dsimp only;refine⟨fun h1=>⟨by simp only[bh];omega,by simp;omega,by simp only[bh];omega,IH (by omega) _ ?_⟩,fun h1=>?_⟩
 ·rw[cQ]
 ·rw[lM,show k=n.toNat by omega]
abbrev ks (a b:List aD):Prop:=a.length+b.length<=1048576
def sP (x:aD):List aD->List aD
 | []=>[x]
 | y::l=>if y.name<x.name then y::sP x l else x::y::l
abbrev de (a b:List aD):List aD:=b.foldl (fun l x=>sP x l) a
theorem Gn (x:aD) (l:List aD):(sP x l).length=l.length+1:=by
 induction l with
 | nil=>rfl
 | cons y l ih=>rw[sP];split<;>simp[ih]
theorem wM (a b:List aD):(de a b).length=a.length+b.length:=by
 induction b generalizing a with
 | nil=>rfl
 | cons x b ih=>rw[de,List.foldl_cons,<- de,ih,Gn];simp;omega
theorem wo (x:aD) (l:List aD):(sP x l).Perm (x::l):=by
 induction l with
 | nil=>exact .refl _
 | cons y l ih=>
  rw[sP]
  split
  ·exact (ih.cons y).trans (.swap x y l)
  ·exact .refl _
theorem Dk (a b:List aD):(de a b).Perm (a++b):=by
 induction b generalizing a with
 | nil=>rw[List.append_nil];exact .refl _
 | cons x b ih=>
  rw[de,List.foldl_cons,<- de];refine (ih _).trans ?_;refine ((wo x a).append_right b).trans ?_;exact (List.perm_middle).symm
theorem y7 {x:aD} {l:List aD} (h:l.Pairwise fun a b=>¬ b.name<a.name):(sP x l).Pairwise fun a b=>¬ b.name<a.name:=by
 induction l with
 | nil=>simp[sP]
 | cons y l ih=>
  rw[List.pairwise_cons] at h;rw[sP]
  split
  ·rename_i h1
   rw[List.pairwise_cons];refine⟨fun z hz=>?_,ih h.2⟩;rcases List.mem_cons.1 ((wo x l).mem_iff.1 hz) with rfl | hz
   ·exact fun h2=>List.lt_irrefl _ (fc h1 h2)
   ·exact h.1 z hz
  ·rename_i h1
   rw[List.pairwise_cons];refine⟨fun z hz=>?_,List.pairwise_cons.2 h⟩;rcases List.mem_cons.1 hz with rfl | hz
   ·exact h1
   ·exact List.not_lt.2 (List.le_trans (List.not_lt.1 h1) (List.not_lt.1 (h.1 z hz)))
theorem yl {a:List aD} (b:List aD) (h:a.Pairwise fun a b=>¬ b.name<a.name):(de a b).Pairwise fun a b=>¬ b.name<a.name:=by
 induction b generalizing a with
 | nil=>exact h
 | cons x b ih=>rw[de,List.foldl_cons,<- de];exact ih (y7 h)
theorem IB {x:aD} {l:List aD} {k:Nat} (hk:k<=l.length) (h:∀ i (hi:i<l.length),i<k->l[i].name<x.name) (hn:∀ h:k<l.length,¬ l[k].name<x.name):sP x l=l.take k++[x]++l.drop k:=by
 induction l generalizing k with
 | nil=>simp[sP]
 | cons y l ih=>
  rw[sP];cases k with
  | zero=>
   have h0:¬ y.name<x.name:=hn (by simp);rw[if_neg h0];simp
  | succ k=>
   have h0:y.name<x.name:=h 0 (by simp) (by omega);rw[if_pos h0,ih (k:=k) (by simpa using hk) (fun i hi hik=>h (i+1) (by simpa using hi) (by omega)) (fun h2=>hn (by simpa using h2))];simp
theorem Cg {a b:a6}:Op.bytesLess a b=true↔a<b:=by rw[Go.Proofs.bytesLess_eq];simp
def lI (a:List aD) (b:List aD) (Z:(List aD)->Prop):Prop:=
 (([]:List aD).length+a.length<=1073741824)/\∀ l4:List aD,l4=([]:List aD)++a->aI (σ:=Int × (List aD)) (fun (i20,l21) K25=>∀ len26:Int,len26=(b.length:Int)->∀ c28:Bool,c28=decide (i20<len26)->((c28=true->aI (σ:=Int) (fun k33 K37=>dI (fun (J38:Bool->Prop)=>∀ len94:Int,len94=(l21.length:Int)->∀ c96:Bool,c96=decide (k33<len94)->((c96=true->(0<=k33/\k33<l21.length)/\∀ x103:aD,x103=at' l21 k33->(0<=i20/\i20<b.length)/\∀ x107:aD,x107=at' b i20->∀ c109:Bool,c109=Op.bytesLess x103.name x107.name->J38 (c109))/\(c96=false->J38 (false)))) (fun b41=>((b41=true->(bh (k33+1))/\∀ v46:Int,v46=k33+1->K37 (v46))/\(b41=false->((0:Int)<=0/\(0:Int)<=k33/\k33<=l21.length)/\∀ l52:List aD,l52=(l21.take k33.toNat).drop 0->(([]:List aD).length+l52.length<=1073741824)/\∀ l56:List aD,l56=([]:List aD)++l52->(0<=i20/\i20<b.length)/\∀ x65:aD,x65=at' b i20->(l56.length+1<=1073741824)/\∀ l68:List aD,l68=l56++[x65]->(0<=k33/\k33<=(l21.length:Int)/\(l21.length:Int)<=l21.length)/\∀ l77:List aD,l77=(l21.take (l21.length:Int).toNat).drop k33.toNat->(l68.length+l77.length<=1073741824)/\∀ l81:List aD,l81=l68++l77->(bh (i20+1))/\∀ v92:Int,v92=i20+1->K25 (v92,l81))))) (0))/\(c28=false->Z l21))) (0,l4)
theorem C9 (a b:List aD) (h:ks a b):lI a b (fun y=>y=de a b):=by
 unfold lI;have h:a.length+b.length<=1048576:=h;simp only[forall_eq,decide_eq_true_eq,decide_eq_false_iff_not,List.nil_append,List.length_nil,List.drop_zero];refine⟨by omega,?_⟩;refine aI.mS b.length (fun k t=>t=de a (b.take k)) a (by simp) ?_;rintro k _ K hk rfl IH;dsimp only;have hlen:(de a (b.take k)).length<=a.length+k:=by rw[wM];simp;omega
 generalize hL:de a (b.take k)=L at hlen;refine⟨fun h1=>?_,fun h1=>by rw[<- hL,show k=b.length by omega,List.take_length]⟩;have hk2:k<b.length:=by omega
 rw[cK hk2];refine aI.Bi L.length (fun j=>∀ i (hi:i<L.length),i<j->L[i].name<b[k].name) (by simp) ?_;intro j K2 hj hI IH2;refine⟨fun c=>c=true↔∃ hj:j<L.length,L[j].name<b[k].name,⟨fun h2=>⟨by omega,by omega,?_⟩,fun h2=>iff_of_false (by simp) fun ⟨h3,_⟩=>h2 (by omega)⟩,fun c hc=>⟨fun h2=>?_,fun h2=>?_⟩⟩
 ·have h3:j<L.length:=by omega
  rw[cK h3];show Op.bytesLess _ _=true↔_;rw[Cg];exact⟨fun h4=>⟨h3,h4⟩,fun ⟨_,h4⟩=>h4⟩
 ·obtain⟨h3,h4⟩:=hc.1 h2;refine⟨by simp only[bh];omega,IH2 h3 fun i hi hij=>?_⟩;rcases Nat.lt_or_ge i j with h5 | h5
  ·exact hI i hi h5
  ·have:i=j:=by omega
   subst this;exact h4
 ·have e:=IB (x:=b[k]) hj (fun i hi hij=>hI i hi hij) (fun h3 h4=>by rw[hc.2 ⟨h3,h4⟩] at h2;cases h2);rw[Int.toNat_natCast,Int.toNat_natCast,List.take_length,<- e];refine⟨by omega,by simp;omega,by omega,by simp;omega,by omega,by simp;omega,by simp only[bh];omega,IH hk2 _ ?_⟩;rw[List.take_succ_eq_append_getElem hk2,de,List.foldl_append,<- hL]
  rfl
abbrev lS (p:Int) (to:List Int):Prop:=p<to.length
abbrev qX (p:Int) (to:List Int):Int:=if p<0 then p else at' to p
def om (parent:Int) (to_:List Int) (Z:Int->Prop):Prop:=
 ∀ c2:Bool,c2=decide (parent<0)->((c2=true->Z parent)/\(c2=false->(0<=parent/\parent<to_.length)/\∀ x5:Int,x5=at' to_ parent->Z x5))
theorem EY (p:Int) (to:List Int) (h:lS p to):om p to (fun y=>y=qX p to):=by
 unfold om;simp only[forall_eq,decide_eq_true_eq,decide_eq_false_iff_not];exact⟨fun h1=>by rw[qX,if_pos h1],fun h1=>⟨⟨by omega,h⟩,by rw[qX,if_neg h1]⟩⟩
structure kQ (ar I:aG) (m:Match) (bI:List Int) (names:List a6):Prop where
 p:∃ sig,rG sig ar I
 mp:iD ar I m
 s:m.nodes.length<=1048576
 q:bI=bm I m
 n:names=gq ar.outer (bm I m).length
 l:(bm I m).length+ar.outer.length<=16
 o:ar.outer.Pairwise (·<·)/\I.outer.Pairwise (·<·)
noncomputable def fi (ar I:aG) (m:Match) (_:List Int) (_:List a6):aG:=yY ar I m
def jd (ar:aG) (I:aG) (m:Match) (bI:List Int) (names:List a6) (Z:aG->Prop):Prop:=
 (kt ar I m)/\∀ r8:(List Int) × Bool,r8=ie ar I m->(([]:List a6).length+I.outer.length<=1073741824)/\∀ l26:List a6,l26=([]:List a6)++I.outer->aI (σ:=Int × Int × (List Int)) (fun (link485,w486,l487) K493=>∀ c494:Bool,c494=decide (link485<I.edges)->((c494=true->((0:Int)<=0/\(0:Int)<=ar.edges/\ar.edges<=r8.1.length)/\∀ l497:List Int,l497=(r8.1.take ar.edges.toNat).drop 0->(l497.length<=1048576)/\∀ r501:Bool,r501=lg l497 link485->((r501=true->(l487.length+1<=1073741824)/\∀ l503:List Int,l503=l487++[(-1)]->(bh (link485+1))/\∀ v515:Int,v515=link485+1->K493 (v515,w486,l503))/\(r501=false->(l487.length+1<=1073741824)/\∀ l518:List Int,l518=l487++[w486]->(bh (w486+1))/\∀ v530:Int,v530=w486+1->(bh (link485+1))/\∀ v537:Int,v537=link485+1->K493 (v537,v530,l518))))/\(c494=false->∀ len539:Int,len539=(I.outer.length:Int)->(ny w486 len539)/\∀ r542:List Int,r542=lM w486 len539->(l487.length+r542.length<=1073741824)/\∀ l551:List Int,l551=l487++r542->aI (σ:=Int × (List Int) × (List Bool)) (fun (i586,l587,l588) K596=>∀ len597:Int,len597=(I.nodes.length:Int)->∀ c599:Bool,c599=decide (i586<len597)->((c599=true->(l587.length+1<=1073741824)/\∀ l602:List Int,l602=l587++[0]->aI (σ:=Int × (List Int)) (fun (k630,l631) K639=>∀ c640:Bool,c640=decide (k630<i586)->((c640=true->(0<=k630/\k630<l588.length)/\∀ x647:Bool,x647=at' l588 k630->((x647=true->(0<=i586/\i586<l631.length)/\∀ x655:Int,x655=at' l631 i586->(bh (x655+1))/\∀ v659:Int,v659=x655+1->(0<=i586/\i586<l631.length)/\∀ x662:Int,x662=at' l631 i586->∀ l666:List Int,l666=l631.set i586.toNat v659->(bh (k630+1))/\∀ v677:Int,v677=k630+1->K639 (v677,l666))/\(x647=false->(bh (k630+1))/\∀ v680:Int,v680=k630+1->K639 (v680,l631))))/\(c640=false->(gh I m i586)/\∀ r683:Bool,r683=fE I m i586->(l588.length+1<=1073741824)/\∀ l685:List Bool,l685=l588++[(!r683)]->(bh (i586+1))/\∀ v699:Int,v699=i586+1->K596 (v699,l631,l685)))) (0,l602))/\(c599=false->(pK I l588 true l551 false)/\∀ r702:List ay,r702=uD I l588 true l551 false->aI (σ:=Int × (List Int)) (fun (r745,l746) K756=>∀ len757:Int,len757=(m.roots.length:Int)->∀ c759:Bool,c759=decide (r745<len757)->((c759=true->(0<=r745/\r745<m.roots.length)/\∀ x762:Int,x762=at' m.roots r745->(lS x762 l587)/\∀ r765:Int,r765=qX x762 l587->(l746.length+1<=1073741824)/\∀ l767:List Int,l767=l746++[r765]->(bh (r745+1))/\∀ v784:Int,v784=r745+1->K756 (v784,l767))/\(c759=false->aI (σ:=Int × (List aD)) (fun (i814,l815) K825=>∀ len826:Int,len826=(ar.outer.length:Int)->∀ c828:Bool,c828=decide (i814<len826)->((c828=true->(0<=i814/\i814<ar.outer.length)/\∀ x831:a6,x831=at' ar.outer i814->(bh (ar.edges+i814))/\∀ v834:Int,v834=ar.edges+i814->(0<=v834/\v834<r8.1.length)/\∀ x841:Int,x841=at' r8.1 v834->(0<=x841/\x841<l551.length)/\∀ x849:Int,x849=at' l551 x841->(l815.length+1<=1073741824)/\∀ l853:List aD,l853=l815++[(aD.mk x831 x849)]->(bh (i814+1))/\∀ v869:Int,v869=i814+1->K825 (v869,l853))/\(c828=false->aI (σ:=Int × (List aD)) (fun (i888,l889) K898=>∀ len899:Int,len899=(bI.length:Int)->∀ c901:Bool,c901=decide (i888<len899)->((c901=true->(0<=i888/\i888<names.length)/\∀ x911:a6,x911=at' names i888->(0<=i888/\i888<bI.length)/\∀ x914:Int,x914=at' bI i888->(0<=x914/\x914<l551.length)/\∀ x921:Int,x921=at' l551 x914->(ks l889 [(aD.mk x911 x921)])/\∀ r925:List aD,r925=de l889 [(aD.mk x911 x921)]->(bh (i888+1))/\∀ v949:Int,v949=i888+1->K898 (v949,r925))/\(c901=false->Z (aG.mk I.roots r702 l746 w486 l26 l889)))) (0,l815)))) (0,([]:List aD))))) (0,([]:List Int))))) (0,([]:List Int),([]:List Bool))))) (0,0,([]:List Int))
noncomputable def gz (ar I:aG) (m:Match):List Int:=(List.range I.edges.toNat).map (fun i:Nat=>if dH ar I m i=true then dq (dH ar I m) i else -1)++lM (dq (dH ar I m) I.edges.toNat) I.outer.length
theorem zp {ar I:aG} {m:Match} {x:Int} (h0:0<=x) (h1:x<I.edges+I.outer.length) (hE:0<=I.edges):x<(gz ar I m).length/\at' (gz ar I m) x=mR ar I m x:=by
 obtain⟨n,rfl⟩:∃ n:Nat,x=n:=⟨x.toNat,by omega⟩
 have hl:n<(gz ar I m).length:=by simp[gz];omega
 refine⟨by omega,?_⟩;rw[cK hl,mR];simp only[gz]
 by_cases h:(n:Int)<I.edges
 ·rw[if_pos h,List.getElem_append_left (by simp;omega)];simp
 ·rw[if_neg h,List.getElem_append_right (by simp;omega)];simp;omega
theorem Hq {sig:cP} {ar I:aG} (hP:rG sig ar I) (m:Match):uD I ((List.range I.nodes.length).map fun i:Nat=>dN I m i) true (gz ar I m) false=iO I (dN I m) (mR ar I m) false:=by
 refine Ap hP.a.qR (fun k h0 h1=>?_) fun k h0 h1 _ l hl=>?_
 ·obtain⟨n,rfl⟩:∃ n:Nat,k=n:=⟨k.toNat,by omega⟩
  rw[cK (by simp;omega)];simp
 ·have hr:=hP.a.iT ⟨h0,h1⟩ l hl;exact (zp hr.1 hr.2 hP.a.edges.1).2
theorem DY (ar I:aG) (m:Match) (h1:(bm I m).length+ar.outer.length<=16) (hO:ar.outer.Pairwise (·<·)):de (di ar I m ar.outer.length) (dO ar I m (bm I m).length)=rL (di ar I m ar.outer.length++dO ar I m (bm I m).length):=by
 refine uN (DO ar I m h1 hO).2 (Dk _ _) (yl _ ?_);have e:(di ar I m ar.outer.length).map aD.name=ar.outer:=by rw[di,List.map_map];exact uL ar.outer
 have h2:((di ar I m ar.outer.length).map aD.name).Pairwise (·<·):=by rw[e];exact hO
 rw[List.pairwise_map] at h2;exact h2.imp fun h3 h4=>List.lt_irrefl _ (fc h3 h4)
theorem yt (ar I:aG) (m:Match) (bI:List Int) (names:List a6) (h:kQ ar I m bI names):jd ar I m bI names (fun y=>y=fi ar I m bI names):=by
 unfold jd;obtain⟨⟨sig,hP⟩,hM,hms,rfl,rfl,h1,hO1,hO2⟩:=h;have hV:=hP.a;have h8:=hV.len;have hE:=hV.edges;have hO:=hV.outer;have hrE:=hP.r.edges;have hrO:=hP.r.outer;have hil:(gB ar I m.nodes).1.length=(ar.edges+ar.outer.length).toNat:=by rw[td hM];simp
 simp only[forall_eq,ie,decide_eq_true_eq,decide_eq_false_iff_not,List.drop_zero,List.nil_append,List.length_nil];refine⟨gP hP hM,by omega,?_⟩;refine aI.up I.edges.toNat (fun s=>s.1) (fun k (t:Int × List Int)=>((k:Int),t)) (fun _ _=>rfl) (fun k t=>t=(dq (dH ar I m) k,(List.range k).map (fun i:Nat=>if dH ar I m i=true then dq (dH ar I m) i else -1))) (0,[]) rfl rfl ?_;rintro k _ K hk rfl IH;dsimp only;have kl:=qD (dH ar I m) k;have hcast:(k:Int)+1=((k+1:Nat):Int):=by omega
 refine⟨fun hc=>⟨by omega,by simp;omega,fun h2=>?_,fun h2=>?_⟩,fun hc=>?_⟩
 ·have h3:dH ar I m k=false:=by rw[dH,h2];rfl
  refine⟨by simp;omega,by simp only[bh];omega,?_⟩;rw[hcast];refine IH (by omega) (_,_) ?_;rw[Du _ h3,cQ,if_neg (by rw[h3];simp)]
 ·have h3:dH ar I m k=true:=by rw[dH,h2];rfl
  refine⟨by simp;omega,by simp only[bh];omega,by simp only[bh];omega,?_⟩;rw[hcast];refine IH (by omega) (_,_) ?_;rw[A4 _ h3,cQ,if_pos h3]
 obtain rfl:k=I.edges.toNat:=by omega
 refine⟨⟨by omega,by omega,by omega,by omega⟩,by simp[lM];omega,?_⟩;rw[show (List.range I.edges.toNat).map (fun i:Nat=>if dH ar I m i=true then dq (dH ar I m) i else -1)++lM (dq (dH ar I m) I.edges.toNat) I.outer.length=gz ar I m from rfl];have lk:∀ x:Int,0<=x->x<I.edges+I.outer.length->x<(gz ar I m).length/\at' (gz ar I m) x=mR ar I m x:=fun x x0 x1=>zp x0 x1 hE.1
 refine aI.up I.nodes.length (fun s=>s.1) (fun k (t:List Int × List Bool)=>((k:Int),t)) (fun _ _=>rfl) (fun k t=>t=((List.range k).map (fun i:Nat=>dq (dN I m) i),(List.range k).map (fun i:Nat=>dN I m i))) ([],[]) rfl rfl ?_;rintro i _ K hi rfl IH;dsimp only;have hcast:(i:Int)+1=((i+1:Nat):Int):=by omega
 refine⟨fun hc=>⟨by simp;omega,?_⟩,fun hc=>?_⟩
 ·refine aI.mS i (fun k t=>t=(List.range i).map (fun i:Nat=>dq (dN I m) i)++[dq (dN I m) k]) _ rfl ?_;rintro k _ K2 hk rfl IH2;dsimp only;have ck:=qD (dN I m) k;have hlast:at' ((List.range i).map (fun i:Nat=>dq (dN I m) i)++[dq (dN I m) k]) (i:Int)=dq (dN I m) k:=by
   rw[cK (by simp),List.getElem_append_right (by simp)];simp
  refine⟨fun h2=>⟨by simp;omega,?_⟩,fun h2=>?_⟩
  ·have e:at' ((List.range i).map (fun i:Nat=>dN I m i)) (k:Int)=dN I m k:=by rw[cK (by simp;omega)];simp
   rw[e,hlast];refine⟨fun h3=>⟨by simp;omega,by simp only[bh];omega,by simp;omega,by simp only[bh];omega,IH2 (by omega) _ ?_⟩,fun h3=>⟨by simp only[bh];omega,IH2 (by omega) _ ?_⟩⟩
   ·rw[A4 _ h3,Int.toNat_natCast,List.set_append_right _ _ (by simp)];simp
   ·rw[Du _ h3]
  ·obtain rfl:k=i:=by omega
   refine⟨⟨hV.qR,by omega,hms⟩,by simp;omega,by simp only[bh];omega,?_⟩;rw[hcast];refine IH (by omega) (_,_) ?_;rw[cQ,cQ];have:(!cZ I m.nodes (k:Int))=dN I m k:=by simp[dN,j8]
   rw[fE,this]
 obtain rfl:i=I.nodes.length:=by omega
 refine⟨⟨hV.qR,by simp,fun k h0 h2=>by have:=hV.kq ⟨h0,h2⟩;omega,fun k h0 h2 _ l hl=>by
  have hr:=hV.iT ⟨h0,h2⟩ l hl;exact⟨hr.1,(lk l hr.1 hr.2).1⟩⟩,?_⟩
 rw[Hq hP m];refine aI.mS m.roots.length (fun k t=>t=(m.roots.take k).map (vh I m)) _ (by simp) ?_;rintro k _ K hk rfl IH;dsimp only;have hrr:=hM.2.1.1;have hR4:=hP.r.roots;refine⟨fun hc=>?_,fun hc=>?_⟩
 ·have hk2:k<m.roots.length:=by omega
  obtain⟨r1,r2,r3⟩:=hM.2.1.2 _ (at_mem (l:=m.roots) (i:=(k:Int)) ⟨by omega,by omega⟩);refine⟨by omega,by simp only[lS];simp;omega,by simp;omega,by simp only[bh];omega,IH hk2 _ ?_⟩;rw[ja hk2,List.map_append]
  congr 1
  simp only[List.map_cons,List.map_nil,List.cons.injEq,and_true];rw[vh,qX]
  by_cases h0:at' m.roots (k:Int)<0
  ·rw[if_pos h0,if_pos h0]
  ·rw[if_neg h0,if_neg h0];obtain⟨n,hn⟩:∃ n:Nat,at' m.roots (k:Int)=n:=⟨(at' m.roots (k:Int)).toNat,by omega⟩
   rw[hn,cK (by simp;omega)];simp
 obtain rfl:k=m.roots.length:=by omega
 rw[List.take_length];refine aI.mS ar.outer.length (fun k t=>t=di ar I m k) [] rfl ?_;rintro k _ K hk rfl IH;dsimp only;have wl:(di ar I m k).length=k:=by simp[di]
 refine⟨fun hc=>?_,fun hc=>?_⟩
 ·obtain⟨i1,i2,i3⟩:=HL hP hM (l:=ar.edges+k) (by omega) (by omega);obtain⟨j1,j2⟩:=lk _ i2 i3;refine⟨by omega,by simp only[bh];omega,by omega,⟨i2,j1⟩,by omega,by simp only[bh];omega,IH (by omega) _ ?_⟩;rw[j2,di,di,cQ]
 obtain rfl:k=ar.outer.length:=by omega
 have nl:=kV h1;refine aI.mS (bm I m).length (fun k t=>t=de (di ar I m ar.outer.length) (dO ar I m k)) _ (by simp[dO]) ?_;rintro k _ K hk rfl IH;dsimp only;have wl2:(dO ar I m k).length=k:=by simp[dO]
 refine⟨fun hc=>?_,fun hc=>?_⟩
 ·have hr:=qn hV (at_mem (l:=bm I m) (i:=(k:Int)) ⟨by omega,by omega⟩);obtain⟨j1,j2⟩:=lk _ hr.1 hr.2;refine⟨by omega,by omega,⟨hr.1,j1⟩,by simp only[ks];rw[wM];simp;omega,by simp only[bh];omega,IH (by omega) _ ?_⟩;rw[j2,dO,dO,cQ,de,de,de,List.foldl_append]
  first | done | rfl
 obtain rfl:k=(bm I m).length:=by omega
 rw[fi,yY,DY ar I m h1 hO1]
abbrev gD (sig:cP) (ar I:aG) (m:Match):Prop:=eO sig ar I m
noncomputable abbrev cG (sig:cP) (ar I:aG) (m:Match):aG × Bool:=bM sig ar I m
def fh (sig:List Control) (ar:aG) (I:aG) (m:Match) (Z:(aG × Bool)->Prop):Prop:=
 (gQ sig ar I m)/\∀ r8:(List Int) × (List a6) × Bool,r8=dP sig ar I m->((r8.2.2=true->(kQ ar I m r8.1 r8.2.1)/\∀ r11:aG,r11=fi ar I m r8.1 r8.2.1->(pz sig r11)/\∀ r13:aG × Bool,r13=jx sig r11->Z (r13.1,r13.2))/\(r8.2.2=false->Z ((aG.mk 0 [] [] 0 [] []),false)))
theorem qY (sig:cP) (ar I:aG) (m:Match) (h:gD sig ar I m):fh sig ar I m (fun y=>y=cG sig ar I m):=by
 unfold fh;simp only[forall_eq,dP];refine⟨h,?_⟩;rw[cG,bM,kv]
 by_cases hm:(bW sig ar I && eP ar I m)=true
 ·rw[if_pos hm,if_pos hm,kB];have hm2:=Bool.and_eq_true _ _ ▸ hm;have hp:=fu hm2.1
  by_cases h1:(bm I m).length+ar.outer.length<=16
  ·rw[if_pos h1,if_pos h1];refine⟨fun _=>⟨⟨⟨sig,hp⟩,jz.1 hm2.2,h.2.2.1,rfl,rfl,h1,nm hm2.1⟩,wA h.1 h.2.1 hp (jz.1 hm2.2) h1 h.2.2,rfl⟩,fun h2=>(by cases h2)⟩
  ·rw[if_neg h1,if_neg h1];exact⟨fun h2=>(by cases h2),fun _=>rfl⟩
 ·rw[if_neg hm,if_neg hm];exact⟨fun h2=>(by cases h2),fun _=>rfl⟩
end Go.Ab.Vg
namespace Go.Ab.Vg
theorem se {α:Type} {m:α->Int->α × Int} {f:α->Nat} (hm:∀ x k,f (m x k).1=f x):∀ (l:List α) (k:Int),((bO m l k).1.map f).sum=(l.map f).sum
 | [],_=>rfl
 | x::l,k=>by simp only[bO,List.map_cons,List.sum_cons,hm,se hm l]
theorem sD {α:Type} {m:α->Int->α × Int} {q:α->Prop} (hm:∀ x k,q x->q (m x k).1):∀ (l:List α) (k:Int),(∀ x ∈ l,q x)->∀ x ∈ (bO m l k).1,q x
 | [],_,_=>by simp[bO]
 | x::l,k,h=>by
  intro y hy;simp only[bO,List.mem_cons] at hy;rcases hy with rfl | hy
  ·exact hm x k (h x (by simp))
  ·exact sD hm l _ (fun z hz=>h z (by simp[hz])) y hy
theorem holdB {b:aG} (h:G7 b) (k:Int) (h0:0<=k) (hk:k<=1125899906842624):iq (bR b k).1 k/\ky (bR b k).1 k=(bR b k).2:=by
 obtain⟨⟨_,_,_,_,_,_,h6⟩,_⟩:=Dx h k h0 hk;obtain⟨h1,h2,h3,h4,h5⟩:=h;have e1:((bU b.nodes k).1.map bE).sum=(b.nodes.map bE).sum:=se (fun x k=>by simp[bE,cC,br,eC,dB]) _ _;have e2:∀ x ∈ (bU b.nodes k).1,x.links.length<=1048576:=sD (q:=fun x:ay=>x.links.length<=1048576) (fun x k hx=>by simpa[cC,br,eC,dB] using hx) _ _ h2;have hnl:(bU b.nodes k).1.length=b.nodes.length:=kC _ _ _;have hb2:mQ (bR b k).1=mQ b:=by
  simp only[mQ,bR,e1];simp[br,ch,dZ,eC,dB]
 refine⟨⟨h0,by show (bU b.nodes k).1.length<=_;omega,e2,?_,?_,?_,by omega⟩,xC b k h0⟩<;>simp only[bR,br,ch,dZ,eC,dB]<;>assumption
theorem eqV {sig:cP} {b:aG} (h:cM sig b):G7 b:=by
 refine⟨by have:=h.len;omega,fun z hz=>?_,by have:=h.slen;omega,by have:=h.outer;omega,by have:=h.inner;omega⟩;obtain⟨i,hi,rfl⟩:=List.getElem_of_mem hz;have:=h.kq (i:=(i:Int)) ⟨by omega,by omega⟩;rw[cK hi] at this;omega
theorem eqZ:G7 z0B:=⟨by simp,by simp,by simp,by simp,by simp⟩
theorem remark (b:aG) (k:Int):aG.mk b.roots (bR b k).1.nodes (bR b k).1.sites b.edges (bR b k).1.outer (bR b k).1.inner=(bR b k).1:=rfl
end Go.Ab.Vg
namespace Go.Ab.Vg
theorem ctx_eq (sig:cP) (r a:aG) (m:Match):G7 (bM sig r a m).1:=by
 unfold bM
 split
 ·unfold kB
  split
  ·rw[nh]
   split
   ·rename_i h
    exact eqV (fV h)
   ·exact eqZ
  ·exact eqZ
 ·exact eqZ
abbrev Gd (_:cP) (_ _:aG) (_:Match):Bool:=true
abbrev tB (sig:cP) (r a:aG) (m:Match):Prop:=Dz sig/\ll r/\ll a/\wS m
def o3 (cW:List Control) (bu:aG) (bt:aG) (aM:Match) (Z:Bool->Prop):Prop:=
 (((0:Int)<=1048576/\(1048576:Int)<=1048576)/\Dz cW)/\∀ r7:Int,r7=fq mX cW 1048576->∀ c8:Bool,c8=decide (r7<0)->((c8=true->Z true)/\(c8=false->(((0:Int)<=r7/\(r7:Int)<=1048576)/\ll bu)/\∀ r11:Int,r11=pO bu r7->∀ c12:Bool,c12=decide (r11<0)->((c12=true->Z true)/\(c12=false->(((0:Int)<=r11/\(r11:Int)<=1048576)/\ll bt)/\∀ r15:Int,r15=pO bt r11->∀ c17:Bool,c17=decide (r15<0)->((c17=true->Z true)/\(c17=false->(w3 aM r15)/\∀ r20:Int,r20=IK aM r15->∀ c21:Bool,c21=decide (r20<0)->((c21=true->Z true)/\(c21=false->(dJ cW)/\∀ r25:List Control,r25=fO cW->(cF bu)/\∀ r27:aG,r27=cT bu->(cF bt)/\∀ r29:aG,r29=cT bt->(fT aM)/\∀ r31:Match,r31=kx aM->(gD r25 r27 r29 r31)/\∀ r33:aG × Bool,r33=cG r25 r27 r29 r31->(dJ cW)/\∀ r42:List Control,r42=fO cW->(cF bu)/\∀ r53:aG,r53=cT bu->(cF bt)/\∀ r84:aG,r84=cT bt->(fT aM)/\∀ r119:Match,r119=kx aM->(eZ r42 r53 r84 r119)/\∀ r148:aG × Bool,r148=bM r42 r53 r84 r119->dI (fun (J192:Bool->Prop)=>(G7 r148.1)/\∀ r458:Bool,r458=decide (r148.1=r33.1)->((r458=true->∀ c459:Bool,c459 = !(r148.2 == r33.2)->J192 (c459))/\(r458=false->J192 (true)))) (fun b195=>((b195=true->Z false)/\(b195=false->(dJ cW)/\∀ r214:List Control,r214=fO cW->(r42.length<=1048576)/\∀ r223:Bool,r223=decide (r42=r214)->((r223=true->(cF bu)/\∀ r241:aG,r241=cT bu->(G7 r53)/\∀ r243:Bool,r243=decide (r53=r241)->((r243=true->(cF bt)/\∀ r245:aG,r245=cT bt->(G7 r84)/\∀ r247:Bool,r247=decide (r84=r245)->((r247=true->(fT aM)/\∀ r249:Match,r249=kx aM->(xk r119 r249)/\∀ r251:Bool,r251=eqM r119 r249->((r251=true->(gR r42 1)/\∀ r269:(List Control) × Int,r269=du r42 1->(eW r53 r269.2)/\∀ r292:aG × Int,r292=bR r53 r269.2->(eW r84 r292.2)/\∀ r316:aG × Int,r316=bR r84 r292.2->(kX r119 r316.2)/\∀ r336:Match × Int,r336=js r119 r316.2->dI (fun (J351:Bool->Prop)=>∀ c451:Bool,c451=decide (r336.2<0)->((c451=true->J351 (true))/\(c451=false->(G7 r148.1)/\∀ r454:Bool,r454=decide (r148.1=r33.1)->((r454=true->∀ c455:Bool,c455 = !(r148.2 == r33.2)->J351 (c455))/\(r454=false->J351 (true)))))) (fun b354=>((b354=true->Z false)/\(b354=false->(eW r148.1 1)/\∀ r362:aG × Int,r362=bR r148.1 1->(iq (aG.mk r148.1.roots r362.1.nodes r362.1.sites r148.1.edges r362.1.outer r362.1.inner) 1)/\∀ r380:Int,r380=ky (aG.mk r148.1.roots r362.1.nodes r362.1.sites r148.1.edges r362.1.outer r362.1.inner) 1->∀ c381:Bool,c381=decide (r380<0)->((c381=true->Z false)/\(c381=false->∀ c383:Bool,c383=decide (r380 ≠ r362.2)->((c383=true->Z false)/\(c383=false->(dJ cW)/\∀ r391:List Control,r391=fO cW->(cF bu)/\∀ r393:aG,r393=cT bu->(cF bt)/\∀ r395:aG,r395=cT bt->(fT aM)/\∀ r397:Match,r397=kx aM->(eZ r391 r393 r395 r397)/\∀ r399:aG × Bool,r399=bM r391 r393 r395 r397->dI (fun (J431:Bool->Prop)=>(G7 r399.1)/\∀ r448:Bool,r448=decide (r399.1=r33.1)->((r448=true->∀ c449:Bool,c449 = !(r399.2 == r33.2)->J431 (c449))/\(r448=false->J431 (true)))) (fun b434=>((b434=true->Z false)/\(b434=false->(iq (aG.mk r148.1.roots r362.1.nodes r362.1.sites r148.1.edges r362.1.outer r362.1.inner) 1)/\∀ r442:Int,r442=ky (aG.mk r148.1.roots r362.1.nodes r362.1.sites r148.1.edges r362.1.outer r362.1.inner) 1->∀ c443:Bool,c443=decide (r442<0)->((c443=true->Z false)/\(c443=false->∀ c445:Bool,c445=decide (r442 ≠ r362.2)->((c445=true->Z false)/\(c445=false->Z true)))))))))))))))/\(r251=false->Z false)))/\(r247=false->Z false)))/\(r243=false->Z false)))/\(r223=false->Z false)))))))))))))
theorem FG (sig:cP) (r a:aG) (m:Match) (h:tB sig r a m):o3 sig r a m (fun y=>y=Gd sig r a m):=by
 unfold o3;simp only[forall_eq,decide_eq_true_eq,decide_eq_false_iff_not,fO,cT,kx,cG];obtain⟨h1,h2,h3,h4⟩:=h;refine⟨⟨by omega,h1⟩,fun _=>trivial,fun s1=>?_⟩;have l1:=kT mX sig 1048576 (by omega);refine⟨⟨by omega,h2⟩,fun _=>trivial,fun s2=>?_⟩;have l2:=yA r (fq mX sig 1048576) (by omega);refine⟨⟨by omega,h3⟩,fun _=>trivial,fun s3=>?_⟩;have l3:=yA a (pO r (fq mX sig 1048576)) (by omega);refine⟨⟨by omega,h4⟩,fun _=>trivial,fun s4=>?_⟩;obtain⟨a1,a2,a3,a4⟩:=argsM s1 s2 s3 s4 h2 h3;have hL:=ctx_eq sig r a m;generalize bM sig r a m=an at hL;refine⟨a1,AB a2,AB a3,a4,⟨a2,a3,a4⟩,a1,AB a2,AB a3,a4,⟨a2,a3,a4⟩,fun c=>c=false,⟨hL,fun _=>by simp,fun h=>absurd trivial h⟩,?_⟩;rintro _ rfl;have k1:(du sig 1).2=1+3 * sig.length:=rfl;obtain⟨m1,m2⟩:=Dx (Ie a2) (du sig 1).2 (by omega) (by omega);obtain⟨m3,m4⟩:=Dx (Ie a3) (bR r (du sig 1).2).2 (by omega) (by omega);have k2:(js m (bR a (bR r (du sig 1).2).2).2).2=(bR a (bR r (du sig 1).2).2).2+1 * m.nodes.length+1 * m.roots.length:=rfl;obtain⟨p1,p2⟩:=Dx hL 1 (by omega) (by omega);obtain⟨q1,q2⟩:=holdB hL 1 (by omega) (by omega);simp only[remark,q2];refine⟨fun h=>(by cases h),fun _=>⟨a1,a1,fun _=>⟨AB a2,Ie a2,fun _=>⟨AB a3,Ie a3,fun _=>⟨a4,a4,fun _=>⟨⟨by omega,by omega,by omega⟩,m1,m3,⟨a4,by omega,by omega⟩,fun c=>c=false,⟨fun h=>by omega,fun _=>⟨hL,fun _=>by simp,fun h=>absurd trivial h⟩⟩,?_⟩,fun h=>by simp[eqM] at h⟩,fun h=>absurd trivial h⟩,fun h=>absurd trivial h⟩,fun h=>absurd trivial h⟩⟩;rintro _ rfl;refine⟨fun h=>(by cases h),fun _=>⟨p1,q1,fun h=>by omega,fun _=>⟨fun h=>absurd rfl h,fun _=>⟨a1,AB a2,AB a3,a4,⟨a2,a3,a4⟩,fun c=>c=false,⟨hL,fun _=>by simp,fun h=>absurd trivial h⟩,?_⟩⟩⟩⟩;rintro _ rfl;exact⟨fun h=>(by cases h),fun _=>⟨q1,fun h=>by omega,fun _=>⟨fun h=>absurd rfl h,fun _=>trivial⟩⟩⟩
end Go.Ab.Vg
namespace Go.Ab.Vg
open Go.Proofs
set_option maxRecDepth 100000
attribute [local simp] ay.cells aD.cells aA gL aT bC pA
theorem e207:a8 prog 207:=a8.of func207 (by kernel_rfl) rfl
theorem AE (b:aG) (parent:Int) (Z:(List Int)->Prop) (h:oZ b parent Z):bn prog 207 [.agg (bC false b),int parent] (.s [.c]) (fun r=>∃ y:List Int,Z y/\r = .list true (y.map aA)):=by
 unfold oZ at h;have M:Sep bx 0 [] []:=Sep.nil (by simp);refine bn.of func207 rfl ntmps207 (by simp) fun Q hQ=>?_
 refine J.cut (fun O H n=>(O 0 = .agg (bC false b)/\O 1=int parent)/\Sep H n [] []) (by refine⟨by simp ,M⟩) ?_;rintro O H U ⟨E,M⟩;refine zE fun _ V=>?_
 simp[E];apply V;refine J.cut (fun O H n=>((O 1=int parent/\O 2=pA U 2)/\H (U,2)=some ⟨6,[bC false b]⟩)/\Sep H n [] [(U,2)]) (by refine⟨by simp[E],M.var⟩) ?_;clear E;rintro O H n3 ⟨⟨E,a⟩,M⟩;refine zE fun _ V=>?_
 simp[E,a];apply V;refine J.cut (fun O H n=>∃ (v5:au),((O 1=int parent/\O 2=pA U 2/\O 5=v5)/\H (U,2)=some ⟨6,[bC false b]⟩)/\Sep H n [oI v5 ([]:List Int)] [(U,2)]) (by refine⟨.arr (n3,7) 0 0 0,by simp[E,a],(Sep.addEmpty (l:=[.c]) M)⟩) ?_;clear E a;rintro O H n6 ⟨v5,⟨E,a⟩,M⟩;refine zS fun _ V=>?_
 simp[E,a];apply V;apply J.block;refine J.aI h (fun (sJ:Int × (List Int)) O H n=>match sJ with | (i14,g)=>∃ (i:au),((O 1=int parent/\O 2=pA U 2/\O 5=i/\O 6=int i14)/\H (U,2)=some ⟨6,[bC false b]⟩)/\Sep H n [oI i g] [(U,2)]) (by refine⟨v5,by simp[E,a],M⟩) ?_;clear E a;rintro⟨i14,g⟩ O H n17 K h ⟨i,⟨E,a⟩,M⟩ o;refine zS fun _ V=>?_
 obtain⟨Y,q,h⟩:=aE h;have f21:=fun H=>aN (H:=H) (fr:=false) (f:=(ay.cells false)) bH q
 obtain⟨t,u,h⟩:=aE h;have f23:=aX (k:=.i64) u;simp[E,a,f21,f23,-aw,-aZ];apply V;refine J.ite (b:=t) (by simp[E,a]) (fun d=>?_) (fun d=>?_)
 ·replace h:=h.1 d;apply zK;apply J.block;refine zE fun _ V=>?_
  obtain⟨A,h⟩:=h;obtain⟨ab,B,h⟩:=aE h;have f26:=fun H=>aO (H:=H) (fr:=false) (f:=(ay.cells false)) (k:=.i64) bH (fun _=>rfl) A B
  obtain⟨C,D,h⟩:=aE h;have f28:=dG (k:=.i64) D;simp[E,a,f26,f28,d,-av,-aw];apply V;refine J.ite (b:=C) (by simp[E,a,d]) (fun e=>?_) (fun e=>?_)
  ·replace h:=h.1 e;refine zF fun _ V=>?_
   obtain⟨F,h⟩:=h;obtain⟨j,G,h⟩:=aE h;simp[E,a,d,e,-bb];refine bf [] [] [[int i14]] [aA i14] M aV (by simp) (by simp) (by simp) (by simp[-aH,bc]) (bo (aK.v _ aK.nil)) (by simp) (by simpa using F) ?_;rintro v31 L n33 M N ac;replace M:Sep L n33 [oI v31 j] [(U,2)]:=Sep.ap G M;have a:=(N _ (by simp)).trans a;simp[E,a,d,e];apply V;refine J.cut (fun O H n=>∃ (v37:au),((O 1=int parent/\O 2=pA U 2/\O 5=v37/\O 6=int i14)/\H (U,2)=some ⟨6,[bC false b]⟩)/\Sep H n [oI v37 j] [(U,2)]) (by refine⟨v31,by simp[E,a,d,e],M⟩) ?_;clear E a;rintro O H n38 ⟨v37,⟨E,a⟩,M⟩;refine zI fun _ V=>?_
   obtain⟨R,h⟩:=h;obtain⟨v40,T,h⟩:=aE h;have f41:=aR R T;simp[E,a,f41,-aw];apply V;refine o (v40,j) _ _ _ h (by refine⟨v37,by simp[E,a],M⟩)
  replace h:=h.2 e;apply J.skip;refine zI fun _ V=>?_
  obtain⟨W,h⟩:=h;obtain⟨p,X,h⟩:=aE h;have f44:=aR W X;simp[E,a,f44,d,e,-aw];apply V;refine J.cut (fun O H n=>∃ (v45:au),((O 1=int parent/\O 2=pA U 2/\O 5=v45/\O 6=int p)/\H (U,2)=some ⟨6,[bC false b]⟩)/\Sep H n [oI v45 g] [(U,2)]) (by refine⟨i,by simp[E,a,f44,d,e,-aw],M⟩) ?_;clear E a;rintro O H n46 ⟨v45,⟨E,a⟩,M⟩;refine o (p,g) _ _ _ h (by refine⟨v45,by simp[E,a],M⟩)
 replace h:=h.2 d;refine J.exit rfl ?_;refine zE fun _ V=>?_
 simp[E,a,d];apply V;exact J.bj (v:=i) func207 results207 (by simp[E,a,d]) (hQ _ _ _ _ (Sep.sub (dn:=[]) M (by simp)) ⟨g,h,rfl⟩)
theorem wN (b:aG) (parent:Int) (hp:eS b parent):bn prog 207 [.agg (bC false b),int parent] (.s [.c]) (fun r=>r = .list true ((rF b parent).map aA)):=(AE b parent _ (EH b parent hp)).mono (by rintro _ ⟨_,rfl,rfl⟩;rfl)
theorem e208:a8 prog 208:=a8.of func208 (by kernel_rfl) rfl
theorem xP (b:aG) (parent:Int) (Z:(List Int)->Prop) (h:lN b parent Z):bn prog 208 [.agg (bC false b),int parent] (.s [.c]) (fun r=>∃ y:List Int,Z y/\r = .list true (y.map aA)):=by
 unfold lN at h;have M:Sep bx 0 [] []:=Sep.nil (by simp);refine bn.of func208 rfl ntmps208 (by simp) fun Q hQ=>?_
 refine J.cut (fun O H n=>(O 0 = .agg (bC false b)/\O 1=int parent)/\Sep H n [] []) (by refine⟨by simp ,M⟩) ?_;rintro O H U ⟨E,M⟩;refine zE fun _ V=>?_
 simp[E];apply V;refine J.cut (fun O H n=>((O 1=int parent/\O 2=pA U 2)/\H (U,2)=some ⟨6,[bC false b]⟩)/\Sep H n [] [(U,2)]) (by refine⟨by simp[E],M.var⟩) ?_;clear E;rintro O H n3 ⟨⟨E,a⟩,M⟩;refine zE fun _ V=>?_
 simp[E,a];apply V;refine J.cut (fun O H n=>∃ (v5:au),((O 1=int parent/\O 2=pA U 2/\O 5=v5)/\H (U,2)=some ⟨6,[bC false b]⟩)/\Sep H n [oI v5 ([]:List Int)] [(U,2)]) (by refine⟨.arr (n3,7) 0 0 0,by simp[E,a],(Sep.addEmpty (l:=[.c]) M)⟩) ?_;clear E a;rintro O H n6 ⟨v5,⟨E,a⟩,M⟩;refine zS fun _ V=>?_
 simp[E,a];apply V;apply J.block;refine J.aI h (fun (sJ:Int × (List Int)) O H n=>match sJ with | (i14,g)=>∃ (i:au),((O 1=int parent/\O 2=pA U 2/\O 5=i/\O 6=int i14)/\H (U,2)=some ⟨6,[bC false b]⟩)/\Sep H n [oI i g] [(U,2)]) (by refine⟨v5,by simp[E,a],M⟩) ?_;clear E a;rintro⟨i14,g⟩ O H n17 K h ⟨i,⟨E,a⟩,M⟩ o;refine zS fun _ V=>?_
 obtain⟨Y,q,h⟩:=aE h;have f21:=fun H=>aN (H:=H) (fr:=false) (f:=aA) aV q
 obtain⟨t,u,h⟩:=aE h;have f23:=aX (k:=.i64) u;simp[E,a,f21,f23,-aw,-aZ];apply V;refine J.ite (b:=t) (by simp[E,a]) (fun d=>?_) (fun d=>?_)
 ·replace h:=h.1 d;apply zK;apply J.block;refine zE fun _ V=>?_
  obtain⟨A,h⟩:=h;obtain⟨ab,B,h⟩:=aE h;have f26:=fun H=>aO (H:=H) (fr:=false) (f:=aA) (k:=.i64) aV (fun _=>rfl) A B
  obtain⟨C,D,h⟩:=aE h;have f28:=dG (k:=.i64) D;simp[E,a,f26,f28,d,-av,-aw];apply V;refine J.ite (b:=C) (by simp[E,a,d]) (fun e=>?_) (fun e=>?_)
  ·replace h:=h.1 e;refine zF fun _ V=>?_
   obtain⟨F,h⟩:=h;obtain⟨j,G,h⟩:=aE h;simp[E,a,d,e,-bb];refine bf [] [] [[int i14]] [aA i14] M aV (by simp) (by simp) (by simp) (by simp[-aH,bc]) (bo (aK.v _ aK.nil)) (by simp) (by simpa using F) ?_;rintro v31 L n33 M N ac;replace M:Sep L n33 [oI v31 j] [(U,2)]:=Sep.ap G M;have a:=(N _ (by simp)).trans a;simp[E,a,d,e];apply V;refine J.cut (fun O H n=>∃ (v37:au),((O 1=int parent/\O 2=pA U 2/\O 5=v37/\O 6=int i14)/\H (U,2)=some ⟨6,[bC false b]⟩)/\Sep H n [oI v37 j] [(U,2)]) (by refine⟨v31,by simp[E,a,d,e],M⟩) ?_;clear E a;rintro O H n38 ⟨v37,⟨E,a⟩,M⟩;refine zI fun _ V=>?_
   obtain⟨R,h⟩:=h;obtain⟨v40,T,h⟩:=aE h;have f41:=aR R T;simp[E,a,f41,-aw];apply V;refine o (v40,j) _ _ _ h (by refine⟨v37,by simp[E,a],M⟩)
  replace h:=h.2 e;apply J.skip;refine zI fun _ V=>?_
  obtain⟨W,h⟩:=h;obtain⟨p,X,h⟩:=aE h;have f44:=aR W X;simp[E,a,f44,d,e,-aw];apply V;refine J.cut (fun O H n=>∃ (v45:au),((O 1=int parent/\O 2=pA U 2/\O 5=v45/\O 6=int p)/\H (U,2)=some ⟨6,[bC false b]⟩)/\Sep H n [oI v45 g] [(U,2)]) (by refine⟨i,by simp[E,a,f44,d,e,-aw],M⟩) ?_;clear E a;rintro O H n46 ⟨v45,⟨E,a⟩,M⟩;refine o (p,g) _ _ _ h (by refine⟨v45,by simp[E,a],M⟩)
 replace h:=h.2 d;refine J.exit rfl ?_;refine zE fun _ V=>?_
 simp[E,a,d];apply V;exact J.bj (v:=i) func208 results208 (by simp[E,a,d]) (hQ _ _ _ _ (Sep.sub (dn:=[]) M (by simp)) ⟨g,h,rfl⟩)
theorem pB (b:aG) (parent:Int) (hp:eV b parent):bn prog 208 [.agg (bC false b),int parent] (.s [.c]) (fun r=>r = .list true ((l8 b parent).map aA)):=(xP b parent _ (Bu b parent hp)).mono (by rintro _ ⟨_,rfl,rfl⟩;rfl)
theorem G2:a8 prog 173:=a8.of func173 (by kernel_rfl) rfl
theorem sQ (b:aG) (parent:Int) (Z:((List Int) × (List Int))->Prop) (h:ic b parent Z):bn prog 173 [.agg (bC false b),int parent] (.t [.s [.c],.s [.c]]) (fun r=>∃ y:(List Int) × (List Int),Z y/\r = .tup [.list true (y.1.map aA),.list true (y.2.map aA)]):=by
 unfold ic at h;have M:Sep bx 0 [] []:=Sep.nil (by simp);refine bn.of func173 rfl ntmps173 (by simp) fun Q hQ=>?_
 refine J.cut (fun O H n=>(O 0 = .agg (bC false b)/\O 1=int parent)/\Sep H n [] []) (by refine⟨by simp ,M⟩) ?_;rintro O H U ⟨E,M⟩;refine zE fun _ V=>?_
 simp[E];apply V;refine J.cut (fun O H n=>((O 1=int parent/\O 2=pA U 2)/\H (U,2)=some ⟨6,[bC false b]⟩)/\Sep H n [] [(U,2)]) (by refine⟨by simp[E],M.var⟩) ?_;clear E;rintro O H n3 ⟨⟨E,a⟩,M⟩;refine zE fun _ V=>?_
 simp[E,a];apply V;refine J.cut (fun O H n=>∃ (v6 v7:au),((O 1=int parent/\O 2=pA U 2/\O 6=v7/\O 7=v6)/\H (U,2)=some ⟨6,[bC false b]⟩)/\Sep H n [oI v6 ([]:List Int),oI v7 ([]:List Int)] [(U,2)]) (by refine⟨.arr (n3+1,13) 0 0 0,.arr (n3,12) 0 0 0,by simp[E,a],(Sep.addEmpty (l:=[.c]) (Sep.addEmpty (l:=[.c]) M))⟩) ?_;clear E a;rintro O H n8 ⟨v6,v7,⟨E,a⟩,M⟩;refine zS fun _ V=>?_
 obtain⟨pM,elen9,h⟩:=aE h;have f10:=fun H=>aN (H:=H) (fr:=false) (f:=(ay.cells false)) bH elen9
 simp[E,a,f10,-aZ];apply V;apply J.block;refine J.aI h (fun (sJ:Int × (List Int)) O H n=>match sJ with | (v20,g)=>∃ (v22 v23:au),((O 1=int parent/\O 2=pA U 2/\O 6=v23/\O 7=v22/\O 15 = .list false (b.nodes.map (ay.cells false))/\O 16=int pM/\O 17=int v20)/\H (U,2)=some ⟨6,[bC false b]⟩)/\Sep H n [oI v22 ([]:List Int),oI v23 g] [(U,2)]) (by refine⟨v6,v7,by simp[E,a],M⟩) ?_;clear E a;rintro⟨v20,g⟩ O H n24 K h ⟨v22,v23,⟨E,a⟩,M⟩ N;refine zE fun _ V=>?_
 obtain⟨X,Y,h⟩:=aE h;have f28:=aX (k:=.i64) Y;simp[E,a,f28,-aw];apply V;apply J.seq;refine J.ite (b:=X) (by simp[E,a]) (fun p=>?_) (fun p=>?_)
 ·replace h:=h.1 p;apply zK;apply J.block;refine zE fun _ V=>?_
  obtain⟨ab,h⟩:=h;obtain⟨F,ac,h⟩:=aE h;have f31:=fun H=>aO (H:=H) (fr:=false) (f:=(ay.cells false)) (k:=.i64) bH (fun _=>rfl) ab ac
  simp[E,a,f31,p,-av];apply V;refine J.cut (fun O H n=>∃ (v33 u:au),((O 1=int parent/\O 2=pA U 2/\O 6=u/\O 7=v33/\O 8=int v20/\O 9=pA n24 9/\O 15 = .list false (b.nodes.map (ay.cells false))/\O 16=int pM/\O 17=int v20)/\H (U,2)=some ⟨6,[bC false b]⟩/\H (n24,9)=some ⟨3,[[int F.control,int F.parent,.list false (F.links.map aA)]]⟩)/\Sep H n [oI v33 ([]:List Int),oI u g] [(n24,9),(U,2)]) (by refine⟨v22,v23,by simp[E,a,f31,p,-av],M.var⟩) ?_;clear E a;rintro O H n35 ⟨v33,u,⟨E,a,e⟩,M⟩;refine zE fun _ V=>?_
  obtain⟨ad,af,h⟩:=aE h;have f37:=dG (k:=.i64) af;simp[E,a,e,f37,-aw];apply V;refine J.ite (b:=ad) (by simp[E,a,e]) (fun i=>?_) (fun i=>?_)
  ·replace h:=h.1 i;refine zF fun _ V=>?_
   obtain⟨am,h⟩:=h;obtain⟨G,ao,h⟩:=aE h;simp[E,a,e,i,-bb];refine bf [] [oI v33 ([]:List Int)] [[int v20]] [aA v20] M.f1 aV (by simp) (by simp) (by simp) (by simp[-aH,bc]) (bo (aK.v _ aK.nil)) (by simp) (by simpa using am) ?_;rintro v40 aM n42 M R cc;replace M:Sep aM n42 [oI v40 G,oI v33 ([]:List Int)] [(n24,9),(U,2)]:=Sep.ap ao M;have a:=(R _ (by simp)).trans a;have e:=(R _ (by simp)).trans e;simp[E,a,e,i];apply V;refine J.cut (fun O H n=>∃ (v46 A:au),((O 1=int parent/\O 2=pA U 2/\O 6=v46/\O 7=A/\O 15 = .list false (b.nodes.map (ay.cells false))/\O 16=int pM/\O 17=int v20)/\H (U,2)=some ⟨6,[bC false b]⟩)/\Sep H n [oI v46 G,oI A ([]:List Int)] [(U,2)]) (by refine⟨v40,v33,by simp[E,a,e,i],(Sep.sub M (by simp +contextual))⟩) ?_;clear E a e;rintro O H n48 ⟨v46,A,⟨E,a⟩,M⟩;refine zI fun _ V=>?_
   obtain⟨a0,h⟩:=h;obtain⟨v50,a1,h⟩:=aE h;have f51:=aR a0 a1;simp[E,a,f51,-aw];apply V;refine N (v50,G) _ _ _ h (by refine⟨A,v46,by simp[E,a],M.f1⟩)
  replace h:=h.2 i;apply J.skip;refine zI fun _ V=>?_
  obtain⟨a2,h⟩:=h;obtain⟨v53,a3,h⟩:=aE h;have f54:=aR a2 a3;simp[E,a,e,f54,i,-aw];apply V;refine N (v53,g) _ _ _ h (by refine⟨v33,u,by simp[E,a,e,i],(Sep.sub M (by simp +contextual))⟩)
 replace h:=h.2 p;refine J.exit rfl ?_;refine zS fun _ V=>?_
 obtain⟨T,a4,h⟩:=aE h;have f56:=fun H=>aN (H:=H) (fr:=false) (f:=aA) aV a4
 simp[E,a,f56,p,-aZ];apply V;apply J.block;refine J.aI h (fun (sJ:Int × (List Int)) O H n=>match sJ with | (v66,B)=>∃ (q j:au),(O 1=int parent/\O 6=j/\O 7=q/\O 32 = .list false (b.sites.map aA)/\O 33=int T/\O 34=int v66)/\Sep H n [oI q B,oI j g] []) (by refine⟨v22,v23,by simp[E,a,p],(Sep.sub M (by simp +contextual))⟩) ?_;clear E a;rintro⟨v66,B⟩ O H ce K h ⟨q,j,E,M⟩ W;refine zE fun _ V=>?_
 obtain⟨a5,a9,h⟩:=aE h;have f74:=aX (k:=.i64) a9;simp[E,f74,-aw];apply V;apply J.seq;refine J.ite (b:=a5) (by simp[E]) (fun d=>?_) (fun d=>?_)
 ·replace h:=h.1 d;apply zK;apply J.block;refine zE fun _ V=>?_
  obtain⟨bd,h⟩:=h;obtain⟨ci,be,h⟩:=aE h;have f77:=fun H=>aO (H:=H) (fr:=false) (f:=aA) (k:=.i64) aV (fun _=>rfl) bd be
  simp[E,f77,d,-av];apply V;refine zE fun _ V=>?_
  obtain⟨bi,bk,h⟩:=aE h;have f79:=dG (k:=.i64) bk;simp[E,f79,d,-aw];apply V;refine J.ite (b:=bi) (by simp[E,d]) (fun o=>?_) (fun o=>?_)
  ·replace h:=h.1 o;refine zF fun _ V=>?_
   obtain⟨bs,h⟩:=h;obtain⟨L,bv,h⟩:=aE h;simp[E,d,o,-bb];refine bf [] [oI j g] [[int v66]] [aA v66] M aV (by simp) (by simp) (by simp) (by simp[-aH,bc]) (bo (aK.v _ aK.nil)) (by simp) (by simpa using bs) ?_;rintro v82 b0 b1 M cj ck;replace M:Sep b0 b1 [oI v82 L,oI j g] []:=Sep.ap bv M;simp[E,d,o];apply V;refine J.cut (fun O H n=>∃ (C D:au),(O 1=int parent/\O 6=D/\O 7=C/\O 32 = .list false (b.sites.map aA)/\O 33=int T/\O 34=int v66)/\Sep H n [oI C L,oI D g] []) (by refine⟨v82,j,by simp[E,d,o],M⟩) ?_;clear E;rintro O H cl ⟨C,D,E,M⟩;refine zI fun _ V=>?_
   obtain⟨b2,h⟩:=h;obtain⟨b3,b5,h⟩:=aE h;have f93:=aR b2 b5;simp[E,f93,-aw];apply V;refine W (b3,L) _ _ _ h (by refine⟨C,D,by simp[E],M⟩)
  replace h:=h.2 o;apply J.skip;refine zI fun _ V=>?_
  obtain⟨b7,h⟩:=h;obtain⟨b8,b9,h⟩:=aE h;have f96:=aR b7 b9;simp[E,f96,d,o,-aw];apply V;refine W (b8,B) _ _ _ h (by refine⟨q,j,by simp[E,d,o],M⟩)
 replace h:=h.2 d;refine J.exit rfl ?_;refine zE fun _ V=>?_
 simp[E,d];apply V;exact J.vV (v:=j) (w:=q) func173 results173 (by simp[E,d]) (by simp[E,d]) (hQ _ _ _ _ (Sep.sub (dn:=[]) (Sep.gH (aK.own (aK.own aK.nil)) M.f1) (by simp)) ⟨(g,B),h,rfl⟩)
theorem fD (b:aG) (parent:Int) (hp:cg b parent):bn prog 173 [.agg (bC false b),int parent] (.t [.s [.c],.s [.c]]) (fun r=>r = .tup [.list true (((eX b parent).1).map aA),.list true (((eX b parent).2).map aA)]):=(sQ b parent _ (vq b parent hp)).mono (by rintro _ ⟨_,rfl,rfl⟩;rfl)
end Go.Ab.Vg
namespace Go.Ab.Vg
open Go.Proofs
set_option maxRecDepth 100000
attribute [local simp] Control.cells ay.cells aD.cells aA cp gL aT bC pA
theorem Ic:a8 prog 190:=a8.of func190 (by kernel_rfl) rfl
theorem yH (b:aG) (link:Int) (Z:(List (Int × Int))->Prop) (h:lQ b link Z):bn prog 190 [.agg (bC false b),int link] (.s [.c,.c]) (fun r=>∃ y:List (Int × Int),Z y/\r = .list true (y.map cp)):=by
 unfold lQ at h;have M:Sep bx 0 [] []:=Sep.nil (by simp);refine bn.of func190 rfl ntmps190 (by simp) fun Q hQ=>?_
 refine J.cut (fun O H n=>(O 0 = .agg (bC false b)/\O 1=int link)/\Sep H n [] []) (by refine⟨by simp ,M⟩) ?_;rintro O H U ⟨E,M⟩;refine zE fun _ V=>?_
 simp[E];apply V;refine J.cut (fun O H n=>((O 1=int link/\O 2=pA U 2)/\H (U,2)=some ⟨6,[bC false b]⟩)/\Sep H n [] [(U,2)]) (by refine⟨by simp[E],M.var⟩) ?_;clear E;rintro O H n3 ⟨⟨E,a⟩,M⟩;refine zE fun _ V=>?_
 simp[E,a];apply V;refine J.cut (fun O H n=>∃ (v5:au),((O 1=int link/\O 2=pA U 2/\O 5=v5)/\H (U,2)=some ⟨6,[bC false b]⟩)/\Sep H n [oE [.c,.c] cp v5 ([]:List (Int × Int))] [(U,2)]) (by refine⟨.arr (n3,8) 0 0 0,by simp[E,a],(Sep.addEmpty (l:=[.c,.c]) M)⟩) ?_;clear E a;rintro O H n6 ⟨v5,⟨E,a⟩,M⟩;refine zS fun _ V=>?_
 simp[E,a];apply V;apply J.block;refine J.aI h (fun (sJ:Int × (List (Int × Int))) O H n=>match sJ with | (i14,p)=>∃ (i:au),((O 1=int link/\O 2=pA U 2/\O 5=i/\O 6=int i14)/\H (U,2)=some ⟨6,[bC false b]⟩)/\Sep H n [oE [.c,.c] cp i p] [(U,2)]) (by refine⟨v5,by simp[E,a],M⟩) ?_;clear E a;rintro⟨i14,p⟩ O H n17 K h ⟨i,⟨E,a⟩,M⟩ C;refine zS fun _ V=>?_
 obtain⟨bd,D,h⟩:=aE h;have f21:=fun H=>aN (H:=H) (fr:=false) (f:=(ay.cells false)) bH D
 obtain⟨F,G,h⟩:=aE h;have f23:=aX (k:=.i64) G;simp[E,a,f21,f23,-aw,-aZ];apply V;refine J.ite (b:=F) (by simp[E,a]) (fun e=>?_) (fun e=>?_)
 ·replace h:=h.1 e;apply zK;apply J.block;refine zE fun _ V=>?_
  simp[E,a,e];apply V;apply J.block;refine J.aI h (fun (sJ:Int × (List (Int × Int))) O H n=>match sJ with | (k31,j)=>∃ (v33:au),((O 1=int link/\O 2=pA U 2/\O 5=v33/\O 6=int i14/\O 7=int k31)/\H (U,2)=some ⟨6,[bC false b]⟩)/\Sep H n [oE [.c,.c] cp v33 j] [(U,2)]) (by refine⟨i,by simp[E,a,e],M⟩) ?_;clear E a;rintro⟨k31,j⟩ O H n34 K h ⟨v33,⟨E,a⟩,M⟩ u;refine zS fun _ V=>?_
  obtain⟨L,h⟩:=h;obtain⟨be,q,h⟩:=aE h;have f39:=fun H=>aO (H:=H) (fr:=false) (f:=(ay.cells false)) (k:=.i64) bH (fun _=>rfl) L q
  obtain⟨bi,N,h⟩:=aE h;have f41:=fun H=>aN (H:=H) (fr:=false) (f:=aA) aV N
  obtain⟨R,T,h⟩:=aE h;have f43:=aX (k:=.i64) T;simp[E,a,f39,f41,f43,-av,-aw,-aZ];apply V;refine J.ite (b:=R) (by simp[E,a]) (fun g=>?_) (fun g=>?_)
  ·replace h:=h.1 g;apply zK;apply J.block;refine zE fun _ V=>?_
   obtain⟨W,h⟩:=h;obtain⟨bk,X,h⟩:=aE h;have Y:=q.trans X.symm;subst Y;have f47:=fun H=>aO (H:=H) (fr:=false) (f:=(ay.cells false)) (k:=.i64) bH (fun _=>rfl) W q
   obtain⟨ab,h⟩:=h;obtain⟨bs,ac,h⟩:=aE h;have f50:=fun H=>aO (H:=H) (fr:=false) (f:=aA) (k:=.i64) aV (fun _=>rfl) ab ac
   obtain⟨A,ad,h⟩:=aE h;have f52:=dG (k:=.i64) ad;simp[E,a,f47,f50,f52,g,-av,-aw];apply V;refine J.cut (fun O H n=>∃ (v53:au),((O 1=int link/\O 2=pA U 2/\O 5=v53/\O 6=int i14/\O 7=int k31/\O 37=bool A)/\H (U,2)=some ⟨6,[bC false b]⟩)/\Sep H n [oE [.c,.c] cp v53 j] [(U,2)]) (by refine⟨v33,by simp[E,a,f47,f50,f52,g,-av,-aw],M⟩) ?_;clear E a;rintro O H bv ⟨v53,⟨E,a⟩,M⟩;refine J.ite (b:=A) (by simp[E,a]) (fun d=>?_) (fun d=>?_)
   ·replace h:=h.1 d;refine zF fun _ V=>?_
    obtain⟨af,h⟩:=h;obtain⟨t,am,h⟩:=aE h;simp[E,a,d,-bb];refine bf [] [] [[int i14,int k31]] [cp (i14,k31)] M fp (by simp) (by simp) (by simp) (by simp[-aH,bc]) (bo (aK.v _ (aK.v _ aK.nil))) (by simp) (by simpa using af) ?_;rintro B ao n59 M aM b0;replace M:Sep ao n59 [oE [.c,.c] cp B t] [(U,2)]:=Sep.ap am M;have a:=(aM _ (by simp)).trans a;simp[E,a,d];apply V;refine J.cut (fun O H n=>∃ (o:au),((O 1=int link/\O 2=pA U 2/\O 5=o/\O 6=int i14/\O 7=int k31)/\H (U,2)=some ⟨6,[bC false b]⟩)/\Sep H n [oE [.c,.c] cp o t] [(U,2)]) (by refine⟨B,by simp[E,a,d],M⟩) ?_;clear E a;rintro O H b1 ⟨o,⟨E,a⟩,M⟩;refine zI fun _ V=>?_
    obtain⟨a0,h⟩:=h;obtain⟨v66,a1,h⟩:=aE h;have f67:=aR a0 a1;simp[E,a,f67,-aw];apply V;refine u (v66,t) _ _ _ h (by refine⟨o,by simp[E,a],M⟩)
   replace h:=h.2 d;apply J.skip;refine zI fun _ V=>?_
   obtain⟨a2,h⟩:=h;obtain⟨a3,a4,h⟩:=aE h;have f70:=aR a2 a4;simp[E,a,f70,d,-aw];apply V;refine u (a3,j) _ _ _ h (by refine⟨v53,by simp[E,a,d],M⟩)
  replace h:=h.2 g;refine J.exit rfl ?_;refine zI fun _ V=>?_
  obtain⟨a5,h⟩:=h;obtain⟨v72,a9,h⟩:=aE h;have f73:=aR a5 a9;simp[E,a,f73,g,-aw];apply V;refine C (v72,j) _ _ _ h (by refine⟨v33,by simp[E,a,g],M⟩)
 replace h:=h.2 e;refine J.exit rfl ?_;refine zE fun _ V=>?_
 simp[E,a,e];apply V;exact J.bj (v:=i) func190 results190 (by simp[E,a,e]) (hQ _ _ _ _ (Sep.sub (dn:=[]) M (by simp)) ⟨p,h,rfl⟩)
theorem mK (b:aG) (link:Int) (hp:fP b link):bn prog 190 [.agg (bC false b),int link] (.s [.c,.c]) (fun r=>r = .list true ((hC b link).map cp)):=(yH b link _ (CN b link hp)).mono (by rintro _ ⟨_,rfl,rfl⟩;rfl)
theorem e224:a8 prog 224:=a8.of func224 (by kernel_rfl) rfl
theorem Ao (b:aG) (link:Int) (Z:(List a6)->Prop) (h:ou b link Z):bn prog 224 [.agg (bC false b),int link] (.s [.c]) (fun r=>∃ y:List a6,Z y/\r = .list true (y.map aT)):=by
 unfold ou at h;have M:Sep bx 0 [] []:=Sep.nil (by simp);refine bn.of func224 rfl ntmps224 (by simp) fun Q hQ=>?_
 refine J.cut (fun O H n=>(O 0 = .agg (bC false b)/\O 1=int link)/\Sep H n [] []) (by refine⟨by simp ,M⟩) ?_;rintro O H U ⟨E,M⟩;refine zE fun _ V=>?_
 simp[E];apply V;refine J.cut (fun O H n=>((O 1=int link/\O 2=pA U 2)/\H (U,2)=some ⟨6,[bC false b]⟩)/\Sep H n [] [(U,2)]) (by refine⟨by simp[E],M.var⟩) ?_;clear E;rintro O H n3 ⟨⟨E,a⟩,M⟩;refine zE fun _ V=>?_
 simp[E,a];apply V;refine J.cut (fun O H n=>∃ (v5:au),((O 1=int link/\O 2=pA U 2/\O 5=v5)/\H (U,2)=some ⟨6,[bC false b]⟩)/\Sep H n [oS v5 ([]:List a6)] [(U,2)]) (by refine⟨.arr (n3,7) 0 0 0,by simp[E,a],(Sep.addEmpty (l:=[.c]) M)⟩) ?_;clear E a;rintro O H n6 ⟨v5,⟨E,a⟩,M⟩;refine zS fun _ V=>?_
 simp[E,a];apply V;apply J.block;refine J.aI h (fun (sJ:Int × (List a6)) O H n=>match sJ with | (i14,g)=>∃ (i:au),((O 1=int link/\O 2=pA U 2/\O 5=i/\O 6=int i14)/\H (U,2)=some ⟨6,[bC false b]⟩)/\Sep H n [oS i g] [(U,2)]) (by refine⟨v5,by simp[E,a],M⟩) ?_;clear E a;rintro⟨i14,g⟩ O H n17 K h ⟨i,⟨E,a⟩,M⟩ p;refine zS fun _ V=>?_
 obtain⟨af,u,h⟩:=aE h;have f21:=fun H=>aN (H:=H) (fr:=false) (f:=aD.cells) dt u
 obtain⟨A,B,h⟩:=aE h;have f23:=aX (k:=.i64) B;simp[E,a,f21,f23,-aw,-aZ];apply V;refine J.ite (b:=A) (by simp[E,a]) (fun d=>?_) (fun d=>?_)
 ·replace h:=h.1 d;apply zK;apply J.block;refine zE fun _ V=>?_
  obtain⟨C,h⟩:=h;obtain⟨q,j,h⟩:=aE h;have f26:=fun H=>aO (H:=H) (fr:=false) (f:=aD.cells) (k:=.i64) dt (fun _=>rfl) C j
  obtain⟨D,F,h⟩:=aE h;have f28:=dG (k:=.i64) F;simp[E,a,f26,f28,d,-av,-aw];apply V;refine J.ite (b:=D) (by simp[E,a,d]) (fun e=>?_) (fun e=>?_)
  ·replace h:=h.1 e;refine zF fun _ V=>?_
   obtain⟨G,h⟩:=h;obtain⟨am,L,h⟩:=aE h;have N:=j.trans L.symm;subst N;have f32:=fun H=>aO (H:=H) (fr:=false) (f:=aD.cells) (k:=.i64) dt (fun _=>rfl) G j
   obtain⟨R,h⟩:=h;obtain⟨o,T,h⟩:=aE h;simp[E,a,f32,d,e,-av,-bb];refine bf [] [] [[str q.name]] [aT q.name] M bY (by simp) (by simp) (by simp) (by simp[-aH,bc]) (bo (aK.v _ aK.nil)) (by simp) (by simpa using R) ?_;rintro v35 W n37 M X ao;replace M:Sep W n37 [oS v35 o] [(U,2)]:=Sep.ap T M;have a:=(X _ (by simp)).trans a;simp[E,a,f32,d,e,-av];apply V;refine J.cut (fun O H n=>∃ (v41:au),((O 1=int link/\O 2=pA U 2/\O 5=v41/\O 6=int i14)/\H (U,2)=some ⟨6,[bC false b]⟩)/\Sep H n [oS v41 o] [(U,2)]) (by refine⟨v35,by simp[E,a,f32,d,e,-av],M⟩) ?_;clear E a;rintro O H n42 ⟨v41,⟨E,a⟩,M⟩;refine zI fun _ V=>?_
   obtain⟨Y,h⟩:=h;obtain⟨v44,ab,h⟩:=aE h;have f45:=aR Y ab;simp[E,a,f45,-aw];apply V;refine p (v44,o) _ _ _ h (by refine⟨v41,by simp[E,a],M⟩)
  replace h:=h.2 e;apply J.skip;refine zI fun _ V=>?_
  obtain⟨ac,h⟩:=h;obtain⟨t,ad,h⟩:=aE h;have f48:=aR ac ad;simp[E,a,f48,d,e,-aw];apply V;refine J.cut (fun O H n=>∃ (v49:au),((O 1=int link/\O 2=pA U 2/\O 5=v49/\O 6=int t)/\H (U,2)=some ⟨6,[bC false b]⟩)/\Sep H n [oS v49 g] [(U,2)]) (by refine⟨i,by simp[E,a,f48,d,e,-aw],M⟩) ?_;clear E a;rintro O H n50 ⟨v49,⟨E,a⟩,M⟩;refine p (t,g) _ _ _ h (by refine⟨v49,by simp[E,a],M⟩)
 replace h:=h.2 d;refine J.exit rfl ?_;refine zE fun _ V=>?_
 simp[E,a,d];apply V;exact J.bj (v:=i) func224 results224 (by simp[E,a,d]) (hQ _ _ _ _ (Sep.sub (dn:=[]) M (by simp)) ⟨g,h,rfl⟩)
theorem FT (b:aG) (link:Int) (hp:pL b link):bn prog 224 [.agg (bC false b),int link] (.s [.c]) (fun r=>r = .list true ((BQ b link).map aT)):=(Ao b link _ (Er b link hp)).mono (by rintro _ ⟨_,rfl,rfl⟩;rfl)
theorem e155:a8 prog 155:=a8.of func155 (by kernel_rfl) rfl
theorem vn (b:aG) (link:Int) (Z:((List (Int × Int)) × (List a6))->Prop) (h:kk b link Z):bn prog 155 [.agg (bC false b),int link] (.t [.s [.c,.c],.s [.c]]) (fun r=>∃ y:(List (Int × Int)) × (List a6),Z y/\r = .tup [.list true (y.1.map cp),.list true (y.2.map aT)]):=by
 unfold kk at h;have M:Sep bx 0 [] []:=Sep.nil (by simp);refine bn.of func155 rfl ntmps155 (by simp) fun Q hQ=>?_
 refine J.cut (fun O H n=>(O 0 = .agg (bC false b)/\O 1=int link)/\Sep H n [] []) (by refine⟨by simp ,M⟩) ?_;rintro O H U ⟨E,M⟩;refine zE fun _ V=>?_
 simp[E];apply V;refine J.cut (fun O H n=>((O 1=int link/\O 2=pA U 2)/\H (U,2)=some ⟨6,[bC false b]⟩)/\Sep H n [] [(U,2)]) (by refine⟨by simp[E],M.var⟩) ?_;clear E;rintro O H n3 ⟨⟨E,a⟩,M⟩;refine zE fun _ V=>?_
 simp[E,a];apply V;refine J.cut (fun O H n=>∃ (v6 v7:au),((O 1=int link/\O 2=pA U 2/\O 6=v7/\O 7=v6)/\H (U,2)=some ⟨6,[bC false b]⟩)/\Sep H n [oS v6 ([]:List a6),oE [.c,.c] cp v7 ([]:List (Int × Int))] [(U,2)]) (by refine⟨.arr (n3+1,15) 0 0 0,.arr (n3,14) 0 0 0,by simp[E,a],(Sep.addEmpty (l:=[.c]) (Sep.addEmpty (l:=[.c,.c]) M))⟩) ?_;clear E a;rintro O H n8 ⟨v6,v7,⟨E,a⟩,M⟩;refine zS fun _ V=>?_
 obtain⟨pM,elen9,h⟩:=aE h;have f10:=fun H=>aN (H:=H) (fr:=false) (f:=(ay.cells false)) bH elen9
 simp[E,a,f10,-aZ];apply V;apply J.block;refine J.aI h (fun (sJ:Int × (List (Int × Int))) O H n=>match sJ with | (v20,g)=>∃ (v22 v23:au),((O 1=int link/\O 2=pA U 2/\O 6=v23/\O 7=v22/\O 17 = .list false (b.nodes.map (ay.cells false))/\O 18=int pM/\O 19=int v20)/\H (U,2)=some ⟨6,[bC false b]⟩)/\Sep H n [oS v22 ([]:List a6),oE [.c,.c] cp v23 g] [(U,2)]) (by refine⟨v6,v7,by simp[E,a],M⟩) ?_;clear E a;rintro⟨v20,g⟩ O H n24 K h ⟨v22,v23,⟨E,a⟩,M⟩ a1;refine zE fun _ V=>?_
 obtain⟨a2,a3,h⟩:=aE h;have f28:=aX (k:=.i64) a3;simp[E,a,f28,-aw];apply V;apply J.seq;refine J.ite (b:=a2) (by simp[E,a]) (fun p=>?_) (fun p=>?_)
 ·replace h:=h.1 p;apply zK;apply J.block;refine zE fun _ V=>?_
  obtain⟨a4,h⟩:=h;obtain⟨u,a5,h⟩:=aE h;have f31:=fun H=>aO (H:=H) (fr:=false) (f:=(ay.cells false)) (k:=.i64) bH (fun _=>rfl) a4 a5
  simp[E,a,f31,p,-av];apply V;refine J.cut (fun O H n=>∃ (v33 F:au),((O 1=int link/\O 2=pA U 2/\O 6=F/\O 7=v33/\O 8=int v20/\O 9=pA n24 9/\O 17 = .list false (b.nodes.map (ay.cells false))/\O 18=int pM/\O 19=int v20)/\H (U,2)=some ⟨6,[bC false b]⟩/\H (n24,9)=some ⟨3,[[int u.control,int u.parent,.list false (u.links.map aA)]]⟩)/\Sep H n [oS v33 ([]:List a6),oE [.c,.c] cp F g] [(n24,9),(U,2)]) (by refine⟨v22,v23,by simp[E,a,f31,p,-av],M.var⟩) ?_;clear E a;rintro O H n35 ⟨v33,F,⟨E,a,Y⟩,M⟩;refine zE fun _ V=>?_
  obtain⟨af,a9,h⟩:=aE h;have f37:=fun H=>aN (H:=H) (fr:=false) (f:=aA) aV a9
  simp[E,a,Y,f37,-aZ];apply V;apply J.block;refine J.aI h (fun (sJ:Int × (List (Int × Int))) O H n=>match sJ with | (A,G)=>∃ (v49 v50:au),((O 1=int link/\O 2=pA U 2/\O 6=v50/\O 7=v49/\O 8=int v20/\O 17 = .list false (b.nodes.map (ay.cells false))/\O 18=int pM/\O 19=int v20/\O 25 = .list false (u.links.map aA)/\O 26=int af/\O 27=int A)/\H (U,2)=some ⟨6,[bC false b]⟩)/\Sep H n [oS v49 ([]:List a6),oE [.c,.c] cp v50 G] [(U,2)]) (by refine⟨v33,F,by simp[E,a,Y],(Sep.sub M (by simp +contextual))⟩) ?_;clear E a Y;rintro⟨A,G⟩ O H n51 K h ⟨v49,v50,⟨E,a⟩,M⟩ am;refine zE fun _ V=>?_
  obtain⟨bd,be,h⟩:=aE h;have f55:=aX (k:=.i64) be;simp[E,a,f55,-aw];apply V;apply J.seq;refine J.ite (b:=bd) (by simp[E,a]) (fun d=>?_) (fun d=>?_)
  ·replace h:=h.1 d;apply zK;apply J.block;refine zE fun _ V=>?_
   obtain⟨bi,h⟩:=h;obtain⟨d0,bk,h⟩:=aE h;have f58:=fun H=>aO (H:=H) (fr:=false) (f:=aA) (k:=.i64) aV (fun _=>rfl) bi bk
   simp[E,a,f58,d,-av];apply V;refine zE fun _ V=>?_
   obtain⟨bs,bv,h⟩:=aE h;have f60:=dG (k:=.i64) bv;simp[E,a,f60,d,-aw];apply V;refine J.ite (b:=bs) (by simp[E,a,d]) (fun i=>?_) (fun i=>?_)
   ·replace h:=h.1 i;refine zF fun _ V=>?_
    obtain⟨b0,h⟩:=h;obtain⟨ab,b1,h⟩:=aE h;simp[E,a,d,i,-bb];refine bf [] [oS v49 ([]:List a6)] [[int v20,int A]] [cp (v20,A)] M.f1 fp (by simp) (by simp) (by simp) (by simp[-aH,bc]) (bo (aK.v _ (aK.v _ aK.nil))) (by simp) (by simpa using b0) ?_;rintro ao b2 b3 M b5 d1;replace M:Sep b2 b3 [oE [.c,.c] cp ao ab,oS v49 ([]:List a6)] [(U,2)]:=Sep.ap b1 M;have a:=(b5 _ (by simp)).trans a;simp[E,a,d,i];apply V;refine J.cut (fun O H n=>∃ (L v70:au),((O 1=int link/\O 2=pA U 2/\O 6=L/\O 7=v70/\O 8=int v20/\O 17 = .list false (b.nodes.map (ay.cells false))/\O 18=int pM/\O 19=int v20/\O 25 = .list false (u.links.map aA)/\O 26=int af/\O 27=int A)/\H (U,2)=some ⟨6,[bC false b]⟩)/\Sep H n [oE [.c,.c] cp L ab,oS v70 ([]:List a6)] [(U,2)]) (by refine⟨ao,v49,by simp[E,a,d,i],M⟩) ?_;clear E a;rintro O H d2 ⟨L,v70,⟨E,a⟩,M⟩;refine zI fun _ V=>?_
    obtain⟨b7,h⟩:=h;obtain⟨b8,b9,h⟩:=aE h;have f74:=aR b7 b9;simp[E,a,f74,-aw];apply V;refine am (b8,ab) _ _ _ h (by refine⟨v70,L,by simp[E,a],M.f1⟩)
   replace h:=h.2 i;apply J.skip;refine zI fun _ V=>?_
   obtain⟨cc,h⟩:=h;obtain⟨v76,ce,h⟩:=aE h;have f77:=aR cc ce;simp[E,a,f77,d,i,-aw];apply V;refine am (v76,G) _ _ _ h (by refine⟨v49,v50,by simp[E,a,d,i],M⟩)
  replace h:=h.2 d;refine J.exit rfl ?_;refine zI fun _ V=>?_
  obtain⟨ci,h⟩:=h;obtain⟨v79,cj,h⟩:=aE h;have f80:=aR ci cj;simp[E,a,f80,d,-aw];apply V;refine a1 (v79,G) _ _ _ h (by refine⟨v49,v50,by simp[E,a,d],M⟩)
 replace h:=h.2 p;refine J.exit rfl ?_;refine zS fun _ V=>?_
 obtain⟨ac,ck,h⟩:=aE h;have f82:=fun H=>aN (H:=H) (fr:=false) (f:=aD.cells) dt ck
 simp[E,a,f82,p,-aZ];apply V;apply J.block;refine J.aI h (fun (sJ:Int × (List a6)) O H n=>match sJ with | (N,B)=>∃ (C D:au),(O 1=int link/\O 6=D/\O 7=C/\O 44 = .list false (b.inner.map aD.cells)/\O 45=int ac/\O 46=int N)/\Sep H n [oS C B,oE [.c,.c] cp D g] []) (by refine⟨v22,v23,by simp[E,a,p],(Sep.sub M (by simp +contextual))⟩) ?_;clear E a;rintro⟨N,B⟩ O H R K h ⟨C,D,E,M⟩ aM;refine zE fun _ V=>?_
 obtain⟨cl,co,h⟩:=aE h;have f100:=aX (k:=.i64) co;simp[E,f100,-aw];apply V;apply J.seq;refine J.ite (b:=cl) (by simp[E]) (fun j=>?_) (fun j=>?_)
 ·replace h:=h.1 j;apply zK;apply J.block;refine zE fun _ V=>?_
  obtain⟨cs,h⟩:=h;obtain⟨T,c0,h⟩:=aE h;have f103:=fun H=>aO (H:=H) (fr:=false) (f:=aD.cells) (k:=.i64) dt (fun _=>rfl) cs c0
  simp[E,f103,j,-av];apply V;refine J.cut (fun O H n=>∃ (v105 q:au),((O 1=int link/\O 6=q/\O 7=v105/\O 13=pA R 13/\O 44 = .list false (b.inner.map aD.cells)/\O 45=int ac/\O 46=int N)/\H (R,13)=some ⟨2,[[str T.name,int T.link]]⟩)/\Sep H n [oS v105 B,oE [.c,.c] cp q g] [(R,13)]) (by refine⟨C,D,by simp[E,f103,j,-av],M.var⟩) ?_;clear E;rintro O H n107 ⟨v105,q,⟨E,e⟩,M⟩;refine zE fun _ V=>?_
  obtain⟨c1,c2,h⟩:=aE h;have f109:=dG (k:=.i64) c2;simp[E,e,f109,-aw];apply V;refine J.ite (b:=c1) (by simp[E,e]) (fun o=>?_) (fun o=>?_)
  ·replace h:=h.1 o;refine zF fun _ V=>?_
   obtain⟨c3,h⟩:=h;obtain⟨ad,c4,h⟩:=aE h;simp[E,e,o,-bb];refine bf [] [oE [.c,.c] cp q g] [[str T.name]] [aT T.name] M bY (by simp) (by simp) (by simp) (by simp[-aH,bc]) (bo (aK.v _ aK.nil)) (by simp) (by simpa using c3) ?_;rintro a0 c6 n114 M c8 d3;replace M:Sep c6 n114 [oS a0 ad,oE [.c,.c] cp q g] [(R,13)]:=Sep.ap c4 M;have e:=(c8 _ (by simp)).trans e;simp[E,e,o];apply V;refine J.cut (fun O H n=>∃ (W X:au),(O 1=int link/\O 6=X/\O 7=W/\O 44 = .list false (b.inner.map aD.cells)/\O 45=int ac/\O 46=int N)/\Sep H n [oS W ad,oE [.c,.c] cp X g] []) (by refine⟨a0,q,by simp[E,e,o],(Sep.sub M (by simp +contextual))⟩) ?_;clear E e;rintro O H n120 ⟨W,X,E,M⟩;refine zI fun _ V=>?_
   obtain⟨c9,h⟩:=h;obtain⟨da,dc,h⟩:=aE h;have f123:=aR c9 dc;simp[E,f123,-aw];apply V;refine aM (da,ad) _ _ _ h (by refine⟨W,X,by simp[E],M⟩)
  replace h:=h.2 o;apply J.skip;refine zI fun _ V=>?_
  obtain⟨dl,h⟩:=h;obtain⟨dr,ds,h⟩:=aE h;have f126:=aR dl ds;simp[E,e,f126,o,-aw];apply V;refine aM (dr,B) _ _ _ h (by refine⟨v105,q,by simp[E,e,o],(Sep.sub M (by simp +contextual))⟩)
 replace h:=h.2 j;refine J.exit rfl ?_;refine zE fun _ V=>?_
 simp[E,j];apply V;exact J.vV (v:=D) (w:=C) func155 results155 (by simp[E,j]) (by simp[E,j]) (hQ _ _ _ _ (Sep.sub (dn:=[]) (Sep.gH (aK.own (aK.own aK.nil)) M.f1) (by simp)) ⟨(g,B),h,rfl⟩)
theorem nP (b:aG) (link:Int) (hp:ga b link):bn prog 155 [.agg (bC false b),int link] (.t [.s [.c,.c],.s [.c]]) (fun r=>r = .tup [.list true (((jS b link).1).map cp),.list true (((jS b link).2).map aT)]):=(vn b link _ (A9 b link hp)).mono (by rintro _ ⟨_,rfl,rfl⟩;rfl)
theorem e209:a8 prog 209:=a8.of func209 (by kernel_rfl) rfl
theorem Bc (b:aG) (link:Int) (Z:Bool->Prop) (h:oD b link Z):aF prog 209 [.agg (bC false b),int link] (fun r=>∃ y:Bool,Z y/\r=bool y):=by
 unfold oD at h;refine aF.of func209 rfl ntmps209 (by simp) fun Q hQ=>?_
 refine J.cut (fun O H n=>(O 0 = .agg (bC false b)/\O 1=int link)) (by simp) ?_;rintro O H U E;refine zE fun k' V=>?_
 simp[E];apply V;refine J.cut (fun O H n=>(O 1=int link/\O 2=pA U 2)/\H (U,2)=some ⟨6,[bC false b]⟩) (by refine⟨?_,?_⟩<;>simp[E]) ?_;clear E;rintro O H n3 ⟨E,c⟩;refine zE fun k' V=>?_
 obtain⟨J4,hJ5,hr6⟩:=h;have fin8:∀ (sJ:Bool) (O:Env) (H:ax) (n:Nat),J4 sJ->(match sJ with | b7=>O 4=bool b7)->J prog 209 17 k' O H n Q:=by
  rintro b7 O H n9 h E;replace h:=hr6 _ h;apply V;exact J.bj (v:=bool b7) func209 results209 (by simp[E]) (hQ _ _ _ _ (.of (.v _)) ⟨b7,h,rfl⟩)
 replace h:=hJ5;obtain⟨d,h⟩:=h;obtain⟨u,e,h⟩:=aE h;simp[E,c];refine zA ((mK b link d).pure) Ic (.cons (bB false b) (.cons (.v _ _ _) .nil)) (by simp[E,c]) ?_;rintro _ rfl;rw[<- e];obtain⟨ej,g,h⟩:=aE h;have f13:=fun H=>aN (H:=H) (fr:=true) (f:=cp) fp g
 obtain⟨i,j,h⟩:=aE h;have f15:=dG (k:=.i64) j;rcases Bool.eq_false_or_eq_true i with a | a
 ·replace h:=h.1 a;obtain⟨l,h⟩:=h;obtain⟨A,o,h⟩:=aE h;simp[E,c,f13,f15,a,-aw,-aZ];refine zA ((FT b link l).pure) e224 (.cons (bB false b) (.cons (.v _ _ _) .nil)) (by simp[E,c,f13,f15,a,-aw,-aZ]) ?_;rintro _ rfl;rw[<- o];obtain⟨B,p,h⟩:=aE h;have f19:=fun H=>aN (H:=H) (fr:=true) (f:=aT) bY p
  obtain⟨q,t,h⟩:=aE h;have f21:=dG (k:=.i64) t;simp[E,c,f13,f15,f19,f21,a,-aw,-aZ];exact fin8 (q) _ _ _ h (by simp[E,c,f13,f15,f19,f21,a,-aw,-aZ])
 replace h:=h.2 a;simp[E,c,f13,f15,a,-aw,-aZ];exact fin8 (false) _ _ _ h (by simp[E,c,f13,f15,a,-aw,-aZ])
theorem Fy (b:aG) (link:Int) (hp:pF b link):aF prog 209 [.agg (bC false b),int link] (fun r=>r=bool (nZ b link)):=(Bc b link _ (Em b link hp)).mono (by rintro _ ⟨_,rfl,rfl⟩;rfl)
theorem e174:a8 prog 174:=a8.of func174 (by kernel_rfl) rfl
theorem AR (b:aG) (link:Int) (Z:Bool->Prop) (h:oU b link Z):aF prog 174 [.agg (bC false b),int link] (fun r=>∃ y:Bool,Z y/\r=bool y):=by
 unfold oU at h;refine aF.of func174 rfl ntmps174 (by simp) fun Q hQ=>?_
 refine J.cut (fun O H n=>(O 0 = .agg (bC false b)/\O 1=int link)) (by simp) ?_;rintro O H U E;refine zE fun _ V=>?_
 simp[E];apply V;refine J.cut (fun O H n=>(O 1=int link/\O 2=pA U 2)/\H (U,2)=some ⟨6,[bC false b]⟩) (by refine⟨?_,?_⟩<;>simp[E]) ?_;clear E;rintro O H n3 ⟨E,a⟩;refine zE fun _ V=>?_
 obtain⟨hb4,h⟩:=h;obtain⟨r5,er5,h⟩:=aE h;simp[E,a];refine zA ((nP b link hb4).pure) e155 (.cons (bB false b) (.cons (.v _ _ _) .nil)) (by simp[E,a]) ?_;rintro _ rfl;rw[<- er5];simp[E,a];apply V;refine zE fun _ V=>?_
 obtain⟨dd,elen6,h⟩:=aE h;have f7:=fun H=>aN (H:=H) (fr:=true) (f:=cp) fp elen6
 obtain⟨len8,elen8,h⟩:=aE h;have f9:=fun H=>aN (H:=H) (fr:=true) (f:=aT) bY elen8
 obtain⟨d,h⟩:=h;obtain⟨v11,e,h⟩:=aE h;have f12:=aR d e;obtain⟨c,g,h⟩:=aE h;have f14:=dG (k:=.i64) g;simp[E,a,f7,f9,f12,f14,-aw,-aZ];apply V;refine J.cut (fun O H n=>O 4=bool c) (by simp[E,a,f7,f9,f12,f14,-aw,-aZ]) ?_;clear E a;rintro O H n15 E;exact J.bj (v:=bool c) func174 results174 (by simp[E]) (hQ _ _ _ _ (.of (.v _)) ⟨c,h,rfl⟩)
theorem EA (b:aG) (link:Int) (hp:pD b link):aF prog 174 [.agg (bC false b),int link] (fun r=>r=bool (mM b link)):=(AR b link _ (FN b link hp)).mono (by rintro _ ⟨_,rfl,rfl⟩;rfl)
theorem e175:a8 prog 175:=a8.of func175 (by kernel_rfl) rfl
theorem tQ (b:aG) (Z:Bool->Prop) (h:je b Z):aF prog 175 [.agg (bC false b)] (fun r=>∃ y:Bool,Z y/\r=bool y):=by
 unfold je at h;refine aF.of func175 rfl ntmps175 (by simp) fun Q hQ=>?_
 refine J.cut (fun O H n=>O 0 = .agg (bC false b)) (by simp) ?_;rintro O H U E;refine zE fun k' V=>?_
 simp[E];apply V;refine J.cut (fun O H n=>O 1=pA U 1/\H (U,1)=some ⟨6,[bC false b]⟩) (by refine⟨?_,?_⟩<;>simp[E]) ?_;clear E;rintro O H n3 ⟨E,c⟩;refine zE fun k' V=>?_
 obtain⟨J4,hJ5,hr6⟩:=h;have fin8:∀ (sJ:Bool) (O:Env) (H:ax) (n:Nat),J4 sJ->(match sJ with | b7=>O 2=bool b7)->J prog 175 13 k' O H n Q:=by
  rintro b7 O H n9 h E;replace h:=hr6 _ h;apply V;exact J.bj (v:=bool b7) func175 results175 (by simp[E]) (hQ _ _ _ _ (.of (.v _)) ⟨b7,h,rfl⟩)
 replace h:=hJ5;obtain⟨fX,d,h⟩:=aE h;have f11:=fun H=>aN (H:=H) (fr:=false) (f:=aA) aV d
 obtain⟨e,g,h⟩:=aE h;have f13:=dG (k:=.i64) g;rcases Bool.eq_false_or_eq_true e with a | a
 ·replace h:=h.1 a;obtain⟨o,i,h⟩:=aE h;have f15:=fun H=>aN (H:=H) (fr:=false) (f:=aD.cells) dt i
  obtain⟨j,l,h⟩:=aE h;have f17:=dG (k:=.i64) l;simp[E,c,f11,f13,f15,f17,a,-aw,-aZ];exact fin8 (j) _ _ _ h (by simp[E,c,f11,f13,f15,f17,a,-aw,-aZ])
 replace h:=h.2 a;simp[E,c,f11,f13,a,-aw,-aZ];exact fin8 (false) _ _ _ h (by simp[E,c,f11,f13,a,-aw,-aZ])
theorem w8 (b:aG) (hp:kL b):aF prog 175 [.agg (bC false b)] (fun r=>r=bool (fR b)):=(tQ b _ (yy b hp)).mono (by rintro _ ⟨_,rfl,rfl⟩;rfl)
theorem e109:a8 prog 109:=a8.of func109 (by kernel_rfl) rfl
theorem A0 (sig:List Control) (b:aG) (Z:Bool->Prop) (h:oK sig b Z):aF prog 109 [.list false (sig.map Control.cells),.agg (bC false b)] (fun r=>∃ y:Bool,Z y/\r=bool y):=by
 unfold oK at h;refine aF.of func109 rfl ntmps109 (by simp) fun Q hQ=>?_
 refine J.cut (fun O H n=>(O 0 = .list false (sig.map Control.cells)/\O 1 = .agg (bC false b))) (by simp) ?_;rintro O H U E;refine zE fun k' V=>?_
 simp[E];apply V;refine J.cut (fun O H n=>(O 0 = .list false (sig.map Control.cells)/\O 3=pA U 3)/\H (U,3)=some ⟨6,[bC false b]⟩) (by refine⟨?_,?_⟩<;>simp[E]) ?_;clear E;rintro O H n3 ⟨E,c⟩;refine zE fun k' V=>?_
 obtain⟨J4,hJ5,hr6⟩:=h;have fin8:∀ (sJ:Bool) (O:Env) (H:ax) (n:Nat),J4 sJ->(match sJ with | b7=>O 4=bool b7)->J prog 109 12 k' O H n Q:=by
  rintro b7 O H n9 h E;replace h:=hr6 _ h;apply V;exact J.bj (v:=bool b7) func109 results109 (by simp[E]) (hQ _ _ _ _ (.of (.v _)) ⟨b7,h,rfl⟩)
 replace h:=hJ5;obtain⟨d,h⟩:=h;obtain⟨e,g,h⟩:=aE h;simp[E,c];refine zA (mb sig b d) e107 (.cons (j9 false sig) (.cons (bB false b) .nil)) (by simp[E,c]) ?_;rintro _ rfl;rw[<- g];rcases Bool.eq_false_or_eq_true e with a | a
 ·replace h:=h.1 a;obtain⟨i,h⟩:=h;obtain⟨j,l,h⟩:=aE h;simp[E,c,a];refine zA (w8 b i) e175 (.cons (bB false b) .nil) (by simp[E,c,a]) ?_;rintro _ rfl;rw[<- l];simp[E,c,a];exact fin8 (j) _ _ _ h (by simp[E,c,a])
 replace h:=h.2 a;simp[E,c,a];exact fin8 (false) _ _ _ h (by simp[E,c,a])
theorem FD (sig:List Control) (b:aG) (hp:pQ sig b):aF prog 109 [.list false (sig.map Control.cells),.agg (bC false b)] (fun r=>r=bool (gA sig b)):=(A0 sig b _ (Ec sig b hp)).mono (by rintro _ ⟨_,rfl,rfl⟩;rfl)
theorem e105:a8 prog 105:=a8.of func105 (by kernel_rfl) rfl
theorem w9 (sig:List Control) (b:aG) (Z:Bool->Prop) (h:lP sig b Z):aF prog 105 [.list false (sig.map Control.cells),.agg (bC false b)] (fun r=>∃ y:Bool,Z y/\r=bool y):=by
 unfold lP at h;refine aF.of func105 rfl ntmps105 (by simp) fun Q hQ=>?_
 refine J.cut (fun O H n=>(O 0 = .list false (sig.map Control.cells)/\O 1 = .agg (bC false b))) (by simp) ?_;rintro O H U E;refine zE fun k' V=>?_
 simp[E];apply V;refine J.cut (fun O H n=>(O 0 = .list false (sig.map Control.cells)/\O 3=pA U 3)/\H (U,3)=some ⟨6,[bC false b]⟩) (by refine⟨?_,?_⟩<;>simp[E]) ?_;clear E;rintro O H n3 ⟨E,c⟩;refine zE fun k' V=>?_
 obtain⟨J4,hJ5,hr6⟩:=h;have fin8:∀ (sJ:Bool) (O:Env) (H:ax) (n:Nat),J4 sJ->(match sJ with | b7=>O 4=bool b7)->J prog 105 20 k' O H n Q:=by
  rintro b7 O H n9 h E;replace h:=hr6 _ h;apply V;exact J.bj (v:=bool b7) func105 results105 (by simp[E]) (hQ _ _ _ _ (.of (.v _)) ⟨b7,h,rfl⟩)
 replace h:=hJ5;obtain⟨e,h⟩:=h;obtain⟨g,i,h⟩:=aE h;simp[E,c];refine zA (ra sig b e) e83 (.cons (j9 false sig) (.cons (bB false b) .nil)) (by simp[E,c]) ?_;rintro _ rfl;rw[<- i];rcases Bool.eq_false_or_eq_true g with a | a
 ·replace h:=h.1 a;obtain⟨ej,j,h⟩:=aE h;have f13:=fun H=>aN (H:=H) (fr:=false) (f:=aA) aV j
  obtain⟨l,o,h⟩:=aE h;have f15:=dG (k:=.i64) o;rcases Bool.eq_false_or_eq_true l with d | d
  ·replace h:=h.1 d;obtain⟨u,p,h⟩:=aE h;have f17:=fun H=>aN (H:=H) (fr:=false) (f:=aD.cells) dt p
   obtain⟨q,t,h⟩:=aE h;have f19:=dG (k:=.i64) t;simp[E,c,f13,f15,f17,f19,a,d,-aw,-aZ];exact fin8 (q) _ _ _ h (by simp[E,c,f13,f15,f17,f19,a,d,-aw,-aZ])
  replace h:=h.2 d;simp[E,c,f13,f15,a,d,-aw,-aZ];exact fin8 (false) _ _ _ h (by simp[E,c,f13,f15,a,d,-aw,-aZ])
 replace h:=h.2 a;simp[E,c,a];exact fin8 (false) _ _ _ h (by simp[E,c,a])
theorem Cf (sig:List Control) (b:aG) (hp:nD sig b):aF prog 105 [.list false (sig.map Control.cells),.agg (bC false b)] (fun r=>r=bool (wX sig b)):=(w9 sig b _ (C2 sig b hp)).mono (by rintro _ ⟨_,rfl,rfl⟩;rfl)
theorem e108:a8 prog 108:=a8.of func108 (by kernel_rfl) rfl
theorem yN (b:aG) (Z:Bool->Prop) (h:mE b Z):aF prog 108 [.agg (bC false b)] (fun r=>∃ y:Bool,Z y/\r=bool y):=by
 unfold mE at h;refine aF.of func108 rfl ntmps108 (by simp) fun Q hQ=>?_
 refine J.cut (fun O H n=>O 0 = .agg (bC false b)) (by simp) ?_;rintro O H U E;refine zE fun k' V=>?_
 simp[E];apply V;refine J.cut (fun O H n=>O 1=pA U 1/\H (U,1)=some ⟨6,[bC false b]⟩) (by refine⟨?_,?_⟩<;>simp[E]) ?_;clear E;rintro O H n3 ⟨E,a⟩;refine zS fun k' V=>?_
 obtain⟨J4,hJ5,hr6⟩:=h;have fin8:∀ (sJ:Bool) (O:Env) (H:ax) (n:Nat),J4 sJ->(match sJ with | b7=>(O 1=pA U 1/\O 15=bool b7)/\H (U,1)=some ⟨6,[bC false b]⟩)->J prog 108 62 k' O H n Q:=by
  rintro b7 O H n9 h ⟨E,a⟩;replace h:=hr6 _ h;apply V;refine J.ite (b:=b7) (by simp[E,a]) (fun db7=>?_) (fun db7=>?_)
  ·replace h:=h.1 db7;refine zE fun k' V=>?_
   simp[E,a,db7];apply V;exact J.bj (v:=bool false) func108 results108 (by simp[E,a,db7]) (hQ _ _ _ _ (.of (.v _)) ⟨false,h,rfl⟩)
  replace h:=h.2 db7;apply J.skip;refine zS fun k' V=>?_
  obtain⟨u,h⟩:=h;obtain⟨v11,A,h⟩:=aE h;have f12:=B6 u A;simp[E,a,f12,db7,-xt,fK];apply V;apply J.block;refine J.aI h (fun (sJ:Int) O H n=>match sJ with | placeV15=>(O 1=pA U 1/\O 3=int placeV15)/\H (U,1)=some ⟨6,[bC false b]⟩) (by refine⟨?_,?_⟩<;>simp[E,a,db7]) ?_;clear E a;rintro placeV15 O H n16 K h ⟨E,a⟩ B;refine zS fun k' V=>?_
  obtain⟨cj,C,h⟩:=aE h;have f20:=fun H=>aN (H:=H) (fr:=false) (f:=(ay.cells false)) bH C
  obtain⟨D,F,h⟩:=aE h;have f22:=aX (k:=.i64) F;simp[E,a,f20,f22,-aw,-aZ];apply V;refine J.ite (b:=D) (by simp[E,a]) (fun c=>?_) (fun c=>?_)
  ·replace h:=h.1 c;apply zK;apply J.block;refine zE fun k' V=>?_
   obtain⟨G,h⟩:=h;obtain⟨ck,L,h⟩:=aE h;simp[E,a,c];refine zA ((fD b placeV15 G).pure) G2 (.cons (bB false b) (.cons (.v _ _ _) .nil)) (by simp[E,a,c]) ?_;rintro _ rfl;rw[<- L];simp[E,a,c];apply V;refine zE fun k' V=>?_
   obtain⟨N,R,T⟩:=h;have p:∀ (sJ:Bool) (O:Env) (H:ax) (n:Nat),N sJ->(match sJ with | q=>(O 1=pA U 1/\O 3=int placeV15/\O 48=bool q)/\H (U,1)=some ⟨6,[bC false b]⟩)->J prog 108 62 k' O H n Q:=by
    rintro q O H n30 h ⟨E,a⟩;replace h:=T _ h;apply V;refine J.ite (b:=q) (by simp[E,a]) (fun i=>?_) (fun i=>?_)
    ·replace h:=h.1 i;refine zE fun k' V=>?_
     simp[E,a,i];apply V;exact J.bj (v:=bool false) func108 results108 (by simp[E,a,i]) (hQ _ _ _ _ (.of (.v _)) ⟨false,h,rfl⟩)
    replace h:=h.2 i;apply J.skip;refine zI fun k' V=>?_
    obtain⟨W,h⟩:=h;obtain⟨v32,X,h⟩:=aE h;have f33:=aR W X;simp[E,a,f33,i,-aw];apply V;refine B (v32) _ _ _ h (by refine⟨?_,?_⟩<;>simp[E,a,i])
   replace h:=R;obtain⟨Y,ab,h⟩:=aE h;have f35:=aX (k:=.i64) ab;rcases Bool.eq_false_or_eq_true Y with e | e
   ·replace h:=h.1 e;obtain⟨cl,ac,h⟩:=aE h;have f37:=fun H=>aN (H:=H) (fr:=true) (f:=aA) aV ac
    obtain⟨ad,af,h⟩:=aE h;have f39:=dG (k:=.i64) af;rcases Bool.eq_false_or_eq_true ad with g | g
    ·replace h:=h.1 g;simp[E,a,f35,f37,f39,c,e,g,-aw,-aZ];exact p (true) _ _ _ h (by refine⟨?_,?_⟩<;>simp[E,a,f35,f37,f39,c,e,g,-aw,-aZ])
    replace h:=h.2 g;obtain⟨co,t,h⟩:=aE h;have f41:=fun H=>aN (H:=H) (fr:=true) (f:=aA) aV t
    obtain⟨am,ao,h⟩:=aE h;have f43:=jN (k:=.i64) ao;rcases Bool.eq_false_or_eq_true am with j | j
    ·replace h:=h.1 j;simp[E,a,f35,f37,f39,f41,f43,c,e,g,j,-aw,-aZ];exact p (true) _ _ _ h (by refine⟨?_,?_⟩<;>simp[E,a,f35,f37,f39,f41,f43,c,e,g,j,-aw,-aZ])
    replace h:=h.2 j;obtain⟨cs,ap,h⟩:=aE h;have aM:=t.trans ap.symm;subst aM;have f46:=fun H=>aN (H:=H) (fr:=true) (f:=aA) aV t
    obtain⟨a0,a1,h⟩:=aE h;have f48:=jN (k:=.i64) a1;simp[E,a,f35,f37,f39,f41,f43,f46,f48,c,e,g,j,-aw,-aZ];exact p (a0) _ _ _ h (by refine⟨?_,?_⟩<;>simp[E,a,f35,f37,f39,f41,f43,f46,f48,c,e,g,j,-aw,-aZ])
   replace h:=h.2 e;obtain⟨c0,a2,h⟩:=aE h;have f50:=fun H=>aN (H:=H) (fr:=true) (f:=aA) aV a2
   obtain⟨a3,a4,h⟩:=aE h;have f52:=jN (k:=.i64) a4;simp[E,a,f35,f50,f52,c,e,-aw,-aZ];exact p (a3) _ _ _ h (by refine⟨?_,?_⟩<;>simp[E,a,f35,f50,f52,c,e,-aw,-aZ])
  replace h:=h.2 c;refine J.exit rfl ?_;refine zS fun k' V=>?_
  obtain⟨c1,a5,h⟩:=aE h;have f54:=fun H=>aN (H:=H) (fr:=false) (f:=aT) bY a5
  obtain⟨a9,h⟩:=h;obtain⟨bd,be,h⟩:=aE h;have f57:=aR a9 be;simp[E,a,f54,f57,c,-aw,-aZ];apply V;apply J.block;refine J.aI h (fun (sJ:Int) O H n=>match sJ with | v60=>(O 1=pA U 1/\O 54=int bd/\O 55=int v60)/\H (U,1)=some ⟨6,[bC false b]⟩) (by refine⟨?_,?_⟩<;>simp[E,a,c]) ?_;clear E a;rintro v60 O H n61 K h ⟨E,a⟩ bi;refine zE fun k' V=>?_
  obtain⟨bk,bs,h⟩:=aE h;have f65:=aX (k:=.i64) bs;simp[E,a,f65,-aw];apply V;apply J.seq;refine J.ite (b:=bk) (by simp[E,a]) (fun d=>?_) (fun d=>?_)
  ·replace h:=h.1 d;apply zK;apply J.block;refine zE fun k' V=>?_
   simp[E,a,d];apply V;refine zE fun k' V=>?_
   obtain⟨bv,h⟩:=h;obtain⟨b0,b1,h⟩:=aE h;simp[E,a,d];refine zA (EA b v60 bv) e174 (.cons (bB false b) (.cons (.v _ _ _) .nil)) (by simp[E,a,d]) ?_;rintro _ rfl;rw[<- b1];simp[E,a,d];apply V;refine J.ite (b:=b0) (by simp[E,a,d]) (fun l=>?_) (fun l=>?_)
   ·replace h:=h.1 l;refine zE fun k' V=>?_
    simp[E,a,d,l];apply V;exact J.bj (v:=bool false) func108 results108 (by simp[E,a,d,l]) (hQ _ _ _ _ (.of (.v _)) ⟨false,h,rfl⟩)
   replace h:=h.2 l;apply J.skip;refine zI fun k' V=>?_
   obtain⟨b2,h⟩:=h;obtain⟨b3,b5,h⟩:=aE h;have f70:=aR b2 b5;simp[E,a,f70,d,l,-aw];apply V;refine bi (b3) _ _ _ h (by refine⟨?_,?_⟩<;>simp[E,a,d,l])
  replace h:=h.2 d;refine J.exit rfl ?_;refine zE fun k' V=>?_
  simp[E,a,d];apply V;exact J.bj (v:=bool true) func108 results108 (by simp[E,a,d]) (hQ _ _ _ _ (.of (.v _)) ⟨true,h,rfl⟩)
 replace h:=hJ5;obtain⟨c2,b8,h⟩:=aE h;have f72:=fun H=>aN (H:=H) (fr:=false) (f:=aD.cells) dt b8
 obtain⟨b9,cc,h⟩:=aE h;have f74:=jN (k:=.i64) cc;rcases Bool.eq_false_or_eq_true b9 with o | o
 ·replace h:=h.1 o;simp[E,a,f72,f74,o,-aw,-aZ];exact fin8 (true) _ _ _ h (by refine⟨?_,?_⟩<;>simp[E,a,f72,f74,o,-aw,-aZ])
 replace h:=h.2 o;obtain⟨ce,ci,h⟩:=aE h;have f76:=dG (k:=.i64) ci;simp[E,a,f72,f74,f76,o,-aw,-aZ];exact fin8 (ce) _ _ _ h (by refine⟨?_,?_⟩<;>simp[E,a,f72,f74,f76,o,-aw,-aZ])
theorem Bk (b:aG) (hp:il b):aF prog 108 [.agg (bC false b)] (fun r=>r=bool (xY b)):=(yN b _ (Ca b hp)).mono (by rintro _ ⟨_,rfl,rfl⟩;rfl)
theorem e160:a8 prog 160:=a8.of func160 (by kernel_rfl) rfl
theorem yr (b:aG) (Z:Bool->Prop) (h:ml b Z):aF prog 160 [.agg (bC false b)] (fun r=>∃ y:Bool,Z y/\r=bool y):=by
 unfold ml at h;refine aF.of func160 rfl ntmps160 (by simp) fun Q hQ=>?_
 refine J.cut (fun O H n=>O 0 = .agg (bC false b)) (by simp) ?_;rintro O H U E;refine zE fun k' V=>?_
 simp[E];apply V;refine J.cut (fun O H n=>O 1=pA U 1/\H (U,1)=some ⟨6,[bC false b]⟩) (by refine⟨?_,?_⟩<;>simp[E]) ?_;clear E;rintro O H n3 ⟨E,a⟩;refine zS fun k' V=>?_
 obtain⟨J4,hJ5,hr6⟩:=h;have fin8:∀ (sJ:Bool) (O:Env) (H:ax) (n:Nat),J4 sJ->(match sJ with | b7=>(O 1=pA U 1/\O 14=bool b7)/\H (U,1)=some ⟨6,[bC false b]⟩)->J prog 160 60 k' O H n Q:=by
  rintro b7 O H n9 h ⟨E,a⟩;replace h:=hr6 _ h;apply V;refine J.ite (b:=b7) (by simp[E,a]) (fun db7=>?_) (fun db7=>?_)
  ·replace h:=h.1 db7;refine zE fun k' V=>?_
   simp[E,a,db7];apply V;exact J.bj (v:=bool false) func160 results160 (by simp[E,a,db7]) (hQ _ _ _ _ (.of (.v _)) ⟨false,h,rfl⟩)
  replace h:=h.2 db7;apply J.skip;refine zS fun k' V=>?_
  simp[E,a,db7];apply V;apply J.block;refine J.aI h (fun (sJ:Int) O H n=>match sJ with | p=>(O 1=pA U 1/\O 3=int p)/\H (U,1)=some ⟨6,[bC false b]⟩) (by refine⟨?_,?_⟩<;>simp[E,a,db7]) ?_;clear E a;rintro p O H n13 K h ⟨E,a⟩ A;refine zS fun k' V=>?_
  obtain⟨B,C,h⟩:=aE h;have f17:=aX (k:=.i64) C;simp[E,a,f17,-aw];apply V;refine J.ite (b:=B) (by simp[E,a]) (fun c=>?_) (fun c=>?_)
  ·replace h:=h.1 c;apply zK;apply J.block;refine zE fun k' V=>?_
   obtain⟨D,F,G⟩:=h;have u:∀ (sJ:Bool) (O:Env) (H:ax) (n:Nat),D sJ->(match sJ with | q=>(O 1=pA U 1/\O 3=int p/\O 34=bool q)/\H (U,1)=some ⟨6,[bC false b]⟩)->J prog 160 60 k' O H n Q:=by
    rintro q O H n23 h ⟨E,a⟩;replace h:=G _ h;apply V;refine J.ite (b:=q) (by simp[E,a]) (fun i=>?_) (fun i=>?_)
    ·replace h:=h.1 i;refine zE fun k' V=>?_
     simp[E,a,i];apply V;exact J.bj (v:=bool false) func160 results160 (by simp[E,a,i]) (hQ _ _ _ _ (.of (.v _)) ⟨false,h,rfl⟩)
    replace h:=h.2 i;apply J.skip;refine zI fun k' V=>?_
    obtain⟨L,h⟩:=h;obtain⟨v25,N,h⟩:=aE h;have f26:=aR L N;simp[E,a,f26,i,-aw];apply V;refine A (v25) _ _ _ h (by refine⟨?_,?_⟩<;>simp[E,a,i])
   replace h:=F;obtain⟨R,h⟩:=h;obtain⟨v28,t,h⟩:=aE h;have f29:=nb R t;obtain⟨T,h⟩:=h;obtain⟨c2,W,h⟩:=aE h;simp[E,a,f29,c,-aw];refine zA ((wN b v28 T).pure) e207 (.cons (bB false b) (.cons (.v _ _ _) .nil)) (by simp[E,a,f29,c,-aw]) ?_;rintro _ rfl;rw[<- W];obtain⟨c3,X,h⟩:=aE h;have f33:=fun H=>aN (H:=H) (fr:=true) (f:=aA) aV X
   obtain⟨Y,ab,h⟩:=aE h;have f35:=dG (k:=.i64) ab;rcases Bool.eq_false_or_eq_true Y with g | g
   ·replace h:=h.1 g;simp[E,a,f29,f33,f35,c,g,-aw,-aZ];exact u (true) _ _ _ h (by refine⟨?_,?_⟩<;>simp[E,a,f29,f33,f35,c,g,-aw,-aZ])
   replace h:=h.2 g;obtain⟨ac,h⟩:=h;obtain⟨v37,ad,h⟩:=aE h;have af:=t.trans ad.symm;subst af;have f39:=nb ac t;obtain⟨am,h⟩:=h;obtain⟨c4,ao,h⟩:=aE h;simp[E,a,f29,f33,f35,f39,c,g,-aw,-aZ];refine zA ((pB b v28 am).pure) e208 (.cons (bB false b) (.cons (.v _ _ _) .nil)) (by simp[E,a,f29,f33,f35,f39,c,g,-aw,-aZ]) ?_;rintro _ rfl;rw[<- ao];obtain⟨c6,ap,h⟩:=aE h;have f43:=fun H=>aN (H:=H) (fr:=true) (f:=aA) aV ap
   obtain⟨aM,a0,h⟩:=aE h;have f45:=jN (k:=.i64) a0;simp[E,a,f29,f33,f35,f39,f43,f45,c,g,-aw,-aZ];exact u (aM) _ _ _ h (by refine⟨?_,?_⟩<;>simp[E,a,f29,f33,f35,f39,f43,f45,c,g,-aw,-aZ])
  replace h:=h.2 c;refine J.exit rfl ?_;refine zS fun k' V=>?_
  simp[E,a,c];apply V;apply J.block;refine J.aI h (fun (sJ:Int) O H n=>match sJ with | i48=>(O 1=pA U 1/\O 4=int i48)/\H (U,1)=some ⟨6,[bC false b]⟩) (by refine⟨?_,?_⟩<;>simp[E,a,c]) ?_;clear E a;rintro i48 O H n49 K h ⟨E,a⟩ a1;refine zS fun k' V=>?_
  obtain⟨c8,a2,h⟩:=aE h;have f53:=fun H=>aN (H:=H) (fr:=false) (f:=(ay.cells false)) bH a2
  obtain⟨a3,a4,h⟩:=aE h;have f55:=aX (k:=.i64) a4;simp[E,a,f53,f55,-aw,-aZ];apply V;refine J.ite (b:=a3) (by simp[E,a]) (fun d=>?_) (fun d=>?_)
  ·replace h:=h.1 d;apply zK;apply J.block;refine zE fun k' V=>?_
   obtain⟨a5,h⟩:=h;obtain⟨c9,a9,h⟩:=aE h;simp[E,a,d];refine zA ((pB b i48 a5).pure) e208 (.cons (bB false b) (.cons (.v _ _ _) .nil)) (by simp[E,a,d]) ?_;rintro _ rfl;rw[<- a9];obtain⟨da,bd,h⟩:=aE h;have f59:=fun H=>aN (H:=H) (fr:=true) (f:=aA) aV bd
   obtain⟨be,bi,h⟩:=aE h;have f61:=jN (k:=.i64) bi;simp[E,a,f59,f61,d,-aw,-aZ];apply V;refine J.ite (b:=be) (by simp[E,a,d]) (fun j=>?_) (fun j=>?_)
   ·replace h:=h.1 j;refine zE fun k' V=>?_
    simp[E,a,d,j];apply V;exact J.bj (v:=bool false) func160 results160 (by simp[E,a,d,j]) (hQ _ _ _ _ (.of (.v _)) ⟨false,h,rfl⟩)
   replace h:=h.2 j;apply J.skip;refine zI fun k' V=>?_
   obtain⟨bk,h⟩:=h;obtain⟨bs,bv,h⟩:=aE h;have f64:=aR bk bv;simp[E,a,f64,d,j,-aw];apply V;refine a1 (bs) _ _ _ h (by refine⟨?_,?_⟩<;>simp[E,a,d,j])
  replace h:=h.2 d;refine J.exit rfl ?_;refine zS fun k' V=>?_
  simp[E,a,d];apply V;apply J.block;refine J.aI h (fun (sJ:Int) O H n=>match sJ with | link67=>(O 1=pA U 1/\O 5=int link67)/\H (U,1)=some ⟨6,[bC false b]⟩) (by refine⟨?_,?_⟩<;>simp[E,a,d]) ?_;clear E a;rintro link67 O H n68 K h ⟨E,a⟩ b0;refine zS fun k' V=>?_
  obtain⟨dc,b1,h⟩:=aE h;have f72:=fun H=>aN (H:=H) (fr:=false) (f:=aT) bY b1
  obtain⟨b2,h⟩:=h;obtain⟨dl,b3,h⟩:=aE h;have f75:=aR b2 b3;obtain⟨b5,b8,h⟩:=aE h;have f77:=aX (k:=.i64) b8;simp[E,a,f72,f75,f77,-aw,-aZ];apply V;refine J.ite (b:=b5) (by simp[E,a]) (fun e=>?_) (fun e=>?_)
  ·replace h:=h.1 e;apply zK;apply J.block;refine zE fun k' V=>?_
   obtain⟨b9,h⟩:=h;obtain⟨cc,ce,h⟩:=aE h;simp[E,a,e];refine zA (Fy b link67 b9) e209 (.cons (bB false b) (.cons (.v _ _ _) .nil)) (by simp[E,a,e]) ?_;rintro _ rfl;rw[<- ce];simp[E,a,e];apply V;refine J.ite (b:=cc) (by simp[E,a,e]) (fun l=>?_) (fun l=>?_)
   ·replace h:=h.1 l;refine zE fun k' V=>?_
    simp[E,a,e,l];apply V;exact J.bj (v:=bool false) func160 results160 (by simp[E,a,e,l]) (hQ _ _ _ _ (.of (.v _)) ⟨false,h,rfl⟩)
   replace h:=h.2 l;apply J.skip;refine zI fun k' V=>?_
   obtain⟨ci,h⟩:=h;obtain⟨cj,ck,h⟩:=aE h;have f82:=aR ci ck;simp[E,a,f82,e,l,-aw];apply V;refine b0 (cj) _ _ _ h (by refine⟨?_,?_⟩<;>simp[E,a,e,l])
  replace h:=h.2 e;refine J.exit rfl ?_;refine zE fun k' V=>?_
  simp[E,a,e];apply V;exact J.bj (v:=bool true) func160 results160 (by simp[E,a,e]) (hQ _ _ _ _ (.of (.v _)) ⟨true,h,rfl⟩)
 replace h:=hJ5;obtain⟨dr,cl,h⟩:=aE h;have f84:=fun H=>aN (H:=H) (fr:=false) (f:=aD.cells) dt cl
 obtain⟨co,cs,h⟩:=aE h;have f86:=jN (k:=.i64) cs;rcases Bool.eq_false_or_eq_true co with o | o
 ·replace h:=h.1 o;simp[E,a,f84,f86,o,-aw,-aZ];exact fin8 (true) _ _ _ h (by refine⟨?_,?_⟩<;>simp[E,a,f84,f86,o,-aw,-aZ])
 replace h:=h.2 o;obtain⟨c0,c1,h⟩:=aE h;have f88:=dG (k:=.i64) c1;simp[E,a,f84,f86,f88,o,-aw,-aZ];exact fin8 (c0) _ _ _ h (by refine⟨?_,?_⟩<;>simp[E,a,f84,f86,f88,o,-aw,-aZ])
theorem Cz (b:aG) (hp:nv b):aF prog 160 [.agg (bC false b)] (fun r=>r=bool (xZ b)):=(yr b _ (BF b hp)).mono (by rintro _ ⟨_,rfl,rfl⟩;rfl)
end Go.Ab.Vg
