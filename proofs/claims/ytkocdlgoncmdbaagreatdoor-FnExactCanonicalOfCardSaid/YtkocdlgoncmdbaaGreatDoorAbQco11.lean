/- Merged texts (11 of 17) of the proof that ends in Coy: Rp Rb Md Mk Mn Mu Yb Co Mp Em Sg Na Nc Nd Ne Kr Ks Eq. -/
import Derived.Test.YtkocdlgoncmdbaaGreatDoorAbQco10
open Go.Proofs.Tryz
set_option linter.unusedSectionVars false
set_option linter.unusedSimpArgs false
set_option linter.unusedVariables false
namespace Go.Proofs.YtkocdlgoncmdbaaGreatDoor
open Go.ChangeShapes Go.WideShapes Go.ChangeAt Go.RowKit Go.Ab
set_option maxRecDepth 100000
theorem own:ownKnob Tryz.prog.godebug=none:=by kernel_rfl
theorem laidOut:laidOutB prog=true:=by kernel_rfl
theorem Az:Tryz.prog.underlying 4=some .bool:=Tryz.underlying4
end Go.Proofs.YtkocdlgoncmdbaaGreatDoor
namespace Go.Proofs.YtkocdlgoncmdbaaGreatDoor
open Go.ChangeShapes Go.WideShapes Go.ChangeAt Go.RowKit Go.Ab
set_option maxRecDepth 100000
theorem De:Reader prog 62 Control.cells (fun x=>x.name.length<=9223372036854775807):=by
 have h:=Reader.struct Tryz.underlying62 (n:=3) (by kernel_rfl) (cw.cons (n:=1) rfl (by kernel_rfl) (Reader.str Tryz.underlying9) (cw.cons (n:=1) rfl (by kernel_rfl) (Reader.int Tryz.underlying3) (cw.cons (n:=1) rfl (by kernel_rfl) (Reader.int Tryz.underlying3) (cw.nil 3))));exact h.map (fun p=>⟨p.1,p.2.1,p.2.2.1⟩) (fun p=>rfl) (fun p hp=>hp.1)
theorem rWire:Reader prog 99 aI.cells (fun x=>x.name.length<=9223372036854775807):=by
 have h:=Reader.struct Tryz.underlying99 (n:=2) (by kernel_rfl) (cw.cons (n:=1) rfl (by kernel_rfl) (Reader.str Tryz.underlying9) (cw.cons (n:=1) rfl (by kernel_rfl) (Reader.int Tryz.underlying3) (cw.nil 2)));exact h.map (fun p=>⟨p.1,p.2.1⟩) (fun p=>rfl) (fun p hp=>hp.1)
theorem E2:Reader prog 24 (fun l:List Int=>[Ab.encI false l]) (fun l=>l.length<=9223372036854775807/\∀ p ∈ l,bP p):=
 Reader.slice Tryz.underlying24 (of_decide_eq_true (by kernel_rfl)) (Reader.int Tryz.underlying3)
theorem rStrs:Reader prog 25 (fun l:List cH=>[Ab.encS false l]) (fun l=>l.length<=9223372036854775807/\∀ s ∈ l,s.length<=9223372036854775807):=
 Reader.slice Tryz.underlying25 (of_decide_eq_true (by kernel_rfl)) (Reader.str Tryz.underlying9)
theorem rGNode:Reader prog 96 (ay.cells false) (fun x=>x.links.length<=9223372036854775807/\bP x.parent):=by
 have h:=Reader.struct Tryz.underlying96 (n:=3) (by kernel_rfl) (cw.cons (n:=1) rfl (by kernel_rfl) (Reader.int Tryz.underlying3) (cw.cons (n:=1) rfl (by kernel_rfl) (Reader.int Tryz.underlying3) (cw.cons (n:=1) rfl (by kernel_rfl) E2 (cw.nil 3))));exact h.map (fun p=>⟨p.1,p.2.1,p.2.2.1⟩) (fun p=>rfl) (fun p hp=>⟨hp.2.2.1.1,hp.2.1⟩)
theorem rNodes:Reader prog 23 (fun l:List ay=>[Ab.bE false l]) (fun l=>l.length<=9223372036854775807/\∀ x ∈ l,x.links.length<=9223372036854775807/\bP x.parent):=
 Reader.slice Tryz.underlying23 (of_decide_eq_true (by kernel_rfl)) rGNode
theorem rWires:Reader prog 26 (fun l:List aI=>[Ab.bO false l]) (fun l=>l.length<=9223372036854775807/\∀ x ∈ l,x.name.length<=9223372036854775807):=
 Reader.slice Tryz.underlying26 (of_decide_eq_true (by kernel_rfl)) rWire
theorem rSig:tS prog 22 (bz false) zy:=by
 refine tS.cell (xU Tryz.underlying22) ?_;have h:=Reader.slice Tryz.underlying22 (of_decide_eq_true (by kernel_rfl)) De;exact h.map (fun p=>p) (fun p=>rfl) (fun p hp=>⟨hp.1,hp.2⟩)
theorem rBigF:Reader prog 28 (aG.cells false) oG:=by
 have h:=Reader.struct Tryz.underlying28 (n:=6) (by kernel_rfl) (cw.cons (n:=1) rfl (by kernel_rfl) (Reader.int Tryz.underlying3) (cw.cons (n:=1) rfl (by kernel_rfl) rNodes (cw.cons (n:=1) rfl (by kernel_rfl) E2
  (cw.cons (n:=1) rfl (by kernel_rfl) (Reader.int Tryz.underlying3) (cw.cons (n:=1) rfl (by kernel_rfl) rStrs (cw.cons (n:=1) rfl (by kernel_rfl) rWires (cw.nil 6)))))))
 exact h.map (e':=aG.cells false) (ok':=oG) (fun p=>⟨p.1,p.2.1,p.2.2.1,p.2.2.2.1,p.2.2.2.2.1,p.2.2.2.2.2.1⟩) (fun p=>rfl) (fun p hp=>by
  obtain⟨_,h1,h2,_,h3,h4,_⟩:=hp;exact⟨h1.1,fun x hx=>(h1.2 x hx).1,h2.1,h3.1,h3.2,h4.1,h4.2,fun x hx=>(h1.2 x hx).2,h2.2⟩)
theorem rBig:tS prog 28 (cQ false) oG:=tS.struct Tryz.underlying28 rBigF
end Go.Proofs.YtkocdlgoncmdbaaGreatDoor
namespace Go.Ab.Vg
abbrev DP (x:aG):Prop:=x.nodes.length<=1048576/\(∀ z ∈ x.nodes,z.links.length<=1048576)/\x.sites.length<=1048576/\x.outer.length<=1048576/\x.inner.length<=1048576
theorem eqOf {sig:dG} {b:aG} (h:fF sig b):DP b:=⟨h.nodesLen,h.linksLen,h.sitesLen,h.outerLen,h.innerLen⟩
theorem Ed {sig:dG} {b:aG} (h:fF sig b):dq b:=⟨⟨h.nodesLen,h.linksLen⟩,h.sitesLen,h.outerLen,h.innerLen⟩
theorem zx:∀ {l:List ay},(∀ x ∈ l,x.links.length<=1048576)->(l.map bm).sum<=1048578 * l.length
 | [],_=>by simp
 | x::l,h=>by
  have h1:=zx (l:=l) fun y hy=>h y (by simp[hy])
  have h2:=h x (by simp);simp only[List.map_cons,List.sum_cons,List.length_cons,bm] at h1 ⊢;omega
theorem CF {b:aG} (h:DP b) (k:Int) (h0:0<=k) (hk:k<=1125899906842624):fb b k/\(k<=(cf b k).2/\(cf b k).2<=k+2199027449856):=by
 obtain⟨h1,h2,h3,h4,h5⟩:=h;have hs:=zx h2;have hb:jG b=(b.nodes.map bm).sum+b.sites.length+b.outer.length+2 * b.inner.length:=rfl;refine⟨⟨h0,h1,h2,h3,h4,h5,by omega⟩,?_⟩;have p1:=kf b.nodes k;simp only[cf,bI,b9,dx,en,p1];omega
end Go.Ab.Vg
namespace Go.Ab.Vg
def rootsB (bZ bU:aG) (nodes:List Int):List Int:=(List.range bZ.roots.toNat).map fun r:Nat=>(at' bU.nodes (at' nodes (at' (jk bZ (-1 - (r:Int))) 0))).parent
def canB (bZ bU:aG) (nodes:List Int) (x:Int):Bool:=
 decide ((at' bU.nodes x).control=(at' bZ.nodes (nodes.length:Int)).control) && !qO nodes x && (decide ((at' bZ.nodes (nodes.length:Int)).parent<0) || decide ((at' bU.nodes x).parent=at' nodes (at' bZ.nodes (nodes.length:Int)).parent))
noncomputable def allM (bZ bU:aG) (rs:List Int->List Int) (can:List Int->Int->Bool):Nat->List Int->List Match
 | 0,nodes=>if matchB bZ bU ⟨nodes,rs nodes⟩ then [⟨nodes,rs nodes⟩] else []
 | k+1,nodes=>(List.range bU.nodes.length).flatMap fun x:Nat=>if can nodes (x:Int) then allM bZ bU rs can k (nodes++[(x:Int)]) else []
end Go.Ab.Vg
namespace Go.Ab.Vg
noncomputable abbrev restM (bZ bU:aG) (nodes:List Int):List Match:=allM bZ bU (rootsB bZ bU) (canB bZ bU) (bZ.nodes.length - nodes.length) nodes
noncomputable abbrev C8 (bZ bU:aG):List Match:=restM bZ bU []
end Go.Ab.Vg
namespace Go.Ab.Vg
def mayB (zone:Int) (bU:aG) (m:Match) (x:Int):Bool:=if zone=2 then !(xc bU m.nodes x) else if zone=3 then xc bU m.nodes x && !(qO m.nodes x) else true
noncomputable def holdsB (g:Guard) (bU:aG) (m:Match):Bool:=((C8 g.pattern bU).any fun o=>o.nodes.all (mayB g.zone bU m)) != g.neg
noncomputable abbrev holds (g:Guard) (bU:aG) (m:Match):Bool:=holdsB g bU m
end Go.Ab.Vg
namespace Go.Ab
open Go.Proofs
end Go.Ab
namespace Go.Ab.Vg
end Go.Ab.Vg
namespace Go.Ab.Vg
end Go.Ab.Vg
namespace Go.Ab.Vg
abbrev jK (l:List cH):Prop:=l.length<=1048576
abbrev xJ (l:List cH):List cH:=l
def lD (s:List cH) (Z:(List cH)->Prop):Prop:=
 ∀ c2:Bool,(c2=true->s=[])->((c2=true->Z [])/\(c2=false->(([]:List cH).length+s.length<=1073741824)/\∀ l7:List cH,l7=([]:List cH)++s->Z l7))
theorem An (l:List cH) (h:jK l):lD l (fun y=>y=xJ l):=by
 unfold lD;intro c hc;refine⟨fun h1=>(hc h1).symm,fun _=>⟨by simp;omega,?_⟩⟩;rintro _ rfl;simp
end Go.Ab.Vg
namespace Go.Ab
open Go.Proofs Go.RowKit
def runeS (n:Int):cH:=(Utf8.encode n).data.toList
section
variable {P:Program} {f:FuncId} {N:Nat} {k:List Item} {Q:I->av->Nat->Prop} {Ty:Types} {l:List Oper} {O:Env} {H:av} {n:Nat} {d:Option Tmp} {ty:TypeId} {pos:String} {af:Array Edge} {gu:Option (Nat × Bool)}
end
end Go.Ab
namespace Go.Ab.Vg
def zName (k:Nat):cH:=122::runeS (97+k)
def zq (outer:List cH) (k:Nat):List cH:=((List.range k).map zName).filter fun s=>decide (s ∉ outer)
end Go.Ab.Vg
namespace Go.Ab.Vg
def qb (l:List Int) (s:Int):Int:=if s ∈ l then (l.idxOf s:Int) else -1
def eH (p:Int->Bool) (n:Nat):List Int:=((List.range n).map fun i:Nat=>(i:Int)).filter p
def eI (p:Int->Bool) (n:Nat):Int:=((eH p n).length:Int)
section
variable (p:Int->Bool)
theorem nZ {n:Nat} (h:p n=true):eH p (n+1)=eH p n++[(n:Int)]:=by simp[eH,List.range_succ,h]
theorem qW {n:Nat} (h:p n=false):eH p (n+1)=eH p n:=by simp[eH,List.range_succ,h]
theorem nE {n:Nat} (h:p n=true):eI p (n+1)=eI p n+1:=by rw[eI,nZ p h,eI];simp
theorem uy {n:Nat} (h:p n=false):eI p (n+1)=eI p n:=by rw[eI,qW p h,eI]
theorem sD {n:Nat} {x:Int}:x ∈ eH p n↔(0<=x/\x<n)/\p x=true:=by
 simp only[eH,List.mem_filter,List.mem_map,List.mem_range];exact⟨fun ⟨⟨i,h1,h2⟩,h3⟩=>⟨by omega,h3⟩,fun ⟨h1,h2⟩=>⟨⟨x.toNat,by omega,by omega⟩,h2⟩⟩
theorem sX (n:Nat):(eH p n).length<=n:=by
 have:=List.length_filter_le p ((List.range n).map fun i:Nat=>(i:Int));simpa[eH] using this
theorem EK (n:Nat):0<=eI p n/\eI p n<=n:=by
 have:=sX p n;rw[eI];omega
theorem yd {n:Nat} {x:Int} (h:x ∈ eH p n):qb (eH p n) x=eI p x.toNat:=by
 induction n with
 | zero=>simp[eH] at h
 | succ n ih=>
  cases hp:p n
  ·rw[qW p hp] at h ⊢;exact ih h
  ·rw[nZ p hp] at h ⊢
   by_cases hm:x ∈ eH p n
   ·rw[<- ih hm,qb,qb,if_pos h,if_pos hm,List.idxOf_append,if_pos hm]
   ·have hx:x=n:=by simpa[hm] using h
    subst hx;rw[qb,if_pos h,List.idxOf_append,if_neg hm];simp[eI]
theorem vk {p q:Int->Bool} {n:Nat} (h:∀ x:Int,0<=x->x<n->p x=q x):eH p n=eH q n:=by
 refine List.filter_congr fun x hx=>?_
 simp only[List.mem_map,List.mem_range] at hx;obtain⟨i,h1,rfl⟩:=hx;exact h _ (by omega) (by omega)
theorem Am {m n:Nat} (h:m<=n):eI p m<=eI p n:=by
 induction n with
 | zero=>rw[show m=0 by omega];exact Int.le_refl _
 | succ n ih=>
  rcases Nat.lt_or_ge m (n+1) with h1 | h1
  ·refine Int.le_trans (ih (by omega)) ?_;cases hp:p n
   ·rw[uy p hp];exact Int.le_refl _
   ·rw[nE p hp];omega
  ·rw[show m=n+1 by omega];exact Int.le_refl _
end
end Go.Ab.Vg
namespace Go.Ab.Vg
theorem BJ {α:Type} (f:Nat->α) (n k:Nat) (v:α):((List.range n).map f).set k v=(List.range n).map fun i=>if i=k then v else f i:=by
 refine List.ext_getElem (by simp) fun i h1 h2=>?_
 simp only[List.getElem_set,List.getElem_map,List.getElem_range]
 by_cases h:k=i
 ·simp[h]
 ·simp[h,Ne.symm h]
abbrev z0B:aG:=⟨0,[],[],0,[],[]⟩
end Go.Ab.Vg
namespace Go.Ab.Vg
theorem o6 {α:Type} {m:α->Int->α × Int} {f:α->Nat} (hm:∀ x k,f (m x k).1=f x):∀ (l:List α) (k:Int),((bN m l k).1.map f).sum=(l.map f).sum
 | [],_=>rfl
 | x::l,k=>by simp only[bN,List.map_cons,List.sum_cons,hm,o6 hm l]
theorem oB {α:Type} {m:α->Int->α × Int} {q:α->Prop} (hm:∀ x k,q x->q (m x k).1):∀ (l:List α) (k:Int),(∀ x ∈ l,q x)->∀ x ∈ (bN m l k).1,q x
 | [],_,_=>by simp[bN]
 | x::l,k,h=>by
  intro y hy;simp only[bN,List.mem_cons] at hy;rcases hy with rfl | hy
  ·exact hm x k (h x (by simp))
  ·exact oB hm l _ (fun z hz=>h z (by simp[hz])) y hy
theorem holdB {b:aG} (h:DP b) (k:Int) (h0:0<=k) (hk:k<=1125899906842624):fS (cf b k).1 k/\iE (cf b k).1 k=(cf b k).2:=by
 obtain⟨⟨_,_,_,_,_,_,h6⟩,_⟩:=CF h k h0 hk;obtain⟨h1,h2,h3,h4,h5⟩:=h;have e1:((bR b.nodes k).1.map bm).sum=(b.nodes.map bm).sum:=o6 (fun x k=>by simp[bm,ck,bI,en,cW]) _ _;have e2:∀ x ∈ (bR b.nodes k).1,x.links.length<=1048576:=oB (q:=fun x:ay=>x.links.length<=1048576) (fun x k hx=>by simpa[ck,bI,en,cW] using hx) _ _ h2;have hnl:(bR b.nodes k).1.length=b.nodes.length:=iS _ _ _;have hb2:jG (cf b k).1=jG b:=by
  simp only[jG,cf,e1];simp[bI,b9,dx,en,cW]
 refine⟨⟨h0,by show (bR b.nodes k).1.length<=_;omega,e2,?_,?_,?_,by omega⟩,uH b k h0⟩<;>simp only[cf,bI,b9,dx,en,cW]<;>assumption
theorem eqZ:DP z0B:=⟨by simp,by simp,by simp,by simp,by simp⟩
theorem remark (b:aG) (k:Int):aG.mk b.roots (cf b k).1.nodes (cf b k).1.sites b.edges (cf b k).1.outer (cf b k).1.inner=(cf b k).1:=rfl
end Go.Ab.Vg
namespace Go.Ab.Vg
structure jH where
 edges:List Int
 places:List Int
instance:Inhabited jH:=⟨⟨[],[]⟩⟩
abbrev tl (b:aG):List Int × jH:=((aY b).order,⟨(aY b).s.es,(aY b).s.pl⟩)
abbrev wi (b:aG):Prop:=∃ sig,bn sig b
theorem vI {b:aG} (he:mG b) (hd:fu b):nt b ≠ []:=lv (by simpa using (mr he hd b.nodes.length (Nat.le_refl _)).2)
theorem DC {b:aG} (he:mG b) (hd:fu b):∃ a ∈ bX b b.nodes.length,aY b=db b a:=by
 have hne:=vI he hd;obtain⟨f1,_⟩:=nU (nt b) (at' (nt b) 0);have hm:aY b ∈ nt b:=by
  rcases f1 with f1 | f1
  ·rw[aY,f1];exact at_mem ⟨by omega,by have:=List.length_pos_iff.2 hne;omega⟩
  ·exact f1
 obtain⟨a,ha,e⟩:=List.mem_map.1 (lY hm);exact⟨a,ha,e.symm⟩
theorem xK {sig:dG} {b:aG} (hv:bn sig b):((aY b).code,(aY b).order)=dH b b.nodes.length (jf b):=
 (wG hv.even hv.sm (fun p hp=>(hv.sites p hp).2) (by rw[nt,zw]) _ (at_mem ⟨by omega,by have:=List.length_pos_iff.2 (vI hv.even hv.sm);omega⟩)).1
abbrev pw (b:aG):List Int:=(aY b).order
abbrev kI (b:aG):Prop:=∃ sig,bn sig b
def jI (b:aG) (Z:(List Int)->Prop):Prop:=
 ∀ nk:Int,nk=(b.nodes.length:Int)->(hU nk)/\∀ r7:List Int,r7=iu nk->(hU b.edges)/\∀ r9:List Int,r9=iu b.edges->(hC b r7 r9 0)/\∀ r11:(List Int) × (List Int),r11=j5 b r7 r9 0->Z r11.2
theorem qQ {sig:dG} {b:aG} (hv:bn sig b):eT b (iu b.nodes.length) (iu b.edges) 0 (jf b):=by
 refine⟨by simpa using xZ,E1 b,⟨hv.edges,by simp[jf],by simp[jf]⟩,by simp[jf,iu],?_,by omega⟩;simp only[jf,iu,cD,List.not_mem_nil,if_false];rw[List.map_const',List.length_range]
theorem yM (b:aG) (h:kI b):jI b (fun y=>y=pw b):=by
 unfold jI;obtain⟨sig,hv⟩:=h;have hn:=hv.len;have he:=hv.edges;have e:=mT (qQ hv);rw[show b.nodes.length - (0:Int).toNat=b.nodes.length by simp,<- xK hv] at e;simp only[forall_eq];exact⟨⟨by omega,by omega⟩,⟨by omega,by omega⟩,⟨⟨sig,hv⟩,_,qQ hv⟩,by rw[e]⟩
end Go.Ab.Vg
namespace Go.Ab.Vg
theorem qR (b:aG) (o t:List Int):∀ i≤o.length,rG b (o++t) i=rG b o i
 | 0,_=>rfl
 | i+1,h=>by
  have e:at' (o++t) (i:Int)=at' o (i:Int):=by rw[bo (show i<(o++t).length by simp;omega),bo (show i<o.length by omega),List.getElem_append_left]
  simp only[rG,qR b o t i (by omega),e]
structure AttC (b:aG) (m:Nat) (a:gl):Prop where
 s:a.s=(rG b a.order m).2
 nd:a.order.Nodup
 rng:∀ k ∈ a.order,0<=k/\k<b.nodes.length
 pos:∀ i:Nat,i<m->at' a.s.pl (at' a.order (i:Int))=i
theorem CA {sig:dG} {b:aG} (hv:bn sig b) {m:Nat} (hm:m<=8) {a x:gl} (h:wE b m a) (hc:AttC b m a) (hx:x ∈ fV b a):AttC b (m+1) x:=by
 simp only[fV,List.mem_map] at hx;obtain⟨k,hk,rfl⟩:=hx;have hr:=(cF.1 hk).1;have hf:at' a.s.pl k<0:=by
  have:=(cF.1 hk).2;simp only[dm,Bool.and_eq_true,decide_eq_true_eq] at this;exact this.1
 have hkm:k ∉ a.order:=fun hm2=>by have:=(h.mem k hr).1 hm2;omega
 have hkl:0<=k/\k<a.s.pl.length:=by rw[h.s.pl];exact hr
 have hn:=h.s.num;have e0:at' (a.order++[k]) (m:Int)=k:=by rw[bo (by simp[h.ord]),List.getElem_append_right (by simp[h.ord])];simp[h.ord]
 refine⟨?_,?_,fun j hj=>?_,fun i hi=>?_⟩
 ·simp only[rG];rw[qR b _ _ m (by rw[h.ord];omega),<- hc.s,e0]
 ·simp only;rw[List.nodup_append];exact⟨hc.nd,by simp,fun x hx c hc2=>by simp only[List.mem_singleton] at hc2;subst hc2;exact fun e=>hkm (e ▸ hx)⟩
 ·rcases List.mem_append.1 hj with hj | hj
  ·exact hc.rng j hj
  ·simp only[List.mem_singleton] at hj;subst hj;exact hr
 ·simp only[bF]
  by_cases he:i=m
  ·subst he;rw[e0,iK hr.1 hkl,if_pos rfl,hn]
  ·have hi2:i<m:=by omega
   have e1:at' (a.order++[k]) (i:Int)=at' a.order (i:Int):=by rw[bo (by simp[h.ord];omega),bo (by rw[h.ord];omega),List.getElem_append_left]
   have hmem:at' a.order (i:Int) ∈ a.order:=at_mem (by rw[h.ord];omega);rw[e1,iK (hc.rng _ hmem).1 hkl,if_neg (fun e=>hkm (by rw[<- e];exact hmem))];exact hc.pos i hi2
theorem Da {sig:dG} {b:aG} (hv:bn sig b):∀ m≤b.nodes.length,∀ a ∈ bX b m,AttC b m a
 | 0,_,a,ha=>by
  rw[List.mem_singleton.1 ha];exact⟨rfl,by simp,by simp,fun i hi=>by omega⟩
 | m+1,hm,a,ha=>by
  have hn:=hv.len;obtain⟨x,hx,h2⟩:=List.mem_flatMap.1 (lY ha);exact CA hv (by omega) (mz hv m (by omega) x hx) (Da hv m (by omega) x hx) h2
structure CZ (b:aG):Prop where
 len:(aY b).order.length=b.nodes.length
 nd:(aY b).order.Nodup
 rng:∀ k ∈ (aY b).order,0<=k/\k<b.nodes.length
 pl:(aY b).s.pl.length=b.nodes.length
 pos:∀ i:Nat,i<b.nodes.length->at' (aY b).s.pl (at' (aY b).order (i:Int))=i
 es:lT b (aY b).s.es
 code:(lZ b (aY b).order).2=cD b (aY b).s.es
theorem Ew {sig:dG} {b:aG} (hv:bn sig b):CZ b:=by
 obtain⟨a,ha,e⟩:=DC hv.even hv.sm;have h1:=mz hv _ (Nat.le_refl _) a ha;have h2:=Da hv _ (Nat.le_refl _) a ha;obtain⟨e1,e2,e3⟩:=DG hv h2.rng a.order.length (Nat.le_refl _);obtain⟨t1,t2⟩:=ei (b.inner.map fun w=>w.link) _ e2 fun l hl=>by
  obtain⟨w,hw,rfl⟩:=List.mem_map.1 hl;exact (hv.wires w hw).1
 have hs:(rG b a.order a.order.length).2=a.s:=by rw[h1.ord];exact h2.s.symm
 rw[hs] at t2;refine⟨?_,?_,?_,?_,?_,?_,?_⟩<;>rw[e]
 ·exact h1.ord
 ·exact h2.nd
 ·exact h2.rng
 ·exact h1.s.pl
 ·exact h2.pos
 ·exact t2
 ·simp only[db];rw[Be hv h2.rng,hs]
theorem uW {l:List Int} {n:Nat} (hn:l.Nodup) (h:∀ x ∈ l,0<=x/\x<n):l.length<=n:=by
 have:=hn.length_le_of_subset (l₂:=(List.range n).map fun i:Nat=>(i:Int)) fun x hx=>by
  have:=h x hx;exact List.mem_map.2 ⟨x.toNat,List.mem_range.2 (by omega),by omega⟩
 simpa using this
theorem CZ.mem {b:aG} (h:CZ b) {k:Int} (hk:0<=k/\k<b.nodes.length):k ∈ (aY b).order:=by
 by_cases hm:k ∈ (aY b).order
 ·exact hm
 ·have:=uW (l:=k::(aY b).order) (n:=b.nodes.length) (List.nodup_cons.2 ⟨hm,h.nd⟩) fun x hx=>by
   rcases List.mem_cons.1 hx with rfl | hx
   ·exact hk
   ·exact h.rng x hx
  have hl:=h.len;simp only[List.length_cons] at this;omega
theorem CZ.at {b:aG} (h:CZ b) {k:Int} (hk:0<=k/\k<b.nodes.length):at' (aY b).s.pl k=(((aY b).order.idxOf k:Nat):Int):=by
 have hm:=h.mem hk;have hi:=List.idxOf_lt_length_of_mem hm;have:=h.pos _ (by rw[<- h.len];exact hi)
 rwa [bo hi,List.getElem_idxOf] at this
abbrev hZ (_:Int) (_:aG) (edges:List Int):Prop:=edges.length<=1048576
abbrev iR (l:Int) (b:aG) (edges:List Int):Int:=if l >= b.edges then l else dA edges l
def mI (l:Int) (v_:aG) (v_':List Int) (Z:Int->Prop):Prop:=
 ∀ c2:Bool,c2=decide (v_.edges<=l)->((c2=true->Z l)/\(c2=false->(lW v_' l)/\∀ r5:Int,r5=dA v_' l->Z r5))
theorem Co (l:Int) (b:aG) (edges:List Int) (h:hZ l b edges):mI l b edges (fun y=>y=iR l b edges):=by
 unfold mI;simp only[forall_eq,decide_eq_true_eq,decide_eq_false_iff_not];exact⟨fun h1=>by rw[iR,if_pos h1],fun h1=>⟨h,by rw[iR,if_neg h1]⟩⟩
abbrev hJ (p:Int) (c:jH):Prop:=p<c.places.length
abbrev jA (p:Int) (c:jH):Int:=if 0<=p then at' c.places p else p
def nB (p:Int) (v_:jH) (Z:Int->Prop):Prop:=
 ∀ c2:Bool,c2=decide (0<=p)->((c2=true->(0<=p/\p<v_.places.length)/\∀ x5:Int,x5=at' v_.places p->Z x5)/\(c2=false->Z p))
theorem CE (p:Int) (c:jH) (h:hJ p c):nB p c (fun y=>y=jA p c):=by
 unfold nB;simp only[forall_eq,decide_eq_true_eq,decide_eq_false_iff_not];exact⟨fun h1=>⟨⟨h1,h⟩,by rw[jA,if_pos h1]⟩,fun h1=>by rw[jA,if_neg h1]⟩
theorem ss {l:List Int} {x:Int} (h:qO l x=true):x ∈ l:=vV.1 h
theorem qN {l:List Int} {x:Int} (h:qO l x=false):x ∉ l:=D9.1 h
abbrev j4 (es:List Int) (n:Nat):List Int:=eH (fun l => !decide (l ∈ es)) n
def wO (b:aG):List Int:=(aY b).s.es++j4 (aY b).s.es b.edges.toNat
def gV (b:aG) (k:Int):ay:=⟨(at' b.nodes k).control,jA (at' b.nodes k).parent (tl b).2,(at' b.nodes k).links.map fun l=>iR l b (wO b)⟩
def ep (b:aG):aG:=⟨b.roots,(aY b).order.map (gV b),b.sites.map (fun p=>jA p (tl b).2),b.edges,b.outer,b.inner.map fun w=>⟨w.name,iR w.link b (wO b)⟩⟩
abbrev lV (b:aG):Prop:=∃ sig,bn sig b
def ll (b:aG) (Z:aG->Prop):Prop:=
 (wi b)/\∀ r6:(List Int) × jH,r6=tl b->(jO r6.2.edges)/\∀ r17:List Int,r17=tR r6.2.edges->aO (σ:=Int × (List Int)) (fun (v36,l37) K41=>∀ c42:Bool,c42=decide (v36<b.edges)->((c42=true->(l37.length<=1048576)/\∀ r45:Bool,r45=qO l37 v36->((r45=true->(bP (v36+1))/\∀ v61:Int,v61=v36+1->K41 (v61,l37))/\(r45=false->(l37.length+1<=1073741824)/\∀ l47:List Int,l47=l37++[v36]->(bP (v36+1))/\∀ v58:Int,v58=v36+1->K41 (v58,l47))))/\(c42=false->(jK b.outer)/\∀ r66:List cH,r66=xJ b.outer->∀ len77:Int,len77=(r6.1.length:Int)->aO (σ:=Int × (List ay)) (fun (v101,l102) K110=>∀ c111:Bool,c111=decide (v101<len77)->((c111=true->(0<=v101/\v101<r6.1.length)/\∀ x114:Int,x114=at' r6.1 v101->(0<=x114/\x114<b.nodes.length)/\∀ x123:ay,x123=at' b.nodes x114->(0<=x114/\x114<b.nodes.length)/\∀ x126:ay,x126=at' b.nodes x114->(hJ x123.parent r6.2)/\∀ r130:Int,r130=jA x123.parent r6.2->(0<=x114/\x114<b.nodes.length)/\∀ x144:ay,x144=at' b.nodes x114->∀ len146:Int,len146=(x144.links.length:Int)->aO (σ:=Int × (List Int)) (fun (v173,l174) K183=>∀ c184:Bool,c184=decide (v173<len146)->((c184=true->(0<=v173/\v173<x144.links.length)/\∀ x187:Int,x187=at' x144.links v173->(hZ x187 b l37)/\∀ r190:Int,r190=iR x187 b l37->(l174.length+1<=1073741824)/\∀ l192:List Int,l192=l174++[r190]->(bP (v173+1))/\∀ v208:Int,v208=v173+1->K183 (v208,l192))/\(c184=false->(l102.length+1<=1073741824)/\∀ l211:List ay,l211=l102++[(ay.mk x123.control r130 l174)]->(bP (v101+1))/\∀ v226:Int,v226=v101+1->K110 (v226,l211)))) (0,([]:List Int)))/\(c111=false->∀ len228:Int,len228=(b.sites.length:Int)->aO (σ:=Int × (List Int)) (fun (v245,l246) K254=>∀ c255:Bool,c255=decide (v245<len228)->((c255=true->(0<=v245/\v245<b.sites.length)/\∀ x258:Int,x258=at' b.sites v245->(hJ x258 r6.2)/\∀ r261:Int,r261=jA x258 r6.2->(l246.length+1<=1073741824)/\∀ l263:List Int,l263=l246++[r261]->(bP (v245+1))/\∀ v278:Int,v278=v245+1->K254 (v278,l263))/\(c255=false->∀ len280:Int,len280=(b.inner.length:Int)->aO (σ:=Int × (List aI)) (fun (v297,l298) K306=>∀ c307:Bool,c307=decide (v297<len280)->((c307=true->(0<=v297/\v297<b.inner.length)/\∀ x310:aI,x310=at' b.inner v297->(hZ x310.link b l37)/\∀ r320:Int,r320=iR x310.link b l37->(l298.length+1<=1073741824)/\∀ l322:List aI,l322=l298++[(aI.mk x310.name r320)]->(bP (v297+1))/\∀ v337:Int,v337=v297+1->K306 (v337,l322))/\(c307=false->Z (aG.mk b.roots l102 l246 b.edges r66 l298)))) (0,([]:List aI))))) (0,([]:List Int))))) (0,([]:List ay))))) (0,r17)
theorem Bc (b:aG) (h:lV b):ll b (fun y=>y=ep b):=by
 unfold ll;obtain⟨sig,hv⟩:=h;have hc:=Ew hv;have hn:=hv.len;have he:=hv.edges;have ho:=hv.outer;have hi:=hv.inner;have hs:=hv.slen;have hel:(aY b).s.es.length<=b.edges.toNat:=uW hc.es.nd fun x hx=>by have:=hc.es.rng x hx;omega
 have hal:∀ k≤b.edges.toNat,((aY b).s.es++j4 (aY b).s.es k).length<=16:=fun k hk=>by
  have:(j4 (aY b).s.es k).length<=k:=sX (fun l => !decide (l ∈ (aY b).s.es)) k;simp only[List.length_append];omega
 simp only[forall_eq,decide_eq_true_eq,decide_eq_false_iff_not];refine⟨⟨sig,hv⟩,by simp only[jO];omega,?_⟩;refine aO.qc b.edges.toNat (fun k t=>t=(aY b).s.es++j4 (aY b).s.es k) _ (by simp[eH,tR]) ?_;rintro k _ K hk rfl IH;dsimp only;have hak:=hal k hk;refine⟨fun hc1=>⟨by omega,fun hc2=>?_,fun hc2=>?_⟩,fun hc1=>?_⟩
 ·have hk2:k<b.edges.toNat:=by omega
  refine⟨by simp only[bP];omega,IH hk2 _ ?_⟩;have h3:(k:Int) ∈ (aY b).s.es:=by
   rcases List.mem_append.1 (ss hc2) with h3 | h3
   ·exact h3
   ·have:=(sD _).1 h3;omega
  rw[j4,j4,qW _ (by simpa using h3)]
 ·have hk2:k<b.edges.toNat:=by omega
  have h3:(k:Int) ∉ (aY b).s.es:=fun h3=>by
   exact qN hc2 (List.mem_append_left _ h3)
  refine⟨by omega,by simp only[bP];omega,IH hk2 _ ?_⟩;rw[j4,j4,nZ _ (by simpa using h3),List.append_assoc]
 ·obtain rfl:k=b.edges.toNat:=by omega
  have hE:(aY b).s.es++j4 (aY b).s.es b.edges.toNat=wO b:=rfl;have hal2:(wO b).length<=16:=by rw[<- hE];exact hak
  rw[hE];have hpl:=hc.pl;refine⟨by simp only[jK];omega,?_⟩;refine aO.qc (aY b).order.length (fun k t=>t=((aY b).order.take k).map (gV b)) [] (by simp) ?_;rintro k _ K2 hk2 rfl IH2;dsimp only;have hkl:(((aY b).order.take k).map (gV b)).length=k:=by simp;omega
  have hol:=hc.len;refine⟨fun hc1=>?_,fun hc1=>?_⟩
  ·have hk3:k<(aY b).order.length:=by omega
   rw[bo hk3];have hm:=List.getElem_mem hk3;have hr:=hc.rng _ hm;have hp:=hv.lL hr;have hl3:=hv.gA hr;have e0:((aY b).order.take (k+1)).map (gV b)=((aY b).order.take k).map (gV b)++[gV b (aY b).order[k]]:=by rw[List.take_succ_eq_append_getElem hk3,List.map_append];rfl
   refine⟨⟨by omega,by omega⟩,hr,hr,by simp only[hJ];omega,hr,?_⟩;refine aO.qc (at' b.nodes (aY b).order[k]).links.length (fun j t=>t=((at' b.nodes (aY b).order[k]).links.take j).map fun l=>iR l b (wO b)) [] (by simp) ?_;rintro j _ K3 hj rfl IH3;dsimp only;generalize hL:(at' b.nodes (aY b).order[k]).links=L at *;refine⟨fun hc3=>?_,fun hc3=>?_⟩
   ·have hj2:j<L.length:=by omega
    rw[bo hj2];have e:=List.take_succ_eq_append_getElem hj2;refine⟨⟨by omega,by omega⟩,by simp only[hZ];omega,by simp;omega,by simp only[bP];omega,IH3 hj2 _ ?_⟩;rw[e,List.map_append];rfl
   ·refine⟨by omega,by simp only[bP];omega,IH2 hk3 _ ?_⟩;rw[e0,gV,hL,show j=L.length by omega,List.take_length]
  ·obtain rfl:k=(aY b).order.length:=by omega
   rw[List.take_length];refine aO.qc b.sites.length (fun k t=>t=(b.sites.take k).map fun p=>jA p (tl b).2) [] (by simp) ?_;rintro k _ K3 hk3 rfl IH3;dsimp only;have hsl:((b.sites.take k).map fun p=>jA p (tl b).2).length=k:=by simp;omega
   refine⟨fun hc3=>?_,fun hc3=>?_⟩
   ·have hk4:k<b.sites.length:=by omega
    rw[bo hk4];have hp:=hv.sites _ (List.getElem_mem hk4);refine⟨⟨by omega,by omega⟩,by simp only[hJ];omega,by simp;omega,by simp only[bP];omega,IH3 hk4 _ ?_⟩;rw[List.take_succ_eq_append_getElem hk4,List.map_append];rfl
   ·obtain rfl:k=b.sites.length:=by omega
    rw[List.take_length];refine aO.qc b.inner.length (fun k t=>t=(b.inner.take k).map fun w=>(⟨w.name,iR w.link b (wO b)⟩:aI)) [] (by simp) ?_;rintro k _ K4 hk4 rfl IH4;dsimp only;have hwl:((b.inner.take k).map fun w=>(⟨w.name,iR w.link b (wO b)⟩:aI)).length=k:=by simp;omega
    refine⟨fun hc4=>?_,fun hc4=>?_⟩
    ·have hk5:k<b.inner.length:=by omega
     rw[bo hk5];refine⟨⟨by omega,by omega⟩,by simp only[hZ];omega,by omega,by simp only[bP];omega,IH4 hk5 _ ?_⟩;rw[List.take_succ_eq_append_getElem hk5,List.map_append];rfl
    ·obtain rfl:k=b.inner.length:=by omega
     rw[List.take_length]
     rfl
theorem q9 {p:Int->Bool}:∀ {n:Nat} {m:Int},0<=m/\m<eI p n->∃ j:Nat,j<n/\p j=true/\eI p j=m
 | 0,m,h=>by simp[eI,eH] at h;omega
 | n+1,m,h=>by
  cases hp:p n
  ·rw[uy p hp] at h;obtain⟨j,h1,h2⟩:=q9 h;exact⟨j,by omega,h2⟩
  ·rw[nE p hp] at h
   by_cases he:m=eI p n
   ·exact⟨n,by omega,hp,he.symm⟩
   ·obtain⟨j,h1,h2⟩:=q9 (p:=p) (n:=n) (m:=m) (by omega);exact⟨j,by omega,h2⟩
abbrev jR (l:List Int) (i:Int):Bool:=decide (at' l i<0)
def np (l:List Int) (i:Int):Int:=if at' l i<0 then gK l+eI (jR l) i.toNat else at' l i
def kD (l:List Int):List Int:=(List.range l.length).map fun i:Nat=>np l i
structure lE (l:List Int):Prop where
 len:l.length<=8
 all:∀ v:Int,0<=v->(v ∈ l↔v<gK l)
def m7 (edges:List Int) (Z:(List Int)->Prop):Prop:=
 (fT edges)/\∀ r3:List Int,r3=uS edges->aO (σ:=Int × Int × (List Int)) (fun (nextV22,i23,l24) K28=>∀ len29:Int,len29=(l24.length:Int)->∀ c31:Bool,c31=decide (i23<len29)->((c31=true->(0<=i23/\i23<l24.length)/\∀ x38:Int,x38=at' l24 i23->∀ c41:Bool,c41=decide (x38<0)->((c41=true->aO (σ:=Int) (fun nextV46 K50=>(l24.length<=1048576)/\∀ r52:Bool,r52=qO l24 nextV46->((r52=true->(bP (nextV46+1))/\∀ v54:Int,v54=nextV46+1->K50 (v54))/\(r52=false->(0<=i23/\i23<l24.length)/\∀ x61:Int,x61=at' l24 i23->∀ l64:List Int,l64=l24.set i23.toNat nextV46->(bP (i23+1))/\∀ v71:Int,v71=i23+1->K28 (nextV46,v71,l64)))) (nextV22))/\(c41=false->(bP (i23+1))/\∀ v74:Int,v74=i23+1->K28 (nextV22,v74,l24))))/\(c31=false->Z l24))) (0,0,r3)
theorem Db (l:List Int) (h:lE l):m7 l (fun y=>y=kD l):=by
 unfold m7;obtain⟨hl,ha⟩:=h;simp only[forall_eq,decide_eq_true_eq,decide_eq_false_iff_not];have hc0:0<=gK l/\gK l<=l.length:=by
  have:=List.length_filter_le (fun x:Int=>decide (0<=x)) l;rw[gK];omega
 refine⟨by simp only[fT];omega,?_⟩;refine aO.up l.length (fun s=>s.2.1) (fun k (t:Int × List Int)=>(t.1,(k:Int),t.2)) (fun _ _=>rfl) (fun k t=>(0<=t.1/\t.1<=gK l+eI (jR l) k)/\t.2=(List.range l.length).map fun j:Nat=>if j<k then np l j else at' l j) (0,l) rfl ⟨⟨by omega,by simp[eI,eH];omega⟩,?_⟩ ?_
 ·refine List.ext_getElem (by simp) fun i h1 h2=>?_
  simp only[List.getElem_map,List.getElem_range,Nat.not_lt_zero,if_false];rw[bo h1]
 rintro k ⟨nx,out⟩ K hk ⟨⟨n0,U⟩,ho⟩ IH;dsimp only at n0 U ho ⊢;have hlen:out.length=l.length:=by rw[ho];simp
 have hcp:=EK (jR l) k;refine⟨fun hc1=>?_,fun hc1=>?_⟩
 ·have hk2:k<l.length:=by omega
  have hat:at' out (k:Int)=at' l k:=by rw[bo (by omega)];simp[ho]
  refine⟨⟨by omega,by omega⟩,?_⟩;rw[hat];refine⟨fun hc2=>?_,fun hc2=>?_⟩
  ·have hmem:∀ v:Int,0<=v->(v ∈ out↔v<gK l+eI (jR l) k):=fun v hv=>by
    rw[ho,List.mem_map];refine⟨fun ⟨j,hj,e⟩=>?_,fun hlt=>?_⟩
    ·rw[List.mem_range] at hj
     by_cases h1:j<k
     ·rw[if_pos h1,np] at e
      split at e
      ·rename_i h2
       have h3:=Am (p:=jR l) (show j+1<=k by omega);rw[nE _ (show jR l (j:Int)=true by simpa[jR] using h2)] at h3;rw[Int.toNat_natCast] at e;omega
      ·have:=(ha v hv).1 (by rw[<- e];exact at_mem (by omega));omega
     ·rw[if_neg h1] at e;have:=(ha v hv).1 (by rw[<- e];exact at_mem (by omega));omega
    ·by_cases h1:v<gK l
     ·obtain⟨j,hj,e⟩:=List.getElem_of_mem ((ha v hv).2 h1);refine⟨j,List.mem_range.2 hj,?_⟩;have e1:at' l (j:Int)=v:=by rw[bo hj,e]
      split
      ·rw[np,e1,if_neg (by omega)]
      ·exact e1
     ·obtain⟨j,j1,j2,j3⟩:=q9 (p:=jR l) (n:=k) (m:=v - gK l) ⟨by omega,by omega⟩;refine⟨j,List.mem_range.2 (by omega),?_⟩;rw[if_pos j1,np,if_pos (by simpa[jR] using j2),Int.toNat_natCast,j3];omega
   refine aO.byM (fun nx=>0<=nx/\nx<=gK l+eI (jR l) k) (fun nx=>(gK l+eI (jR l) k - nx).toNat) ⟨n0,U⟩ ?_;rintro nx ⟨n0,U⟩;refine⟨by omega,fun hb=>?_,fun hb=>?_⟩
   ·have h2:=(hmem nx n0).1 (ss hb);exact⟨by simp only[bP];omega,⟨by omega,by omega⟩,by omega⟩
   ·have h2:¬ nx<gK l+eI (jR l) k:=fun h2=>qN hb ((hmem nx n0).2 h2)
    have h3:nx=gK l+eI (jR l) k:=by omega
    have hneg:jR l (k:Int)=true:=by simpa[jR] using hc2
    refine⟨⟨by omega,by omega⟩,by simp only[bP];omega,IH hk2 (nx,out.set (k:Int).toNat nx) ⟨⟨n0,?_⟩,?_⟩⟩
    ·rw[nE _ hneg,h3];simp only;omega
    ·simp only[ho,Int.toNat_natCast];rw[BJ];refine List.map_congr_left fun i _=>?_
     by_cases h4:i=k
     ·subst h4;rw[if_pos rfl,if_pos (by omega),np,if_pos hc2,Int.toNat_natCast,h3]
     ·rw[if_neg h4]
      by_cases h5:i<k
      ·rw[if_pos h5,if_pos (by omega)]
      ·rw[if_neg h5,if_neg (by omega)]
  ·have hneg:jR l (k:Int)=false:=by simpa[jR] using hc2
   refine⟨by simp only[bP];omega,IH hk2 (nx,out) ⟨⟨n0,by rw[uy _ hneg];exact U⟩,?_⟩⟩;simp only[ho];refine List.map_congr_left fun i _=>?_
   by_cases h4:i=k
   ·subst h4;rw[if_neg (by omega),if_pos (by omega),np,if_neg hc2]
   ·by_cases h5:i<k
    ·rw[if_pos h5,if_pos (by omega)]
    ·rw[if_neg h5,if_neg (by omega)]
 ·rw[ho,kD];refine List.map_congr_left fun i hi=>?_
  rw[if_pos (by have:=List.mem_range.1 hi;omega)]
theorem rZ {b:aG} {es:List Int} (h:lT b es):lE (cD b es):=by
 have he:=h.ed;refine⟨by simp[cD];omega,fun v hv=>?_⟩;rw[jB h];simp only[cD,List.mem_map,List.mem_range];refine⟨fun ⟨l,hl,e⟩=>?_,fun hlt=>?_⟩
 ·split at e
  ·rename_i hm
   have:=List.idxOf_lt_length_of_mem hm;omega
  ·omega
 ·have hlt2:v.toNat<es.length:=by omega
  have hm:=List.getElem_mem hlt2;have hr:=h.rng _ hm;refine⟨es[v.toNat].toNat,by omega,?_⟩;rw[show ((es[v.toNat].toNat:Nat):Int)=es[v.toNat] by omega,if_pos hm,h.nd.idxOf_getElem];omega
theorem BH {b:aG} {es:List Int} (h:lT b es) {l:Int} (hl:0<=l/\l<b.edges):at' (kD (cD b es)) l=dA (es++j4 es b.edges.toNat) l:=by
 have he:=h.ed;have hln:(cD b es).length=b.edges.toNat:=by simp[cD]
 have e0:at' (kD (cD b es)) l=np (cD b es) l:=by
  obtain⟨n,rfl⟩:∃ n:Nat,l=n:=⟨l.toNat,by omega⟩
  rw[bo (by simp[kD,hln];omega)];simp[kD]
 rw[e0,np,iy hl,dA]
 by_cases hm:l ∈ es
 ·rw[if_pos hm,if_neg (by omega),if_pos (by simp[hm]),List.idxOf_append,if_pos hm]
 ·have hi:l ∈ j4 es b.edges.toNat:=(sD _).2 ⟨by omega,by simpa using hm⟩;have e1:(((j4 es b.edges.toNat).idxOf l:Nat):Int)=eI (fun l => !decide (l ∈ es)) l.toNat:=by
   have:=yd _ hi
   rwa [qb,if_pos hi] at this
  rw[if_neg hm,if_pos (by omega),if_pos (by simp[hi]),List.idxOf_append,if_neg hm,jB h];have e2:eI (jR (cD b es)) l.toNat=eI (fun l => !decide (l ∈ es)) l.toNat:=by
   rw[eI,eI,vk fun x h0 h1=>?_];rw[jR,iy (by omega)]
   by_cases hx:x ∈ es
   ·rw[if_pos hx];simp[hx]
   ·rw[if_neg hx];simp[hx]
  rw[e2,<- e1];omega
abbrev kT (b:aG) (l:Int) (es:List Int):Prop:=0<=l/\(l<b.edges->l<es.length)
abbrev jC (b:aG) (l:Int) (es:List Int):Int:=if l >= b.edges then l else at' es l
def m5 (b:aG) (link:Int) (edges:List Int) (Z:Int->Prop):Prop:=
 ∀ c4:Bool,c4=decide (b.edges<=link)->((c4=true->Z link)/\(c4=false->(0<=link/\link<edges.length)/\∀ x7:Int,x7=at' edges link->Z x7))
theorem Ca (b:aG) (l:Int) (es:List Int) (h:kT b l es):m5 b l es (fun y=>y=jC b l es):=by
 unfold m5;simp only[forall_eq,decide_eq_true_eq,decide_eq_false_iff_not];exact⟨fun h1=>by rw[jC,if_pos h1],fun h1=>⟨⟨h.1,h.2 (by omega)⟩,by rw[jC,if_neg h1]⟩⟩
abbrev fE (p:Int) (to:List Int):Prop:=p<to.length
abbrev gy (p:Int) (to:List Int):Int:=if p<0 then p else at' to p
def k7 (parent:Int) (to_:List Int) (Z:Int->Prop):Prop:=
 ∀ c2:Bool,c2=decide (parent<0)->((c2=true->Z parent)/\(c2=false->(0<=parent/\parent<to_.length)/\∀ x5:Int,x5=at' to_ parent->Z x5))
theorem Ax (p:Int) (to:List Int) (h:fE p to):k7 p to (fun y=>y=gy p to):=by
 unfold k7;simp only[forall_eq,decide_eq_true_eq,decide_eq_false_iff_not];exact⟨fun h1=>by rw[gy,if_pos h1],fun h1=>⟨⟨by omega,h⟩,by rw[gy,if_neg h1]⟩⟩
def pv (b:aG) (to edges:List Int) (k:Int):ay:=⟨(at' b.nodes k).control,gy (at' b.nodes k).parent to,(at' b.nodes k).links.map fun l=>jC b l edges⟩
def kB (b:aG) (to edges:List Int):Nat->List ay
 | 0=>List.replicate b.nodes.length default
 | k+1=>(kB b to edges k).set (at' to (k:Int)).toNat (pv b to edges k)
theorem jm (b:aG) (to edges:List Int):∀ k,(kB b to edges k).length=b.nodes.length
 | 0=>by simp[kB]
 | k+1=>by simp[kB,jm b to edges k]
def iV (b:aG) (to edges:List Int):aG:=⟨b.roots,kB b to edges b.nodes.length,b.sites.map (fun p=>gy p to),b.edges,b.outer,b.inner.map fun w=>⟨w.name,jC b w.link edges⟩⟩
structure mh (b:aG) (to edges:List Int):Prop where
 v:∃ sig,bn sig b
 l:to.length=b.nodes.length
 r:∀ k ∈ to,0<=k/\k<b.nodes.length
 e:edges.length=b.edges.toNat
def kX (b:aG) (to_:List Int) (edges:List Int) (Z:aG->Prop):Prop:=
 ∀ aZ:Int,aZ=(b.nodes.length:Int)->(0<=aZ/\aZ<=1073741824)/\∀ l9:List ay,l9=List.replicate aZ.toNat default->(([]:List cH).length+b.outer.length<=1073741824)/\∀ l13:List cH,l13=([]:List cH)++b.outer->aO (σ:=Int × (List ay)) (fun (i339,l340) K345=>∀ len346:Int,len346=(b.nodes.length:Int)->∀ c348:Bool,c348=decide (i339<len346)->((c348=true->aO (σ:=Int × (List Int)) (fun (k366,l367) K373=>(0<=i339/\i339<b.nodes.length)/\∀ x375:ay,x375=at' b.nodes i339->∀ len377:Int,len377=(x375.links.length:Int)->∀ c379:Bool,c379=decide (k366<len377)->((c379=true->(0<=i339/\i339<b.nodes.length)/\∀ x382:ay,x382=at' b.nodes i339->(0<=k366/\k366<x375.links.length)/\∀ x386:Int,x386=at' x375.links k366->(kT b x386 edges)/\∀ r389:Int,r389=jC b x386 edges->(l367.length+1<=1073741824)/\∀ l391:List Int,l391=l367++[r389]->(bP (k366+1))/\∀ v403:Int,v403=k366+1->K373 (v403,l391))/\(c379=false->(0<=i339/\i339<to_.length)/\∀ x406:Int,x406=at' to_ i339->(0<=i339/\i339<b.nodes.length)/\∀ x409:ay,x409=at' b.nodes i339->(0<=i339/\i339<b.nodes.length)/\∀ x413:ay,x413=at' b.nodes i339->(fE x375.parent to_)/\∀ r417:Int,r417=gy x375.parent to_->(0<=x406/\x406<l340.length)/\∀ x420:ay,x420=at' l340 x406->∀ l439:List ay,l439=l340.set x406.toNat (ay.mk x375.control r417 l367)->(bP (i339+1))/\∀ v447:Int,v447=i339+1->K345 (v447,l439)))) (0,([]:List Int)))/\(c348=false->aO (σ:=Int × (List Int)) (fun (i468,l469) K476=>∀ len477:Int,len477=(b.sites.length:Int)->∀ c479:Bool,c479=decide (i468<len477)->((c479=true->(0<=i468/\i468<b.sites.length)/\∀ x482:Int,x482=at' b.sites i468->(fE x482 to_)/\∀ r485:Int,r485=gy x482 to_->(l469.length+1<=1073741824)/\∀ l487:List Int,l487=l469++[r485]->(bP (i468+1))/\∀ v501:Int,v501=i468+1->K476 (v501,l487))/\(c479=false->aO (σ:=Int × (List aI)) (fun (i516,l517) K524=>∀ len525:Int,len525=(b.inner.length:Int)->∀ c527:Bool,c527=decide (i516<len525)->((c527=true->(0<=i516/\i516<b.inner.length)/\∀ x530:aI,x530=at' b.inner i516->(0<=i516/\i516<b.inner.length)/\∀ x533:aI,x533=at' b.inner i516->(kT b x530.link edges)/\∀ r537:Int,r537=jC b x530.link edges->(l517.length+1<=1073741824)/\∀ l539:List aI,l539=l517++[(aI.mk x530.name r537)]->(bP (i516+1))/\∀ v553:Int,v553=i516+1->K524 (v553,l539))/\(c527=false->Z (aG.mk b.roots l340 l469 b.edges l13 l517)))) (0,([]:List aI))))) (0,([]:List Int))))) (0,l9)
theorem AG (b:aG) (to edges:List Int) (h:mh b to edges):kX b to edges (fun y=>y=iV b to edges):=by
 unfold kX;obtain⟨⟨sig,hv⟩,hl,hr,he⟩:=h;have hn:=hv.len;have hed:=hv.edges;have ho:=hv.outer;have hi:=hv.inner;have hs:=hv.slen;simp only[forall_eq,decide_eq_true_eq,decide_eq_false_iff_not];refine⟨by omega,by simp;omega,?_⟩;refine aO.qc b.nodes.length (fun k t=>t=kB b to edges k) _ (by simp[kB]) ?_;rintro k _ K hk rfl IH;dsimp only;have hkl:=jm b to edges k;refine⟨fun hc1=>?_,fun hc1=>?_⟩
 ·have hk2:k<b.nodes.length:=by omega
  have hkr:0<=(k:Int)/\(k:Int)<b.nodes.length:=by omega
  have hl3:=hv.gA hkr;have hla:=hv.lB hkr;have hp:=hv.lL hkr;have ht:=hr (at' to (k:Int)) (at_mem (by omega));refine aO.qc (at' b.nodes (k:Int)).links.length (fun j t=>t=((at' b.nodes (k:Int)).links.take j).map fun l=>jC b l edges) [] (by simp) ?_;rintro j _ K3 hj rfl IH3;dsimp only;refine⟨hkr,fun hc3=>?_,fun hc3=>?_⟩
  ·have hj2:j<(at' b.nodes (k:Int)).links.length:=by omega
   rw[bo hj2];have e:=List.take_succ_eq_append_getElem hj2;have hm:=hla _ (List.getElem_mem hj2);refine⟨hkr,⟨by omega,by omega⟩,⟨by omega,fun _=>by omega⟩,by simp;omega,by simp only[bP];omega,IH3 hj2 _ ?_⟩;rw[e,List.map_append];rfl
  ·obtain rfl:j=(at' b.nodes (k:Int)).links.length:=by omega
   rw[List.take_length];refine⟨by omega,hkr,hkr,by simp only[fE];omega,by omega,by simp only[bP];omega,IH hk2 _ ?_⟩
   rfl
 ·obtain rfl:k=b.nodes.length:=by omega
  refine aO.qc b.sites.length (fun k t=>t=(b.sites.take k).map fun p=>gy p to) [] (by simp) ?_;rintro k _ K3 hk3 rfl IH3;dsimp only;refine⟨fun hc3=>?_,fun hc3=>?_⟩
  ·have hk4:k<b.sites.length:=by omega
   rw[bo hk4];have hp:=hv.sites _ (List.getElem_mem hk4);refine⟨⟨by omega,by omega⟩,by simp only[fE];omega,by simp;omega,by simp only[bP];omega,IH3 hk4 _ ?_⟩;rw[List.take_succ_eq_append_getElem hk4,List.map_append];rfl
  ·obtain rfl:k=b.sites.length:=by omega
   rw[List.take_length];refine aO.qc b.inner.length (fun k t=>t=(b.inner.take k).map fun w=>(⟨w.name,jC b w.link edges⟩:aI)) [] (by simp) ?_;rintro k _ K4 hk4 rfl IH4;dsimp only;refine⟨fun hc4=>?_,fun hc4=>?_⟩
   ·have hk5:k<b.inner.length:=by omega
    rw[bo hk5];have hw:=hv.wires _ (List.getElem_mem hk5);refine⟨⟨by omega,by omega⟩,⟨by omega,by omega⟩,⟨by omega,fun _=>by omega⟩,by simp;omega,by simp only[bP];omega,IH4 hk5 _ ?_⟩;rw[List.take_succ_eq_append_getElem hk5,List.map_append];rfl
   ·obtain rfl:k=b.inner.length:=by omega
    rw[List.take_length]
    rfl
theorem at_map {α β:Type} [Inhabited α] [Inhabited β] {l:List α} (f:α->β) {k:Int} (h:0<=k/\k<l.length):at' (l.map f) k=f (at' l k):=by
 obtain⟨n,rfl⟩:∃ n:Nat,k=n:=⟨k.toNat,by omega⟩
 rw[bo (by simp;omega),bo (show n<l.length by omega),List.getElem_map]
theorem D2 {α:Type} [Inhabited α] {l:List α} {v:α} {i j:Int} (hj:0<=j) (hi:0<=i/\i<l.length):at' (l.set i.toNat v) j=if j=i then v else at' l j:=by
 obtain⟨n,rfl⟩:∃ n:Nat,j=n:=⟨j.toNat,by omega⟩
 simp only[at',Int.toNat_natCast,List.getElem?_set,List.getD_eq_getElem?_getD]
 by_cases h:(n:Int)=i
 ·subst h;rw[Int.toNat_natCast,if_pos rfl,if_pos rfl,if_pos (by omega)];rfl
 ·rw[if_neg h,if_neg (by omega)]
theorem ext_at {α:Type} [Inhabited α] {l m:List α} (hl:l.length=m.length) (h:∀ k:Nat,k<l.length->at' l (k:Int)=at' m (k:Int)):l=m:=by
 refine List.ext_getElem hl fun i h1 h2=>?_
 have:=h i h1
 rwa [bo h1,bo h2] at this
theorem vP {b:aG} {to edges order:List Int} (hn:order.length=b.nodes.length) (hr:∀ k ∈ order,0<=k/\k<b.nodes.length) (ht:∀ k:Int,0<=k/\k<b.nodes.length->(0<=at' to k/\at' to k<b.nodes.length)/\at' order (at' to k)=k) (hp:∀ i:Nat,i<b.nodes.length->at' to (at' order (i:Int))=i) :
  kB b to edges b.nodes.length=order.map (pv b to edges):=by
 have h:∀ m≤b.nodes.length,∀ i:Nat,i<b.nodes.length->at' (kB b to edges m) (i:Int)=if at' order (i:Int)<m then pv b to edges (at' order (i:Int)) else default:=by
  intro m
  induction m with
  | zero=>
   intro _ i hi;have h1:=hr _ (at_mem (l:=order) (i:=(i:Int)) (by omega));rw[if_neg (by omega),kB,bo (by simpa using hi),List.getElem_replicate]
  | succ m ih=>
   intro hm i hi;have h1:=hr _ (at_mem (l:=order) (i:=(i:Int)) (by omega));have h2:=ht (m:Int) (by omega);have h3:=hp i hi;rw[kB,D2 (by omega) (by rw[jm];exact h2.1),ih (by omega) i hi]
   by_cases he:(i:Int)=at' to (m:Int)
   ·have h4:at' order (i:Int)=m:=by rw[he];exact h2.2
    rw[if_pos he,h4,if_pos (by omega)]
   ·have h4:at' order (i:Int) ≠ m:=fun h4=>he (by rw[<- h4];exact h3.symm)
    rw[if_neg he]
    by_cases h5:at' order (i:Int)<m
    ·rw[if_pos h5,if_pos (by omega)]
    ·rw[if_neg h5,if_neg (by omega)]
 refine ext_at (by rw[jm,List.length_map,hn]) fun k hk=>?_
 rw[jm] at hk;have h1:=hr _ (at_mem (l:=order) (i:=(k:Int)) (by omega));rw[h _ (Nat.le_refl _) k hk,if_pos h1.2,at_map _ (by omega)]
def BX (order:List Int) (n:Nat):Nat->List Int
 | 0=>List.replicate n 0
 | i+1=>(BX order n i).set (at' order (i:Int)).toNat (i:Int)
theorem lu (order:List Int) (n:Nat):∀ i,(BX order n i).length=n
 | 0=>by simp[BX]
 | i+1=>by simp[BX,lu order n i]
theorem xr {order:List Int} {n:Nat} (hd:order.Nodup) (hr:∀ k ∈ order,0<=k/\k<n):∀ m≤order.length,∀ i:Nat,i<m->at' (BX order n m) (at' order (i:Int))=i
 | m+1,hm,i,hi=>by
  have h1:=hr _ (at_mem (l:=order) (i:=(m:Int)) (by omega));have h2:=hr _ (at_mem (l:=order) (i:=(i:Int)) (by omega));rw[BX,iK h2.1 (by rw[lu];exact h1)]
  by_cases he:i=m
  ·subst he;rw[if_pos rfl]
  ·rw[if_neg fun e=>he ?_]
   ·exact xr hd hr m (by omega) i (by omega)
   ·rw[bo (show i<order.length by omega),bo (show m<order.length by omega)] at e;exact (List.getElem_inj hd).1 e
abbrev kl (b:aG):aG:=ep b
abbrev mb (b:aG):Prop:=∃ sig,bn sig b
def kP (b:aG) (Z:aG->Prop):Prop:=
 (kI b)/\∀ r6:List Int,r6=pw b->∀ tT:Int,tT=(r6.length:Int)->(0<=tT/\tT<=1073741824)/\∀ l10:List Int,l10=List.replicate tT.toNat default->aO (σ:=Int × (List Int)) (fun (i21,l22) K26=>∀ len27:Int,len27=(r6.length:Int)->∀ c29:Bool,c29=decide (i21<len27)->((c29=true->(0<=i21/\i21<r6.length)/\∀ x32:Int,x32=at' r6 i21->(0<=x32/\x32<l22.length)/\∀ x39:Int,x39=at' l22 x32->∀ l42:List Int,l42=l22.set x32.toNat i21->(bP (i21+1))/\∀ v49:Int,v49=i21+1->K26 (v49,l42))/\(c29=false->(me b r6)/\∀ r52:(List Int) × (List Int),r52=lZ b r6->(lE r52.2)/\∀ r69:List Int,r69=kD r52.2->(mh b l22 r69)/\∀ r71:aG,r71=iV b l22 r69->Z r71))) (0,l10)
theorem Ad {sig:dG} {b:aG} (hv:bn sig b):iV b (BX (aY b).order (aY b).order.length (aY b).order.length) (kD (cD b (aY b).s.es))=ep b:=by
 have hc:=Ew hv;have hn:=hc.len;rw[hn];have hp:∀ i:Nat,i<b.nodes.length->at' (BX (aY b).order b.nodes.length b.nodes.length) (at' (aY b).order (i:Int))=i:=fun i hi=>xr hc.nd hc.rng _ (by omega) i hi
 have hat:∀ k:Int,0<=k/\k<b.nodes.length->at' (BX (aY b).order b.nodes.length b.nodes.length) k=(((aY b).order.idxOf k:Nat):Int):=fun k hk=>by
  have hm:=hc.mem hk;have hi:=List.idxOf_lt_length_of_mem hm;have:=hp _ (by rw[<- hn];exact hi)
  rwa [bo hi,List.getElem_idxOf] at this
 have hpar:∀ p:Int,p<b.nodes.length->gy p (BX (aY b).order b.nodes.length b.nodes.length)=jA p (tl b).2:=fun p hp2=>by
  by_cases h0:0<=p
  ·rw[gy,if_neg (by omega),jA,if_pos h0,hat p ⟨h0,hp2⟩];exact (hc.at ⟨h0,hp2⟩).symm
  ·rw[gy,if_pos (by omega),jA,if_neg h0]
 have htie:∀ l:Int,0<=l->jC b l (kD (cD b (aY b).s.es))=iR l b (wO b):=fun l h0=>by
  by_cases h1:l >= b.edges
  ·rw[jC,if_pos h1,iR,if_pos h1]
  ·rw[jC,if_neg h1,iR,if_neg h1,BH hc.es ⟨h0,by omega⟩];rfl
 rw[iV,ep,vP hn hc.rng (fun k hk=>?_) hp]
 ·congr 1
  ·refine List.map_congr_left fun k hk=>?_
   have hr:=hc.rng k hk;rw[pv,gV,hpar _ (by have:=hv.lL hr;omega)]
   congr 1
   exact List.map_congr_left fun l hl=>htie l (hv.lB hr l hl).1
  ·exact List.map_congr_left fun p hp2=>hpar p (hv.sites p hp2).2
  ·refine List.map_congr_left fun w hw=>?_
   rw[htie _ (hv.wires w hw).1]
 ·rw[hat k hk];have hm:=hc.mem hk;have hi:=List.idxOf_lt_length_of_mem hm;refine⟨by omega,?_⟩;rw[bo hi,List.getElem_idxOf]
theorem BC (b:aG) (h:mb b):kP b (fun y=>y=kl b):=by
 unfold kP;obtain⟨sig,hv⟩:=h;have hc:=Ew hv;have hn:=hv.len;have hed:=hv.edges;have hcl:=hc.len;simp only[forall_eq,decide_eq_true_eq,decide_eq_false_iff_not,pw];refine⟨⟨sig,hv⟩,by omega,?_⟩;refine aO.qc (aY b).order.length (fun k t=>t=BX (aY b).order (aY b).order.length k) _ (by simp[BX]) ?_;rintro k _ K hk rfl IH;dsimp only;refine⟨fun hc1=>?_,fun hc1=>?_⟩
 ·have hk2:k<(aY b).order.length:=by omega
  have hr:=hc.rng _ (at_mem (l:=(aY b).order) (i:=(k:Int)) (by omega));exact⟨by omega,by rw[lu];omega,by simp only[bP];omega,IH hk2 _ rfl⟩
 ·obtain rfl:k=(aY b).order.length:=by omega
  have hnl:(cD b (aY b).s.es).length=b.edges.toNat:=by simp[cD]
  refine⟨⟨⟨sig,hv⟩,by omega,hc.rng⟩,?_⟩;rw[hc.code];refine⟨rZ hc.es,⟨⟨sig,hv⟩,by rw[lu,hcl],fun k hk=>?_,by simp[kD,hnl]⟩,Ad hv⟩;obtain⟨i,hi,rfl⟩:=List.getElem_of_mem hk;rw[lu] at hi;have hm:=hc.mem (k:=(i:Int)) (by omega);have hx:=List.idxOf_lt_length_of_mem hm;have:=xr hc.nd (n:=(aY b).order.length) (fun k hk=>by have:=hc.rng k hk;omega) _ (Nat.le_refl _) _ hx;rw[bo hx,List.getElem_idxOf,bo (by rw[lu];exact hi)] at this;omega
end Go.Ab.Vg
namespace Go.Ab.Vg
end Go.Ab.Vg
