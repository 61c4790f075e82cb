/- Merged texts (11 of 18) of the proof that ends in Sty: Rp Rb Md Mk Mn Mu Yb Co Mp Em Sg Na Nc Nd Ne Kr Ks Eq. -/
import Derived.Test.YtkocdlgoncmdbaaGreatDoorAbQst10
open Go.Proofs.Tryz
set_option linter.unusedSectionVars false
set_option linter.unusedSimpArgs false
set_option linter.unusedVariables false
namespace Go.Proofs.YtkocdlgoncmdbaaGreatDoor
open Go.ChangeShapes Go.WideShapes Go.ChangeAt Go.RowKit Go.Ab
set_option maxRecDepth 100000
theorem own:ownKnob Tryz.prog.godebug=none:=by kernel_rfl
theorem laidOut:laidOutB prog=true:=by kernel_rfl
theorem BA:Tryz.prog.underlying 4=some .bool:=Tryz.underlying4
end Go.Proofs.YtkocdlgoncmdbaaGreatDoor
namespace Go.Proofs.YtkocdlgoncmdbaaGreatDoor
open Go.ChangeShapes Go.WideShapes Go.ChangeAt Go.RowKit Go.Ab
set_option maxRecDepth 100000
theorem Dq:Reader prog 62 Control.cells (fun x=>x.name.length<=9223372036854775807):=by
 have h:=Reader.struct Tryz.underlying62 (n:=3) (by kernel_rfl) (b6.cons (n:=1) rfl (by kernel_rfl) (Reader.str Tryz.underlying9) (b6.cons (n:=1) rfl (by kernel_rfl) (Reader.int Tryz.underlying3) (b6.cons (n:=1) rfl (by kernel_rfl) (Reader.int Tryz.underlying3) (b6.nil 3))));exact h.map (fun p=>⟨p.1,p.2.1,p.2.2.1⟩) (fun p=>rfl) (fun p hp=>hp.1)
theorem rWire:Reader prog 99 aQ.cells (fun x=>x.name.length<=9223372036854775807):=by
 have h:=Reader.struct Tryz.underlying99 (n:=2) (by kernel_rfl) (b6.cons (n:=1) rfl (by kernel_rfl) (Reader.str Tryz.underlying9) (b6.cons (n:=1) rfl (by kernel_rfl) (Reader.int Tryz.underlying3) (b6.nil 2)));exact h.map (fun p=>⟨p.1,p.2.1⟩) (fun p=>rfl) (fun p hp=>hp.1)
theorem Hc:Reader prog 24 (fun l:List Int=>[Ab.encI false l]) (fun l=>l.length<=9223372036854775807/\∀ p ∈ l,bB p):=
 Reader.slice Tryz.underlying24 (of_decide_eq_true (by kernel_rfl)) (Reader.int Tryz.underlying3)
theorem rStrs:Reader prog 25 (fun l:List cP=>[Ab.encS false l]) (fun l=>l.length<=9223372036854775807/\∀ s ∈ l,s.length<=9223372036854775807):=
 Reader.slice Tryz.underlying25 (of_decide_eq_true (by kernel_rfl)) (Reader.str Tryz.underlying9)
theorem rGNode:Reader prog 96 (az.cells false) (fun x=>x.links.length<=9223372036854775807/\bB x.parent):=by
 have h:=Reader.struct Tryz.underlying96 (n:=3) (by kernel_rfl) (b6.cons (n:=1) rfl (by kernel_rfl) (Reader.int Tryz.underlying3) (b6.cons (n:=1) rfl (by kernel_rfl) (Reader.int Tryz.underlying3) (b6.cons (n:=1) rfl (by kernel_rfl) Hc (b6.nil 3))));exact h.map (fun p=>⟨p.1,p.2.1,p.2.2.1⟩) (fun p=>rfl) (fun p hp=>⟨hp.2.2.1.1,hp.2.1⟩)
theorem rNodes:Reader prog 23 (fun l:List az=>[Ab.aB false l]) (fun l=>l.length<=9223372036854775807/\∀ x ∈ l,x.links.length<=9223372036854775807/\bB x.parent):=
 Reader.slice Tryz.underlying23 (of_decide_eq_true (by kernel_rfl)) rGNode
theorem rWires:Reader prog 26 (fun l:List aQ=>[Ab.aD false l]) (fun l=>l.length<=9223372036854775807/\∀ x ∈ l,x.name.length<=9223372036854775807):=
 Reader.slice Tryz.underlying26 (of_decide_eq_true (by kernel_rfl)) rWire
theorem rSig:ra prog 22 (bF false) AK:=by
 refine ra.cell (xY Tryz.underlying22) ?_;have h:=Reader.slice Tryz.underlying22 (of_decide_eq_true (by kernel_rfl)) Dq;exact h.map (fun p=>p) (fun p=>rfl) (fun p hp=>⟨hp.1,hp.2⟩)
theorem Ho:Reader prog 28 (I.cells false) iW:=by
 have h:=Reader.struct Tryz.underlying28 (n:=6) (by kernel_rfl) (b6.cons (n:=1) rfl (by kernel_rfl) (Reader.int Tryz.underlying3) (b6.cons (n:=1) rfl (by kernel_rfl) rNodes (b6.cons (n:=1) rfl (by kernel_rfl) Hc
  (b6.cons (n:=1) rfl (by kernel_rfl) (Reader.int Tryz.underlying3) (b6.cons (n:=1) rfl (by kernel_rfl) rStrs (b6.cons (n:=1) rfl (by kernel_rfl) rWires (b6.nil 6)))))))
 exact h.map (e':=I.cells false) (ok':=iW) (fun p=>⟨p.1,p.2.1,p.2.2.1,p.2.2.2.1,p.2.2.2.2.1,p.2.2.2.2.2.1⟩) (fun p=>rfl) (fun p hp=>by
  obtain⟨_,h1,h2,_,h3,h4,_⟩:=hp;exact⟨h1.1,fun x hx=>(h1.2 x hx).1,h2.1,h3.1,h3.2,h4.1,h4.2,fun x hx=>(h1.2 x hx).2,h2.2⟩)
theorem rBig:ra prog 28 (cI false) iW:=ra.struct Tryz.underlying28 Ho
end Go.Proofs.YtkocdlgoncmdbaaGreatDoor
namespace Go.Ab.Vg
abbrev Ao (x:I):Prop:=x.nodes.length<=1048576/\(∀ z ∈ x.nodes,z.links.length<=1048576)/\x.sites.length<=1048576/\x.outer.length<=1048576/\x.inner.length<=1048576
theorem eqOf {sig:cZ} {b:I} (h:dI sig b):Ao b:=⟨h.nodesLen,h.linksLen,h.sitesLen,h.outerLen,h.innerLen⟩
theorem FU {sig:cZ} {b:I} (h:dI sig b):cR b:=⟨⟨h.nodesLen,h.linksLen⟩,h.sitesLen,h.outerLen,h.innerLen⟩
theorem bothOf {sig s2:cZ} {b b2:I} (h:dI sig b2) (h2:dI s2 b):dI sig b:=
 ⟨h.sigLen,h.sigNames,h2.nodesLen,h2.sitesLen,h2.outerLen,h2.innerLen,h2.outerNames,h2.innerNames,h2.linksLen,h2.parents,h2.sites64⟩
theorem DV (b:I) (left:Int) (h:0<=left):lL b left<=left:=by
 unfold lL;have h1:=gb mm b.nodes left h
 split
 ·omega
 have h2:=sC lR b.sites (ef mm b.nodes left) (by omega)
 split
 ·omega
 have h3:=gb cW b.outer (lR b.sites (ef mm b.nodes left)) (by omega)
 split
 ·omega
 have h4:=gb xG b.inner (ef cW b.outer (lR b.sites (ef mm b.nodes left))) (by omega)
 split<;>omega
end Go.Ab.Vg
namespace Go.Ab.Vg
def rootsB (redex ba:I) (nodes:List Int):List Int:=(List.range redex.roots.toNat).map fun r:Nat=>(at' ba.nodes (at' nodes (at' (iv redex (-1 - (r:Int))) 0))).parent
def canB (redex ba:I) (nodes:List Int) (x:Int):Bool:=
 decide ((at' ba.nodes x).control=(at' redex.nodes (nodes.length:Int)).control) && !qW nodes x && (decide ((at' redex.nodes (nodes.length:Int)).parent<0) || decide ((at' ba.nodes x).parent=at' nodes (at' redex.nodes (nodes.length:Int)).parent))
noncomputable def allM (redex ba:I) (rs:List Int->List Int) (can:List Int->Int->Bool):Nat->List Int->List Match
 | 0,nodes=>if matchB redex ba ⟨nodes,rs nodes⟩ then [⟨nodes,rs nodes⟩] else []
 | k+1,nodes=>(List.range ba.nodes.length).flatMap fun x:Nat=>if can nodes (x:Int) then allM redex ba rs can k (nodes++[(x:Int)]) else []
end Go.Ab.Vg
namespace Go.Ab.Vg
noncomputable abbrev restM (redex ba:I) (nodes:List Int):List Match:=allM redex ba (rootsB redex ba) (canB redex ba) (redex.nodes.length - nodes.length) nodes
noncomputable abbrev wY (redex ba:I):List Match:=restM redex ba []
end Go.Ab.Vg
namespace Go.Ab.Vg
abbrev om (a b:List cP):Bool:=decide (a=b)
abbrev lV (a b:List cP):Prop:=a.length<=1048576/\b.length<=1048576
def lv (s1:List cP) (s2:List cP) (Z:Bool->Prop):Prop:=
 ∀ bh:Int,bh=(s1.length:Int)->∀ cM:Int,cM=(s2.length:Int)->∀ c6:Bool,c6=decide (bh ≠ cM)->((c6=true->Z false)/\(c6=false->∀ len8:Int,len8=(s1.length:Int)->aO (σ:=Int) (fun v12 K15=>∀ c16:Bool,c16=decide (v12<len8)->((c16=true->(0<=v12/\v12<s1.length)/\∀ x19:cP,x19=at' s1 v12->(0<=v12/\v12<s2.length)/\∀ x22:cP,x22=at' s2 v12->∀ c24:Bool,c24=decide (x19 ≠ x22)->((c24=true->Z false)/\(c24=false->(bB (v12+1))/\∀ v27:Int,v27=v12+1->K15 (v27))))/\(c16=false->Z true))) (0)))
theorem CM (a b:List cP) (h:lV a b):lv a b (fun y=>y=om a b):=by
 unfold lv;obtain⟨h1,h2⟩:=h;simp only[forall_eq,decide_eq_true_eq,decide_eq_false_iff_not];refine⟨fun h3=>?_,fun h3=>?_⟩
 ·rw[om,decide_eq_false];rintro rfl;exact h3 rfl
 ·have hl:a.length=b.length:=by omega
  refine aO.xj a.length (fun i=>∀ j:Nat,j<i->at' a (j:Int)=at' b (j:Int)) (fun j hj=>by omega) ?_;rintro i K hi hI IH;refine⟨fun h4=>⟨⟨by omega,by omega⟩,⟨by omega,by omega⟩,fun h5=>?_,fun h5=>⟨by simp only[bB];omega,IH (by omega) fun j hj=>?_⟩⟩,fun h4=>?_⟩
  ·rw[om,decide_eq_false];rintro rfl;exact h5 rfl
  ·rcases Nat.lt_or_ge j i with h6 | h6
   ·exact hI j h6
   ·rw[show j=i by omega];exact Classical.not_not.1 h5
  ·rw[om,decide_eq_true];refine List.ext_getElem hl fun j hj hj'=>?_
   have:=hI j (by omega)
   rwa [bp hj,bp hj'] at this
noncomputable def ruleB (sig:cZ) (r:Rule):Bool:=gU sig r.redex && D0 r.redex && gU sig r.reactum && decide (r.reactum.inner.length=0) && decide (r.redex.roots=r.reactum.roots) && decide (r.redex.outer=r.reactum.outer) &&
 decide (r.copies.length=r.reactum.sites.length) && r.copies.all (fun k=>within k 0 (r.redex.sites.length - 1))
noncomputable abbrev IsRule (sig:cZ) (r:Rule):Bool:=ruleB sig r
def mayB (zone:Int) (ba:I) (m:Match) (x:Int):Bool:=if zone=2 then !(yS ba m.nodes x) else if zone=3 then yS ba m.nodes x && !(qW m.nodes x) else true
noncomputable def holdsB (g:Guard) (ba:I) (m:Match):Bool:=((wY g.pattern ba).any fun o=>o.nodes.all (mayB g.zone ba m)) != g.neg
noncomputable abbrev holds (g:Guard) (ba:I) (m:Match):Bool:=holdsB g ba m
end Go.Ab.Vg
namespace Go.Ab
open Go.Proofs
end Go.Ab
namespace Go.Ab.Vg
end Go.Ab.Vg
namespace Go.Ab.Vg
end Go.Ab.Vg
namespace Go.Ab.Vg
abbrev jL (l:List cP):Prop:=l.length<=1048576
abbrev yR (l:List cP):List cP:=l
def lq (s:List cP) (Z:(List cP)->Prop):Prop:=
 ∀ c2:Bool,(c2=true->s=[])->((c2=true->Z [])/\(c2=false->(([]:List cP).length+s.length<=1073741824)/\∀ l7:List cP,l7=([]:List cP)++s->Z l7))
theorem Be (l:List cP) (h:jL l):lq l (fun y=>y=yR l):=by
 unfold lq;intro c hc;refine⟨fun h1=>(hc h1).symm,fun _=>⟨by simp;omega,?_⟩⟩;rintro _ rfl;simp
end Go.Ab.Vg
namespace Go.Ab
open Go.Proofs Go.RowKit
def runeS (n:Int):cP:=(Utf8.encode n).data.toList
section
variable {P:Program} {f:FuncId} {N:Nat} {k:List Item} {Q:au->ax->Nat->Prop} {Ty:Types} {l:List Oper} {O:Env} {H:ax} {n:Nat} {d:Option Tmp} {ty:TypeId} {pos:String} {af:Array Edge} {gu:Option (Nat × Bool)}
end
end Go.Ab
namespace Go.Ab.Vg
def zName (k:Nat):cP:=122::runeS (97+k)
def AL (outer:List cP) (k:Nat):List cP:=((List.range k).map zName).filter fun s=>decide (s ∉ outer)
end Go.Ab.Vg
namespace Go.Ab.Vg
def qx (l:List Int) (s:Int):Int:=if s ∈ l then (l.idxOf s:Int) else -1
def eC (p:Int->Bool) (n:Nat):List Int:=((List.range n).map fun i:Nat=>(i:Int)).filter p
def eF (p:Int->Bool) (n:Nat):Int:=((eC p n).length:Int)
section
variable (p:Int->Bool)
theorem oV {n:Nat} (h:p n=true):eC p (n+1)=eC p n++[(n:Int)]:=by simp[eC,List.range_succ,h]
theorem rW {n:Nat} (h:p n=false):eC p (n+1)=eC p n:=by simp[eC,List.range_succ,h]
theorem nC {n:Nat} (h:p n=true):eF p (n+1)=eF p n+1:=by rw[eF,oV p h,eF];simp
theorem tI {n:Nat} (h:p n=false):eF p (n+1)=eF p n:=by rw[eF,rW p h,eF]
theorem sW {n:Nat} {x:Int}:x ∈ eC p n↔(0<=x/\x<n)/\p x=true:=by
 simp only[eC,List.mem_filter,List.mem_map,List.mem_range];exact⟨fun ⟨⟨i,h1,h2⟩,h3⟩=>⟨by omega,h3⟩,fun ⟨h1,h2⟩=>⟨⟨x.toNat,by omega,by omega⟩,h2⟩⟩
theorem sS (n:Nat):(eC p n).length<=n:=by
 have:=List.length_filter_le p ((List.range n).map fun i:Nat=>(i:Int));simpa[eC] using this
theorem FR (n:Nat):0<=eF p n/\eF p n<=n:=by
 have:=sS p n;rw[eF];omega
theorem yi {n:Nat} {x:Int} (h:x ∈ eC p n):qx (eC p n) x=eF p x.toNat:=by
 induction n with
 | zero=>simp[eC] at h
 | succ n ih=>
  cases hp:p n
  ·rw[rW p hp] at h ⊢;exact ih h
  ·rw[oV p hp] at h ⊢
   by_cases hm:x ∈ eC p n
   ·rw[<- ih hm,qx,qx,if_pos h,if_pos hm,List.idxOf_append,if_pos hm]
   ·have hx:x=n:=by simpa[hm] using h
    subst hx;rw[qx,if_pos h,List.idxOf_append,if_neg hm];simp[eF]
theorem wL {p q:Int->Bool} {n:Nat} (h:∀ x:Int,0<=x->x<n->p x=q x):eC p n=eC q n:=by
 refine List.filter_congr fun x hx=>?_
 simp only[List.mem_map,List.mem_range] at hx;obtain⟨i,h1,rfl⟩:=hx;exact h _ (by omega) (by omega)
theorem BY {m n:Nat} (h:m<=n):eF p m<=eF p n:=by
 induction n with
 | zero=>rw[show m=0 by omega];exact Int.le_refl _
 | succ n ih=>
  rcases Nat.lt_or_ge m (n+1) with h1 | h1
  ·refine Int.le_trans (ih (by omega)) ?_;cases hp:p n
   ·rw[tI p hp];exact Int.le_refl _
   ·rw[nC p hp];omega
  ·rw[show m=n+1 by omega];exact Int.le_refl _
end
end Go.Ab.Vg
namespace Go.Ab.Vg
theorem CT {α:Type} (f:Nat->α) (n k:Nat) (v:α):((List.range n).map f).set k v=(List.range n).map fun i=>if i=k then v else f i:=by
 refine List.ext_getElem (by simp) fun i h1 h2=>?_
 simp only[List.getElem_set,List.getElem_map,List.getElem_range]
 by_cases h:k=i
 ·simp[h]
 ·simp[h,Ne.symm h]
end Go.Ab.Vg
namespace Go.Ab.Vg
end Go.Ab.Vg
namespace Go.Ab.Vg
structure jB where
 edges:List Int
 places:List Int
instance:Inhabited jB:=⟨⟨[],[]⟩⟩
abbrev uc (b:I):List Int × jB:=((a6 b).order,⟨(a6 b).s.es,(a6 b).s.pl⟩)
abbrev vZ (b:I):Prop:=∃ sig,bA sig b
theorem wc {b:I} (he:nJ b) (hd:fh b):m9 b ≠ []:=kS (by simpa using (mH he hd b.nodes.length (Nat.le_refl _)).2)
theorem Fb {b:I} (he:nJ b) (hd:fh b):∃ a ∈ bR b b.nodes.length,a6 b=cX b a:=by
 have hne:=wc he hd;obtain⟨f1,_⟩:=oY (m9 b) (at' (m9 b) 0);have hm:a6 b ∈ m9 b:=by
  rcases f1 with f1 | f1
  ·rw[a6,f1];exact at_mem ⟨by omega,by have:=List.length_pos_iff.2 hne;omega⟩
  ·exact f1
 obtain⟨a,ha,e⟩:=List.mem_map.1 (ml hm);exact⟨a,ha,e.symm⟩
theorem yF {sig:cZ} {b:I} (hv:bA sig b):((a6 b).code,(a6 b).order)=dF b b.nodes.length (jj b):=
 (xk hv.even hv.tC (fun p hp=>(hv.sites p hp).2) (by rw[m9,AP]) _ (at_mem ⟨by omega,by have:=List.length_pos_iff.2 (wc hv.even hv.tC);omega⟩)).1
abbrev pP (b:I):List Int:=(a6 b).order
abbrev ks (b:I):Prop:=∃ sig,bA sig b
def jF (b:I) (Z:(List Int)->Prop):Prop:=
 ∀ cM:Int,cM=(b.nodes.length:Int)->(gI cM)/\∀ r7:List Int,r7=gX cM->(gI b.edges)/\∀ r9:List Int,r9=gX b.edges->(gH b r7 r9 0)/\∀ r11:(List Int) × (List Int),r11=jT b r7 r9 0->Z r11.2
theorem qz {sig:cZ} {b:I} (hv:bA sig b):eJ b (gX b.nodes.length) (gX b.edges) 0 (jj b):=by
 refine⟨by simpa using xJ,Hk b,⟨hv.edges,by simp[jj],by simp[jj]⟩,by simp[jj,gX],?_,by omega⟩;simp only[jj,gX,cn,List.not_mem_nil,if_false];rw[List.map_const',List.length_range]
theorem xK (b:I) (h:ks b):jF b (fun y=>y=pP b):=by
 unfold jF;obtain⟨sig,hv⟩:=h;have hn:=hv.len;have he:=hv.edges;have e:=mA (qz hv);rw[show b.nodes.length - (0:Int).toNat=b.nodes.length by simp,<- yF hv] at e;simp only[forall_eq];exact⟨⟨by omega,by omega⟩,⟨by omega,by omega⟩,⟨⟨sig,hv⟩,_,qz hv⟩,by rw[e]⟩
end Go.Ab.Vg
namespace Go.Ab.Vg
theorem qj (b:I) (o t:List Int):∀ i≤o.length,sb b (o++t) i=sb b o i
 | 0,_=>rfl
 | i+1,h=>by
  have e:at' (o++t) (i:Int)=at' o (i:Int):=by rw[bp (show i<(o++t).length by simp;omega),bp (show i<o.length by omega),List.getElem_append_left]
  simp only[sb,qj b o t i (by omega),e]
structure AttC (b:I) (m:Nat) (a:fZ):Prop where
 s:a.s=(sb b a.order m).2
 nd:a.order.Nodup
 rng:∀ k ∈ a.order,0<=k/\k<b.nodes.length
 pos:∀ i:Nat,i<m->at' a.s.pl (at' a.order (i:Int))=i
theorem EE {sig:cZ} {b:I} (hv:bA sig b) {m:Nat} (hm:m<=8) {a x:fZ} (h:wz b m a) (hc:AttC b m a) (hx:x ∈ fL b a):AttC b (m+1) x:=by
 simp only[fL,List.mem_map] at hx;obtain⟨k,hk,rfl⟩:=hx;have hr:=(cy.1 hk).1;have hf:at' a.s.pl k<0:=by
  have:=(cy.1 hk).2;simp only[dj,Bool.and_eq_true,decide_eq_true_eq] at this;exact this.1
 have hkm:k ∉ a.order:=fun hm2=>by have:=(h.mem k hr).1 hm2;omega
 have hkl:0<=k/\k<a.s.pl.length:=by rw[h.s.pl];exact hr
 have hn:=h.s.num;have e0:at' (a.order++[k]) (m:Int)=k:=by rw[bp (by simp[h.ord]),List.getElem_append_right (by simp[h.ord])];simp[h.ord]
 refine⟨?_,?_,fun j hj=>?_,fun i hi=>?_⟩
 ·simp only[sb];rw[qj b _ _ m (by rw[h.ord];omega),<- hc.s,e0]
 ·simp only;rw[List.nodup_append];exact⟨hc.nd,by simp,fun x hx c hc2=>by simp only[List.mem_singleton] at hc2;subst hc2;exact fun e=>hkm (e ▸ hx)⟩
 ·rcases List.mem_append.1 hj with hj | hj
  ·exact hc.rng j hj
  ·simp only[List.mem_singleton] at hj;subst hj;exact hr
 ·simp only[bJ]
  by_cases he:i=m
  ·subst he;rw[e0,ic hr.1 hkl,if_pos rfl,hn]
  ·have hi2:i<m:=by omega
   have e1:at' (a.order++[k]) (i:Int)=at' a.order (i:Int):=by rw[bp (by simp[h.ord];omega),bp (by rw[h.ord];omega),List.getElem_append_left]
   have hmem:at' a.order (i:Int) ∈ a.order:=at_mem (by rw[h.ord];omega);rw[e1,ic (hc.rng _ hmem).1 hkl,if_neg (fun e=>hkm (by rw[<- e];exact hmem))];exact hc.pos i hi2
theorem Fw {sig:cZ} {b:I} (hv:bA sig b):∀ m≤b.nodes.length,∀ a ∈ bR b m,AttC b m a
 | 0,_,a,ha=>by
  rw[List.mem_singleton.1 ha];exact⟨rfl,by simp,by simp,fun i hi=>by omega⟩
 | m+1,hm,a,ha=>by
  have hn:=hv.len;obtain⟨x,hx,h2⟩:=List.mem_flatMap.1 (ml ha);exact EE hv (by omega) (nw hv m (by omega) x hx) (Fw hv m (by omega) x hx) h2
structure Fx (b:I):Prop where
 len:(a6 b).order.length=b.nodes.length
 nd:(a6 b).order.Nodup
 rng:∀ k ∈ (a6 b).order,0<=k/\k<b.nodes.length
 pl:(a6 b).s.pl.length=b.nodes.length
 pos:∀ i:Nat,i<b.nodes.length->at' (a6 b).s.pl (at' (a6 b).order (i:Int))=i
 es:lT b (a6 b).s.es
 code:(ma b (a6 b).order).2=cn b (a6 b).s.es
theorem F4 {sig:cZ} {b:I} (hv:bA sig b):Fx b:=by
 obtain⟨a,ha,e⟩:=Fb hv.even hv.tC;have h1:=nw hv _ (Nat.le_refl _) a ha;have h2:=Fw hv _ (Nat.le_refl _) a ha;obtain⟨e1,e2,e3⟩:=EK hv h2.rng a.order.length (Nat.le_refl _);obtain⟨t1,t2⟩:=dX (b.inner.map fun w=>w.link) _ e2 fun l hl=>by
  obtain⟨w,hw,rfl⟩:=List.mem_map.1 hl;exact (hv.wires w hw).1
 have hs:(sb b a.order a.order.length).2=a.s:=by rw[h1.ord];exact h2.s.symm
 rw[hs] at t2;refine⟨?_,?_,?_,?_,?_,?_,?_⟩<;>rw[e]
 ·exact h1.ord
 ·exact h2.nd
 ·exact h2.rng
 ·exact h1.s.pl
 ·exact h2.pos
 ·exact t2
 ·simp only[cX];rw[Bh hv h2.rng,hs]
theorem wk {l:List Int} {n:Nat} (hn:l.Nodup) (h:∀ x ∈ l,0<=x/\x<n):l.length<=n:=by
 have:=hn.length_le_of_subset (l₂:=(List.range n).map fun i:Nat=>(i:Int)) fun x hx=>by
  have:=h x hx;exact List.mem_map.2 ⟨x.toNat,List.mem_range.2 (by omega),by omega⟩
 simpa using this
theorem Fx.mem {b:I} (h:Fx b) {k:Int} (hk:0<=k/\k<b.nodes.length):k ∈ (a6 b).order:=by
 by_cases hm:k ∈ (a6 b).order
 ·exact hm
 ·have:=wk (l:=k::(a6 b).order) (n:=b.nodes.length) (List.nodup_cons.2 ⟨hm,h.nd⟩) fun x hx=>by
   rcases List.mem_cons.1 hx with rfl | hx
   ·exact hk
   ·exact h.rng x hx
  have hl:=h.len;simp only[List.length_cons] at this;omega
theorem Fx.at {b:I} (h:Fx b) {k:Int} (hk:0<=k/\k<b.nodes.length):at' (a6 b).s.pl k=(((a6 b).order.idxOf k:Nat):Int):=by
 have hm:=h.mem hk;have hi:=List.idxOf_lt_length_of_mem hm;have:=h.pos _ (by rw[<- h.len];exact hi)
 rwa [bp hi,List.getElem_idxOf] at this
abbrev gE (_:Int) (_:I) (edges:List Int):Prop:=edges.length<=1048576
abbrev ie (l:Int) (b:I) (edges:List Int):Int:=if l >= b.edges then l else dw edges l
def nN (l:Int) (v_:I) (v_':List Int) (Z:Int->Prop):Prop:=
 ∀ c2:Bool,c2=decide (v_.edges<=l)->((c2=true->Z l)/\(c2=false->(lS v_' l)/\∀ r5:Int,r5=dw v_' l->Z r5))
theorem Fz (l:Int) (b:I) (edges:List Int) (h:gE l b edges):nN l b edges (fun y=>y=ie l b edges):=by
 unfold nN;simp only[forall_eq,decide_eq_true_eq,decide_eq_false_iff_not];exact⟨fun h1=>by rw[ie,if_pos h1],fun h1=>⟨h,by rw[ie,if_neg h1]⟩⟩
abbrev gJ (p:Int) (c:jB):Prop:=p<c.places.length
abbrev ja (p:Int) (c:jB):Int:=if 0<=p then at' c.places p else p
def mK (p:Int) (v_:jB) (Z:Int->Prop):Prop:=
 ∀ c2:Bool,c2=decide (0<=p)->((c2=true->(0<=p/\p<v_.places.length)/\∀ x5:Int,x5=at' v_.places p->Z x5)/\(c2=false->Z p))
theorem Ed (p:Int) (c:jB) (h:gJ p c):mK p c (fun y=>y=ja p c):=by
 unfold mK;simp only[forall_eq,decide_eq_true_eq,decide_eq_false_iff_not];exact⟨fun h1=>⟨⟨h1,h⟩,by rw[ja,if_pos h1]⟩,fun h1=>by rw[ja,if_neg h1]⟩
theorem tg {l:List Int} {x:Int} (h:qW l x=true):x ∈ l:=vL.1 h
theorem qT {l:List Int} {x:Int} (h:qW l x=false):x ∉ l:=GZ.1 h
abbrev jS (es:List Int) (n:Nat):List Int:=eC (fun l => !decide (l ∈ es)) n
def wX (b:I):List Int:=(a6 b).s.es++jS (a6 b).s.es b.edges.toNat
def gm (b:I) (k:Int):az:=⟨(at' b.nodes k).control,ja (at' b.nodes k).parent (uc b).2,(at' b.nodes k).links.map fun l=>ie l b (wX b)⟩
def ck (b:I):I:=⟨b.roots,(a6 b).order.map (gm b),b.sites.map (fun p=>ja p (uc b).2),b.edges,b.outer,b.inner.map fun w=>⟨w.name,ie w.link b (wX b)⟩⟩
abbrev jN (b:I):Prop:=∃ sig,bA sig b
def lg (b:I) (Z:I->Prop):Prop:=
 (vZ b)/\∀ r6:(List Int) × jB,r6=uc b->(jO r6.2.edges)/\∀ r17:List Int,r17=uI r6.2.edges->aO (σ:=Int × (List Int)) (fun (v36,l37) K41=>∀ c42:Bool,c42=decide (v36<b.edges)->((c42=true->(l37.length<=1048576)/\∀ r45:Bool,r45=qW l37 v36->((r45=true->(bB (v36+1))/\∀ v61:Int,v61=v36+1->K41 (v61,l37))/\(r45=false->(l37.length+1<=1073741824)/\∀ l47:List Int,l47=l37++[v36]->(bB (v36+1))/\∀ v58:Int,v58=v36+1->K41 (v58,l47))))/\(c42=false->(jL b.outer)/\∀ r66:List cP,r66=yR b.outer->∀ len77:Int,len77=(r6.1.length:Int)->aO (σ:=Int × (List az)) (fun (v101,l102) K110=>∀ c111:Bool,c111=decide (v101<len77)->((c111=true->(0<=v101/\v101<r6.1.length)/\∀ x114:Int,x114=at' r6.1 v101->(0<=x114/\x114<b.nodes.length)/\∀ x123:az,x123=at' b.nodes x114->(0<=x114/\x114<b.nodes.length)/\∀ x126:az,x126=at' b.nodes x114->(gJ x123.parent r6.2)/\∀ r130:Int,r130=ja x123.parent r6.2->(0<=x114/\x114<b.nodes.length)/\∀ x144:az,x144=at' b.nodes x114->∀ len146:Int,len146=(x144.links.length:Int)->aO (σ:=Int × (List Int)) (fun (v173,l174) K183=>∀ c184:Bool,c184=decide (v173<len146)->((c184=true->(0<=v173/\v173<x144.links.length)/\∀ x187:Int,x187=at' x144.links v173->(gE x187 b l37)/\∀ r190:Int,r190=ie x187 b l37->(l174.length+1<=1073741824)/\∀ l192:List Int,l192=l174++[r190]->(bB (v173+1))/\∀ v208:Int,v208=v173+1->K183 (v208,l192))/\(c184=false->(l102.length+1<=1073741824)/\∀ l211:List az,l211=l102++[(az.mk x123.control r130 l174)]->(bB (v101+1))/\∀ v226:Int,v226=v101+1->K110 (v226,l211)))) (0,([]:List Int)))/\(c111=false->∀ len228:Int,len228=(b.sites.length:Int)->aO (σ:=Int × (List Int)) (fun (v245,l246) K254=>∀ c255:Bool,c255=decide (v245<len228)->((c255=true->(0<=v245/\v245<b.sites.length)/\∀ x258:Int,x258=at' b.sites v245->(gJ x258 r6.2)/\∀ r261:Int,r261=ja x258 r6.2->(l246.length+1<=1073741824)/\∀ l263:List Int,l263=l246++[r261]->(bB (v245+1))/\∀ v278:Int,v278=v245+1->K254 (v278,l263))/\(c255=false->∀ len280:Int,len280=(b.inner.length:Int)->aO (σ:=Int × (List aQ)) (fun (v297,l298) K306=>∀ c307:Bool,c307=decide (v297<len280)->((c307=true->(0<=v297/\v297<b.inner.length)/\∀ x310:aQ,x310=at' b.inner v297->(gE x310.link b l37)/\∀ r320:Int,r320=ie x310.link b l37->(l298.length+1<=1073741824)/\∀ l322:List aQ,l322=l298++[(aQ.mk x310.name r320)]->(bB (v297+1))/\∀ v337:Int,v337=v297+1->K306 (v337,l322))/\(c307=false->Z (I.mk b.roots l102 l246 b.edges r66 l298)))) (0,([]:List aQ))))) (0,([]:List Int))))) (0,([]:List az))))) (0,r17)
theorem A5 (b:I) (h:jN b):lg b (fun y=>y=ck b):=by
 unfold lg;obtain⟨sig,hv⟩:=h;have hc:=F4 hv;have hn:=hv.len;have he:=hv.edges;have ho:=hv.outer;have hi:=hv.inner;have hs:=hv.slen;have hel:(a6 b).s.es.length<=b.edges.toNat:=wk hc.es.nd fun x hx=>by have:=hc.es.rng x hx;omega
 have hal:∀ k≤b.edges.toNat,((a6 b).s.es++jS (a6 b).s.es k).length<=16:=fun k hk=>by
  have:(jS (a6 b).s.es k).length<=k:=sS (fun l => !decide (l ∈ (a6 b).s.es)) k;simp only[List.length_append];omega
 simp only[forall_eq,decide_eq_true_eq,decide_eq_false_iff_not];refine⟨⟨sig,hv⟩,by simp only[jO];omega,?_⟩;refine aO.pN b.edges.toNat (fun k t=>t=(a6 b).s.es++jS (a6 b).s.es k) _ (by simp[eC,uI]) ?_;rintro k _ K hk rfl IH;dsimp only;have hak:=hal k hk;refine⟨fun hc1=>⟨by omega,fun hc2=>?_,fun hc2=>?_⟩,fun hc1=>?_⟩
 ·have hk2:k<b.edges.toNat:=by omega
  refine⟨by simp only[bB];omega,IH hk2 _ ?_⟩;have h3:(k:Int) ∈ (a6 b).s.es:=by
   rcases List.mem_append.1 (tg hc2) with h3 | h3
   ·exact h3
   ·have:=(sW _).1 h3;omega
  rw[jS,jS,rW _ (by simpa using h3)]
 ·have hk2:k<b.edges.toNat:=by omega
  have h3:(k:Int) ∉ (a6 b).s.es:=fun h3=>by
   exact qT hc2 (List.mem_append_left _ h3)
  refine⟨by omega,by simp only[bB];omega,IH hk2 _ ?_⟩;rw[jS,jS,oV _ (by simpa using h3),List.append_assoc]
 ·obtain rfl:k=b.edges.toNat:=by omega
  have hE:(a6 b).s.es++jS (a6 b).s.es b.edges.toNat=wX b:=rfl;have hal2:(wX b).length<=16:=by rw[<- hE];exact hak
  rw[hE];have hpl:=hc.pl;refine⟨by simp only[jL];omega,?_⟩;refine aO.pN (a6 b).order.length (fun k t=>t=((a6 b).order.take k).map (gm b)) [] (by simp) ?_;rintro k _ K2 hk2 rfl IH2;dsimp only;have hkl:(((a6 b).order.take k).map (gm b)).length=k:=by simp;omega
  have hol:=hc.len;refine⟨fun hc1=>?_,fun hc1=>?_⟩
  ·have hk3:k<(a6 b).order.length:=by omega
   rw[bp hk3];have hm:=List.getElem_mem hk3;have hr:=hc.rng _ hm;have hp:=hv.lN hr;have hl3:=hv.ga hr;have e0:((a6 b).order.take (k+1)).map (gm b)=((a6 b).order.take k).map (gm b)++[gm b (a6 b).order[k]]:=by rw[List.take_succ_eq_append_getElem hk3,List.map_append];rfl
   refine⟨⟨by omega,by omega⟩,hr,hr,by simp only[gJ];omega,hr,?_⟩;refine aO.pN (at' b.nodes (a6 b).order[k]).links.length (fun j t=>t=((at' b.nodes (a6 b).order[k]).links.take j).map fun l=>ie l b (wX b)) [] (by simp) ?_;rintro j _ K3 hj rfl IH3;dsimp only;generalize hL:(at' b.nodes (a6 b).order[k]).links=L at *;refine⟨fun hc3=>?_,fun hc3=>?_⟩
   ·have hj2:j<L.length:=by omega
    rw[bp hj2];have e:=List.take_succ_eq_append_getElem hj2;refine⟨⟨by omega,by omega⟩,by simp only[gE];omega,by simp;omega,by simp only[bB];omega,IH3 hj2 _ ?_⟩;rw[e,List.map_append];rfl
   ·refine⟨by omega,by simp only[bB];omega,IH2 hk3 _ ?_⟩;rw[e0,gm,hL,show j=L.length by omega,List.take_length]
  ·obtain rfl:k=(a6 b).order.length:=by omega
   rw[List.take_length];refine aO.pN b.sites.length (fun k t=>t=(b.sites.take k).map fun p=>ja p (uc b).2) [] (by simp) ?_;rintro k _ K3 hk3 rfl IH3;dsimp only;have hsl:((b.sites.take k).map fun p=>ja p (uc b).2).length=k:=by simp;omega
   refine⟨fun hc3=>?_,fun hc3=>?_⟩
   ·have hk4:k<b.sites.length:=by omega
    rw[bp hk4];have hp:=hv.sites _ (List.getElem_mem hk4);refine⟨⟨by omega,by omega⟩,by simp only[gJ];omega,by simp;omega,by simp only[bB];omega,IH3 hk4 _ ?_⟩;rw[List.take_succ_eq_append_getElem hk4,List.map_append];rfl
   ·obtain rfl:k=b.sites.length:=by omega
    rw[List.take_length];refine aO.pN b.inner.length (fun k t=>t=(b.inner.take k).map fun w=>(⟨w.name,ie w.link b (wX b)⟩:aQ)) [] (by simp) ?_;rintro k _ K4 hk4 rfl IH4;dsimp only;have hwl:((b.inner.take k).map fun w=>(⟨w.name,ie w.link b (wX b)⟩:aQ)).length=k:=by simp;omega
    refine⟨fun hc4=>?_,fun hc4=>?_⟩
    ·have hk5:k<b.inner.length:=by omega
     rw[bp hk5];refine⟨⟨by omega,by omega⟩,by simp only[gE];omega,by omega,by simp only[bB];omega,IH4 hk5 _ ?_⟩;rw[List.take_succ_eq_append_getElem hk5,List.map_append];rfl
    ·obtain rfl:k=b.inner.length:=by omega
     rw[List.take_length]
     rfl
theorem rk {p:Int->Bool}:∀ {n:Nat} {m:Int},0<=m/\m<eF p n->∃ j:Nat,j<n/\p j=true/\eF p j=m
 | 0,m,h=>by simp[eF,eC] at h;omega
 | n+1,m,h=>by
  cases hp:p n
  ·rw[tI p hp] at h;obtain⟨j,h1,h2⟩:=rk h;exact⟨j,by omega,h2⟩
  ·rw[nC p hp] at h
   by_cases he:m=eF p n
   ·exact⟨n,by omega,hp,he.symm⟩
   ·obtain⟨j,h1,h2⟩:=rk (p:=p) (n:=n) (m:=m) (by omega);exact⟨j,by omega,h2⟩
abbrev jR (l:List Int) (i:Int):Bool:=decide (at' l i<0)
def mP (l:List Int) (i:Int):Int:=if at' l i<0 then gA l+eF (jR l) i.toNat else at' l i
def j6 (l:List Int):List Int:=(List.range l.length).map fun i:Nat=>mP l i
structure k9 (l:List Int):Prop where
 len:l.length<=8
 all:∀ v:Int,0<=v->(v ∈ l↔v<gA l)
def nn (edges:List Int) (Z:(List Int)->Prop):Prop:=
 (fV edges)/\∀ r3:List Int,r3=vm edges->aO (σ:=Int × Int × (List Int)) (fun (nextV22,i23,l24) K28=>∀ len29:Int,len29=(l24.length:Int)->∀ c31:Bool,c31=decide (i23<len29)->((c31=true->(0<=i23/\i23<l24.length)/\∀ x38:Int,x38=at' l24 i23->∀ c41:Bool,c41=decide (x38<0)->((c41=true->aO (σ:=Int) (fun nextV46 K50=>(l24.length<=1048576)/\∀ r52:Bool,r52=qW l24 nextV46->((r52=true->(bB (nextV46+1))/\∀ v54:Int,v54=nextV46+1->K50 (v54))/\(r52=false->(0<=i23/\i23<l24.length)/\∀ x61:Int,x61=at' l24 i23->∀ l64:List Int,l64=l24.set i23.toNat nextV46->(bB (i23+1))/\∀ v71:Int,v71=i23+1->K28 (nextV46,v71,l64)))) (nextV22))/\(c41=false->(bB (i23+1))/\∀ v74:Int,v74=i23+1->K28 (nextV22,v74,l24))))/\(c31=false->Z l24))) (0,0,r3)
theorem DG (l:List Int) (h:k9 l):nn l (fun y=>y=j6 l):=by
 unfold nn;obtain⟨hl,ha⟩:=h;simp only[forall_eq,decide_eq_true_eq,decide_eq_false_iff_not];have hc0:0<=gA l/\gA l<=l.length:=by
  have:=List.length_filter_le (fun x:Int=>decide (0<=x)) l;rw[gA];omega
 refine⟨by simp only[fV];omega,?_⟩;refine aO.up l.length (fun s=>s.2.1) (fun k (t:Int × List Int)=>(t.1,(k:Int),t.2)) (fun _ _=>rfl) (fun k t=>(0<=t.1/\t.1<=gA l+eF (jR l) k)/\t.2=(List.range l.length).map fun j:Nat=>if j<k then mP l j else at' l j) (0,l) rfl ⟨⟨by omega,by simp[eF,eC];omega⟩,?_⟩ ?_
 ·refine List.ext_getElem (by simp) fun i h1 h2=>?_
  simp only[List.getElem_map,List.getElem_range,Nat.not_lt_zero,if_false];rw[bp h1]
 rintro k ⟨nx,out⟩ K hk ⟨⟨n0,U⟩,ho⟩ IH;dsimp only at n0 U ho ⊢;have hlen:out.length=l.length:=by rw[ho];simp
 have hcp:=FR (jR l) k;refine⟨fun hc1=>?_,fun hc1=>?_⟩
 ·have hk2:k<l.length:=by omega
  have hat:at' out (k:Int)=at' l k:=by rw[bp (by omega)];simp[ho]
  refine⟨⟨by omega,by omega⟩,?_⟩;rw[hat];refine⟨fun hc2=>?_,fun hc2=>?_⟩
  ·have hmem:∀ v:Int,0<=v->(v ∈ out↔v<gA l+eF (jR l) k):=fun v hv=>by
    rw[ho,List.mem_map];refine⟨fun ⟨j,hj,e⟩=>?_,fun hlt=>?_⟩
    ·rw[List.mem_range] at hj
     by_cases h1:j<k
     ·rw[if_pos h1,mP] at e
      split at e
      ·rename_i h2
       have h3:=BY (p:=jR l) (show j+1<=k by omega);rw[nC _ (show jR l (j:Int)=true by simpa[jR] using h2)] at h3;rw[Int.toNat_natCast] at e;omega
      ·have:=(ha v hv).1 (by rw[<- e];exact at_mem (by omega));omega
     ·rw[if_neg h1] at e;have:=(ha v hv).1 (by rw[<- e];exact at_mem (by omega));omega
    ·by_cases h1:v<gA l
     ·obtain⟨j,hj,e⟩:=List.getElem_of_mem ((ha v hv).2 h1);refine⟨j,List.mem_range.2 hj,?_⟩;have e1:at' l (j:Int)=v:=by rw[bp hj,e]
      split
      ·rw[mP,e1,if_neg (by omega)]
      ·exact e1
     ·obtain⟨j,j1,j2,j3⟩:=rk (p:=jR l) (n:=k) (m:=v - gA l) ⟨by omega,by omega⟩;refine⟨j,List.mem_range.2 (by omega),?_⟩;rw[if_pos j1,mP,if_pos (by simpa[jR] using j2),Int.toNat_natCast,j3];omega
   refine aO.byM (fun nx=>0<=nx/\nx<=gA l+eF (jR l) k) (fun nx=>(gA l+eF (jR l) k - nx).toNat) ⟨n0,U⟩ ?_;rintro nx ⟨n0,U⟩;refine⟨by omega,fun hb=>?_,fun hb=>?_⟩
   ·have h2:=(hmem nx n0).1 (tg hb);exact⟨by simp only[bB];omega,⟨by omega,by omega⟩,by omega⟩
   ·have h2:¬ nx<gA l+eF (jR l) k:=fun h2=>qT hb ((hmem nx n0).2 h2)
    have h3:nx=gA l+eF (jR l) k:=by omega
    have hneg:jR l (k:Int)=true:=by simpa[jR] using hc2
    refine⟨⟨by omega,by omega⟩,by simp only[bB];omega,IH hk2 (nx,out.set (k:Int).toNat nx) ⟨⟨n0,?_⟩,?_⟩⟩
    ·rw[nC _ hneg,h3];simp only;omega
    ·simp only[ho,Int.toNat_natCast];rw[CT];refine List.map_congr_left fun i _=>?_
     by_cases h4:i=k
     ·subst h4;rw[if_pos rfl,if_pos (by omega),mP,if_pos hc2,Int.toNat_natCast,h3]
     ·rw[if_neg h4]
      by_cases h5:i<k
      ·rw[if_pos h5,if_pos (by omega)]
      ·rw[if_neg h5,if_neg (by omega)]
  ·have hneg:jR l (k:Int)=false:=by simpa[jR] using hc2
   refine⟨by simp only[bB];omega,IH hk2 (nx,out) ⟨⟨n0,by rw[tI _ hneg];exact U⟩,?_⟩⟩;simp only[ho];refine List.map_congr_left fun i _=>?_
   by_cases h4:i=k
   ·subst h4;rw[if_neg (by omega),if_pos (by omega),mP,if_neg hc2]
   ·by_cases h5:i<k
    ·rw[if_pos h5,if_pos (by omega)]
    ·rw[if_neg h5,if_neg (by omega)]
 ·rw[ho,j6];refine List.map_congr_left fun i hi=>?_
  rw[if_pos (by have:=List.mem_range.1 hi;omega)]
theorem sA {b:I} {es:List Int} (h:lT b es):k9 (cn b es):=by
 have he:=h.ed;refine⟨by simp[cn];omega,fun v hv=>?_⟩;rw[iO h];simp only[cn,List.mem_map,List.mem_range];refine⟨fun ⟨l,hl,e⟩=>?_,fun hlt=>?_⟩
 ·split at e
  ·rename_i hm
   have:=List.idxOf_lt_length_of_mem hm;omega
  ·omega
 ·have hlt2:v.toNat<es.length:=by omega
  have hm:=List.getElem_mem hlt2;have hr:=h.rng _ hm;refine⟨es[v.toNat].toNat,by omega,?_⟩;rw[show ((es[v.toNat].toNat:Nat):Int)=es[v.toNat] by omega,if_pos hm,h.nd.idxOf_getElem];omega
theorem Bi {b:I} {es:List Int} (h:lT b es) {l:Int} (hl:0<=l/\l<b.edges):at' (j6 (cn b es)) l=dw (es++jS es b.edges.toNat) l:=by
 have he:=h.ed;have hln:(cn b es).length=b.edges.toNat:=by simp[cn]
 have e0:at' (j6 (cn b es)) l=mP (cn b es) l:=by
  obtain⟨n,rfl⟩:∃ n:Nat,l=n:=⟨l.toNat,by omega⟩
  rw[bp (by simp[j6,hln];omega)];simp[j6]
 rw[e0,mP,gN hl,dw]
 by_cases hm:l ∈ es
 ·rw[if_pos hm,if_neg (by omega),if_pos (by simp[hm]),List.idxOf_append,if_pos hm]
 ·have hi:l ∈ jS es b.edges.toNat:=(sW _).2 ⟨by omega,by simpa using hm⟩;have e1:(((jS es b.edges.toNat).idxOf l:Nat):Int)=eF (fun l => !decide (l ∈ es)) l.toNat:=by
   have:=yi _ hi
   rwa [qx,if_pos hi] at this
  rw[if_neg hm,if_pos (by omega),if_pos (by simp[hi]),List.idxOf_append,if_neg hm,iO h];have e2:eF (jR (cn b es)) l.toNat=eF (fun l => !decide (l ∈ es)) l.toNat:=by
   rw[eF,eF,wL fun x h0 h1=>?_];rw[jR,gN (by omega)]
   by_cases hx:x ∈ es
   ·rw[if_pos hx];simp[hx]
   ·rw[if_neg hx];simp[hx]
  rw[e2,<- e1];omega
abbrev k7 (b:I) (l:Int) (es:List Int):Prop:=0<=l/\(l<b.edges->l<es.length)
abbrev je (b:I) (l:Int) (es:List Int):Int:=if l >= b.edges then l else at' es l
def nq (b:I) (link:Int) (edges:List Int) (Z:Int->Prop):Prop:=
 ∀ c4:Bool,c4=decide (b.edges<=link)->((c4=true->Z link)/\(c4=false->(0<=link/\link<edges.length)/\∀ x7:Int,x7=at' edges link->Z x7))
theorem Ev (b:I) (l:Int) (es:List Int) (h:k7 b l es):nq b l es (fun y=>y=je b l es):=by
 unfold nq;simp only[forall_eq,decide_eq_true_eq,decide_eq_false_iff_not];exact⟨fun h1=>by rw[je,if_pos h1],fun h1=>⟨⟨h.1,h.2 (by omega)⟩,by rw[je,if_neg h1]⟩⟩
abbrev fC (p:Int) (to:List Int):Prop:=p<to.length
abbrev gh (p:Int) (to:List Int):Int:=if p<0 then p else at' to p
def kT (parent:Int) (to_:List Int) (Z:Int->Prop):Prop:=
 ∀ c2:Bool,c2=decide (parent<0)->((c2=true->Z parent)/\(c2=false->(0<=parent/\parent<to_.length)/\∀ x5:Int,x5=at' to_ parent->Z x5))
theorem Ct (p:Int) (to:List Int) (h:fC p to):kT p to (fun y=>y=gh p to):=by
 unfold kT;simp only[forall_eq,decide_eq_true_eq,decide_eq_false_iff_not];exact⟨fun h1=>by rw[gh,if_pos h1],fun h1=>⟨⟨by omega,h⟩,by rw[gh,if_neg h1]⟩⟩
def pR (b:I) (to edges:List Int) (k:Int):az:=⟨(at' b.nodes k).control,gh (at' b.nodes k).parent to,(at' b.nodes k).links.map fun l=>je b l edges⟩
def km (b:I) (to edges:List Int):Nat->List az
 | 0=>List.replicate b.nodes.length default
 | k+1=>(km b to edges k).set (at' to (k:Int)).toNat (pR b to edges k)
theorem jg (b:I) (to edges:List Int):∀ k,(km b to edges k).length=b.nodes.length
 | 0=>by simp[km]
 | k+1=>by simp[km,jg b to edges k]
def iE (b:I) (to edges:List Int):I:=⟨b.roots,km b to edges b.nodes.length,b.sites.map (fun p=>gh p to),b.edges,b.outer,b.inner.map fun w=>⟨w.name,je b w.link edges⟩⟩
structure lY (b:I) (to edges:List Int):Prop where
 v:∃ sig,bA sig b
 l:to.length=b.nodes.length
 r:∀ k ∈ to,0<=k/\k<b.nodes.length
 e:edges.length=b.edges.toNat
def lu (b:I) (to_:List Int) (edges:List Int) (Z:I->Prop):Prop:=
 ∀ a7:Int,a7=(b.nodes.length:Int)->(0<=a7/\a7<=1073741824)/\∀ l9:List az,l9=List.replicate a7.toNat default->(([]:List cP).length+b.outer.length<=1073741824)/\∀ l13:List cP,l13=([]:List cP)++b.outer->aO (σ:=Int × (List az)) (fun (i339,l340) K345=>∀ len346:Int,len346=(b.nodes.length:Int)->∀ c348:Bool,c348=decide (i339<len346)->((c348=true->aO (σ:=Int × (List Int)) (fun (k366,l367) K373=>(0<=i339/\i339<b.nodes.length)/\∀ x375:az,x375=at' b.nodes i339->∀ len377:Int,len377=(x375.links.length:Int)->∀ c379:Bool,c379=decide (k366<len377)->((c379=true->(0<=i339/\i339<b.nodes.length)/\∀ x382:az,x382=at' b.nodes i339->(0<=k366/\k366<x375.links.length)/\∀ x386:Int,x386=at' x375.links k366->(k7 b x386 edges)/\∀ r389:Int,r389=je b x386 edges->(l367.length+1<=1073741824)/\∀ l391:List Int,l391=l367++[r389]->(bB (k366+1))/\∀ v403:Int,v403=k366+1->K373 (v403,l391))/\(c379=false->(0<=i339/\i339<to_.length)/\∀ x406:Int,x406=at' to_ i339->(0<=i339/\i339<b.nodes.length)/\∀ x409:az,x409=at' b.nodes i339->(0<=i339/\i339<b.nodes.length)/\∀ x413:az,x413=at' b.nodes i339->(fC x375.parent to_)/\∀ r417:Int,r417=gh x375.parent to_->(0<=x406/\x406<l340.length)/\∀ x420:az,x420=at' l340 x406->∀ l439:List az,l439=l340.set x406.toNat (az.mk x375.control r417 l367)->(bB (i339+1))/\∀ v447:Int,v447=i339+1->K345 (v447,l439)))) (0,([]:List Int)))/\(c348=false->aO (σ:=Int × (List Int)) (fun (i468,l469) K476=>∀ len477:Int,len477=(b.sites.length:Int)->∀ c479:Bool,c479=decide (i468<len477)->((c479=true->(0<=i468/\i468<b.sites.length)/\∀ x482:Int,x482=at' b.sites i468->(fC x482 to_)/\∀ r485:Int,r485=gh x482 to_->(l469.length+1<=1073741824)/\∀ l487:List Int,l487=l469++[r485]->(bB (i468+1))/\∀ v501:Int,v501=i468+1->K476 (v501,l487))/\(c479=false->aO (σ:=Int × (List aQ)) (fun (i516,l517) K524=>∀ len525:Int,len525=(b.inner.length:Int)->∀ c527:Bool,c527=decide (i516<len525)->((c527=true->(0<=i516/\i516<b.inner.length)/\∀ x530:aQ,x530=at' b.inner i516->(0<=i516/\i516<b.inner.length)/\∀ x533:aQ,x533=at' b.inner i516->(k7 b x530.link edges)/\∀ r537:Int,r537=je b x530.link edges->(l517.length+1<=1073741824)/\∀ l539:List aQ,l539=l517++[(aQ.mk x530.name r537)]->(bB (i516+1))/\∀ v553:Int,v553=i516+1->K524 (v553,l539))/\(c527=false->Z (I.mk b.roots l340 l469 b.edges l13 l517)))) (0,([]:List aQ))))) (0,([]:List Int))))) (0,l9)
theorem Db (b:I) (to edges:List Int) (h:lY b to edges):lu b to edges (fun y=>y=iE b to edges):=by
 unfold lu;obtain⟨⟨sig,hv⟩,hl,hr,he⟩:=h;have hn:=hv.len;have hed:=hv.edges;have ho:=hv.outer;have hi:=hv.inner;have hs:=hv.slen;simp only[forall_eq,decide_eq_true_eq,decide_eq_false_iff_not];refine⟨by omega,by simp;omega,?_⟩;refine aO.pN b.nodes.length (fun k t=>t=km b to edges k) _ (by simp[km]) ?_;rintro k _ K hk rfl IH;dsimp only;have hkl:=jg b to edges k;refine⟨fun hc1=>?_,fun hc1=>?_⟩
 ·have hk2:k<b.nodes.length:=by omega
  have hkr:0<=(k:Int)/\(k:Int)<b.nodes.length:=by omega
  have hl3:=hv.ga hkr;have hla:=hv.kJ hkr;have hp:=hv.lN hkr;have ht:=hr (at' to (k:Int)) (at_mem (by omega));refine aO.pN (at' b.nodes (k:Int)).links.length (fun j t=>t=((at' b.nodes (k:Int)).links.take j).map fun l=>je b l edges) [] (by simp) ?_;rintro j _ K3 hj rfl IH3;dsimp only;refine⟨hkr,fun hc3=>?_,fun hc3=>?_⟩
  ·have hj2:j<(at' b.nodes (k:Int)).links.length:=by omega
   rw[bp hj2];have e:=List.take_succ_eq_append_getElem hj2;have hm:=hla _ (List.getElem_mem hj2);refine⟨hkr,⟨by omega,by omega⟩,⟨by omega,fun _=>by omega⟩,by simp;omega,by simp only[bB];omega,IH3 hj2 _ ?_⟩;rw[e,List.map_append];rfl
  ·obtain rfl:j=(at' b.nodes (k:Int)).links.length:=by omega
   rw[List.take_length];refine⟨by omega,hkr,hkr,by simp only[fC];omega,by omega,by simp only[bB];omega,IH hk2 _ ?_⟩
   rfl
 ·obtain rfl:k=b.nodes.length:=by omega
  refine aO.pN b.sites.length (fun k t=>t=(b.sites.take k).map fun p=>gh p to) [] (by simp) ?_;rintro k _ K3 hk3 rfl IH3;dsimp only;refine⟨fun hc3=>?_,fun hc3=>?_⟩
  ·have hk4:k<b.sites.length:=by omega
   rw[bp hk4];have hp:=hv.sites _ (List.getElem_mem hk4);refine⟨⟨by omega,by omega⟩,by simp only[fC];omega,by simp;omega,by simp only[bB];omega,IH3 hk4 _ ?_⟩;rw[List.take_succ_eq_append_getElem hk4,List.map_append];rfl
  ·obtain rfl:k=b.sites.length:=by omega
   rw[List.take_length];refine aO.pN b.inner.length (fun k t=>t=(b.inner.take k).map fun w=>(⟨w.name,je b w.link edges⟩:aQ)) [] (by simp) ?_;rintro k _ K4 hk4 rfl IH4;dsimp only;refine⟨fun hc4=>?_,fun hc4=>?_⟩
   ·have hk5:k<b.inner.length:=by omega
    rw[bp hk5];have hw:=hv.wires _ (List.getElem_mem hk5);refine⟨⟨by omega,by omega⟩,⟨by omega,by omega⟩,⟨by omega,fun _=>by omega⟩,by simp;omega,by simp only[bB];omega,IH4 hk5 _ ?_⟩;rw[List.take_succ_eq_append_getElem hk5,List.map_append];rfl
   ·obtain rfl:k=b.inner.length:=by omega
    rw[List.take_length]
    rfl
theorem at_map {α β:Type} [Inhabited α] [Inhabited β] {l:List α} (f:α->β) {k:Int} (h:0<=k/\k<l.length):at' (l.map f) k=f (at' l k):=by
 obtain⟨n,rfl⟩:∃ n:Nat,k=n:=⟨k.toNat,by omega⟩
 rw[bp (by simp;omega),bp (show n<l.length by omega),List.getElem_map]
theorem F0 {α:Type} [Inhabited α] {l:List α} {v:α} {i j:Int} (hj:0<=j) (hi:0<=i/\i<l.length):at' (l.set i.toNat v) j=if j=i then v else at' l j:=by
 obtain⟨n,rfl⟩:∃ n:Nat,j=n:=⟨j.toNat,by omega⟩
 simp only[at',Int.toNat_natCast,List.getElem?_set,List.getD_eq_getElem?_getD]
 by_cases h:(n:Int)=i
 ·subst h;rw[Int.toNat_natCast,if_pos rfl,if_pos rfl,if_pos (by omega)];rfl
 ·rw[if_neg h,if_neg (by omega)]
theorem l8 {α:Type} [Inhabited α] {l m:List α} (hl:l.length=m.length) (h:∀ k:Nat,k<l.length->at' l (k:Int)=at' m (k:Int)):l=m:=by
 refine List.ext_getElem hl fun i h1 h2=>?_
 have:=h i h1
 rwa [bp h1,bp h2] at this
theorem vi {b:I} {to edges order:List Int} (hn:order.length=b.nodes.length) (hr:∀ k ∈ order,0<=k/\k<b.nodes.length) (ht:∀ k:Int,0<=k/\k<b.nodes.length->(0<=at' to k/\at' to k<b.nodes.length)/\at' order (at' to k)=k) (hp:∀ i:Nat,i<b.nodes.length->at' to (at' order (i:Int))=i) :
  km b to edges b.nodes.length=order.map (pR b to edges):=by
 have h:∀ m≤b.nodes.length,∀ i:Nat,i<b.nodes.length->at' (km b to edges m) (i:Int)=if at' order (i:Int)<m then pR b to edges (at' order (i:Int)) else default:=by
  intro m
  induction m with
  | zero=>
   intro _ i hi;have h1:=hr _ (at_mem (l:=order) (i:=(i:Int)) (by omega));rw[if_neg (by omega),km,bp (by simpa using hi),List.getElem_replicate]
  | succ m ih=>
   intro hm i hi;have h1:=hr _ (at_mem (l:=order) (i:=(i:Int)) (by omega));have h2:=ht (m:Int) (by omega);have h3:=hp i hi;rw[km,F0 (by omega) (by rw[jg];exact h2.1),ih (by omega) i hi]
   by_cases he:(i:Int)=at' to (m:Int)
   ·have h4:at' order (i:Int)=m:=by rw[he];exact h2.2
    rw[if_pos he,h4,if_pos (by omega)]
   ·have h4:at' order (i:Int) ≠ m:=fun h4=>he (by rw[<- h4];exact h3.symm)
    rw[if_neg he]
    by_cases h5:at' order (i:Int)<m
    ·rw[if_pos h5,if_pos (by omega)]
    ·rw[if_neg h5,if_neg (by omega)]
 refine l8 (by rw[jg,List.length_map,hn]) fun k hk=>?_
 rw[jg] at hk;have h1:=hr _ (at_mem (l:=order) (i:=(k:Int)) (by omega));rw[h _ (Nat.le_refl _) k hk,if_pos h1.2,at_map _ (by omega)]
def Dh (order:List Int) (n:Nat):Nat->List Int
 | 0=>List.replicate n 0
 | i+1=>(Dh order n i).set (at' order (i:Int)).toNat (i:Int)
theorem kI (order:List Int) (n:Nat):∀ i,(Dh order n i).length=n
 | 0=>by simp[Dh]
 | i+1=>by simp[Dh,kI order n i]
theorem yy {order:List Int} {n:Nat} (hd:order.Nodup) (hr:∀ k ∈ order,0<=k/\k<n):∀ m≤order.length,∀ i:Nat,i<m->at' (Dh order n m) (at' order (i:Int))=i
 | m+1,hm,i,hi=>by
  have h1:=hr _ (at_mem (l:=order) (i:=(m:Int)) (by omega));have h2:=hr _ (at_mem (l:=order) (i:=(i:Int)) (by omega));rw[Dh,ic h2.1 (by rw[kI];exact h1)]
  by_cases he:i=m
  ·subst he;rw[if_pos rfl]
  ·rw[if_neg fun e=>he ?_]
   ·exact yy hd hr m (by omega) i (by omega)
   ·rw[bp (show i<order.length by omega),bp (show m<order.length by omega)] at e;exact (List.getElem_inj hd).1 e
abbrev jG (b:I):I:=ck b
abbrev l6 (b:I):Prop:=∃ sig,bA sig b
def lz (b:I) (Z:I->Prop):Prop:=
 (ks b)/\∀ r6:List Int,r6=pP b->∀ ue:Int,ue=(r6.length:Int)->(0<=ue/\ue<=1073741824)/\∀ l10:List Int,l10=List.replicate ue.toNat default->aO (σ:=Int × (List Int)) (fun (i21,l22) K26=>∀ len27:Int,len27=(r6.length:Int)->∀ c29:Bool,c29=decide (i21<len27)->((c29=true->(0<=i21/\i21<r6.length)/\∀ x32:Int,x32=at' r6 i21->(0<=x32/\x32<l22.length)/\∀ x39:Int,x39=at' l22 x32->∀ l42:List Int,l42=l22.set x32.toNat i21->(bB (i21+1))/\∀ v49:Int,v49=i21+1->K26 (v49,l42))/\(c29=false->(mg b r6)/\∀ r52:(List Int) × (List Int),r52=ma b r6->(k9 r52.2)/\∀ r69:List Int,r69=j6 r52.2->(lY b l22 r69)/\∀ r71:I,r71=iE b l22 r69->Z r71))) (0,l10)
theorem BG {sig:cZ} {b:I} (hv:bA sig b):iE b (Dh (a6 b).order (a6 b).order.length (a6 b).order.length) (j6 (cn b (a6 b).s.es))=ck b:=by
 have hc:=F4 hv;have hn:=hc.len;rw[hn];have hp:∀ i:Nat,i<b.nodes.length->at' (Dh (a6 b).order b.nodes.length b.nodes.length) (at' (a6 b).order (i:Int))=i:=fun i hi=>yy hc.nd hc.rng _ (by omega) i hi
 have hat:∀ k:Int,0<=k/\k<b.nodes.length->at' (Dh (a6 b).order b.nodes.length b.nodes.length) k=(((a6 b).order.idxOf k:Nat):Int):=fun k hk=>by
  have hm:=hc.mem hk;have hi:=List.idxOf_lt_length_of_mem hm;have:=hp _ (by rw[<- hn];exact hi)
  rwa [bp hi,List.getElem_idxOf] at this
 have hpar:∀ p:Int,p<b.nodes.length->gh p (Dh (a6 b).order b.nodes.length b.nodes.length)=ja p (uc b).2:=fun p hp2=>by
  by_cases h0:0<=p
  ·rw[gh,if_neg (by omega),ja,if_pos h0,hat p ⟨h0,hp2⟩];exact (hc.at ⟨h0,hp2⟩).symm
  ·rw[gh,if_pos (by omega),ja,if_neg h0]
 have htie:∀ l:Int,0<=l->je b l (j6 (cn b (a6 b).s.es))=ie l b (wX b):=fun l h0=>by
  by_cases h1:l >= b.edges
  ·rw[je,if_pos h1,ie,if_pos h1]
  ·rw[je,if_neg h1,ie,if_neg h1,Bi hc.es ⟨h0,by omega⟩];rfl
 rw[iE,ck,vi hn hc.rng (fun k hk=>?_) hp]
 ·congr 1
  ·refine List.map_congr_left fun k hk=>?_
   have hr:=hc.rng k hk;rw[pR,gm,hpar _ (by have:=hv.lN hr;omega)]
   congr 1
   exact List.map_congr_left fun l hl=>htie l (hv.kJ hr l hl).1
  ·exact List.map_congr_left fun p hp2=>hpar p (hv.sites p hp2).2
  ·refine List.map_congr_left fun w hw=>?_
   rw[htie _ (hv.wires w hw).1]
 ·rw[hat k hk];have hm:=hc.mem hk;have hi:=List.idxOf_lt_length_of_mem hm;refine⟨by omega,?_⟩;rw[bp hi,List.getElem_idxOf]
theorem Bz (b:I) (h:l6 b):lz b (fun y=>y=jG b):=by
 unfold lz;obtain⟨sig,hv⟩:=h;have hc:=F4 hv;have hn:=hv.len;have hed:=hv.edges;have hcl:=hc.len;simp only[forall_eq,decide_eq_true_eq,decide_eq_false_iff_not,pP];refine⟨⟨sig,hv⟩,by omega,?_⟩;refine aO.pN (a6 b).order.length (fun k t=>t=Dh (a6 b).order (a6 b).order.length k) _ (by simp[Dh]) ?_;rintro k _ K hk rfl IH;dsimp only;refine⟨fun hc1=>?_,fun hc1=>?_⟩
 ·have hk2:k<(a6 b).order.length:=by omega
  have hr:=hc.rng _ (at_mem (l:=(a6 b).order) (i:=(k:Int)) (by omega));exact⟨by omega,by rw[kI];omega,by simp only[bB];omega,IH hk2 _ rfl⟩
 ·obtain rfl:k=(a6 b).order.length:=by omega
  have hnl:(cn b (a6 b).s.es).length=b.edges.toNat:=by simp[cn]
  refine⟨⟨⟨sig,hv⟩,by omega,hc.rng⟩,?_⟩;rw[hc.code];refine⟨sA hc.es,⟨⟨sig,hv⟩,by rw[kI,hcl],fun k hk=>?_,by simp[j6,hnl]⟩,BG hv⟩;obtain⟨i,hi,rfl⟩:=List.getElem_of_mem hk;rw[kI] at hi;have hm:=hc.mem (k:=(i:Int)) (by omega);have hx:=List.idxOf_lt_length_of_mem hm;have:=yy hc.nd (n:=(a6 b).order.length) (fun k hk=>by have:=hc.rng k hk;omega) _ (Nat.le_refl _) _ hx;rw[bp hx,List.getElem_idxOf,bp (by rw[kI];exact hi)] at this;omega
end Go.Ab.Vg
namespace Go.Ab.Vg
end Go.Ab.Vg
