/- Merged texts (11 of 16) of the proof that ends in Isy: Rp Rb Md Mo St Mu Yb Co Mp Em Na Nl L2kw. -/
import Derived.Test.YtheoibfaknbobaaGreatDoorAbQis10
open Go.Proofs.Tryz
set_option linter.unusedSimpArgs false
set_option linter.unusedVariables false
namespace Go.Proofs.YtheoibfaknbobaaGreatDoor
open Go.ChangeShapes Go.WideShapes Go.ChangeAt Go.RowKit Go.Ab
set_option maxRecDepth 100000
theorem own:ownKnob Tryz.prog.godebug=none:=by kernel_rfl
theorem laidOut:laidOutB prog=true:=by kernel_rfl
theorem CG:Tryz.prog.underlying 4=some .bool:=Tryz.underlying4
end Go.Proofs.YtheoibfaknbobaaGreatDoor
namespace Go.Proofs.YtheoibfaknbobaaGreatDoor
open Go.ChangeShapes Go.WideShapes Go.ChangeAt Go.RowKit Go.Ab
set_option maxRecDepth 100000
theorem Em:Reader prog 50 Control.cells (fun x=>x.name.length<=9223372036854775807):=by
 have h:=Reader.struct Tryz.underlying50 (n:=3) (by kernel_rfl) (b4.cons (n:=1) rfl (by kernel_rfl) (Reader.str Tryz.underlying9) (b4.cons (n:=1) rfl (by kernel_rfl) (Reader.int Tryz.underlying3) (b4.cons (n:=1) rfl (by kernel_rfl) (Reader.int Tryz.underlying3) (b4.nil 3))));exact h.map (fun p=>⟨p.1,p.2.1,p.2.2.1⟩) (fun p=>rfl) (fun p hp=>hp.1)
theorem rWire:Reader prog 84 aQ.cells (fun x=>x.name.length<=9223372036854775807):=by
 have h:=Reader.struct Tryz.underlying84 (n:=2) (by kernel_rfl) (b4.cons (n:=1) rfl (by kernel_rfl) (Reader.str Tryz.underlying9) (b4.cons (n:=1) rfl (by kernel_rfl) (Reader.int Tryz.underlying3) (b4.nil 2)));exact h.map (fun p=>⟨p.1,p.2.1⟩) (fun p=>rfl) (fun p hp=>hp.1)
theorem FN:Reader prog 24 (fun l:List Int=>[Ab.encI false l]) (fun l=>l.length<=9223372036854775807/\∀ p ∈ l,bp p):=
 Reader.slice Tryz.underlying24 (of_decide_eq_true (by kernel_rfl)) (Reader.int Tryz.underlying3)
theorem rStrs:Reader prog 25 (fun l:List cB=>[Ab.encS false l]) (fun l=>l.length<=9223372036854775807/\∀ s ∈ l,s.length<=9223372036854775807):=
 Reader.slice Tryz.underlying25 (of_decide_eq_true (by kernel_rfl)) (Reader.str Tryz.underlying9)
theorem rGNode:Reader prog 81 (aA.cells false) (fun x=>x.links.length<=9223372036854775807/\bp x.parent):=by
 have h:=Reader.struct Tryz.underlying81 (n:=3) (by kernel_rfl) (b4.cons (n:=1) rfl (by kernel_rfl) (Reader.int Tryz.underlying3) (b4.cons (n:=1) rfl (by kernel_rfl) (Reader.int Tryz.underlying3) (b4.cons (n:=1) rfl (by kernel_rfl) FN (b4.nil 3))));exact h.map (fun p=>⟨p.1,p.2.1,p.2.2.1⟩) (fun p=>rfl) (fun p hp=>⟨hp.2.2.1.1,hp.2.1⟩)
theorem rNodes:Reader prog 23 (fun l:List aA=>[Ab.bP false l]) (fun l=>l.length<=9223372036854775807/\∀ x ∈ l,x.links.length<=9223372036854775807/\bp x.parent):=
 Reader.slice Tryz.underlying23 (of_decide_eq_true (by kernel_rfl)) rGNode
theorem rWires:Reader prog 26 (fun l:List aQ=>[Ab.bX false l]) (fun l=>l.length<=9223372036854775807/\∀ x ∈ l,x.name.length<=9223372036854775807):=
 Reader.slice Tryz.underlying26 (of_decide_eq_true (by kernel_rfl)) rWire
theorem rSig:uY prog 22 (bj false) AF:=by
 refine uY.cell (Ae Tryz.underlying22) ?_;have h:=Reader.slice Tryz.underlying22 (of_decide_eq_true (by kernel_rfl)) Em;exact h.map (fun p=>p) (fun p=>rfl) (fun p hp=>⟨hp.1,hp.2⟩)
theorem rBigF:Reader prog 28 (aD.cells false) kn:=by
 have h:=Reader.struct Tryz.underlying28 (n:=6) (by kernel_rfl) (b4.cons (n:=1) rfl (by kernel_rfl) (Reader.int Tryz.underlying3) (b4.cons (n:=1) rfl (by kernel_rfl) rNodes (b4.cons (n:=1) rfl (by kernel_rfl) FN
  (b4.cons (n:=1) rfl (by kernel_rfl) (Reader.int Tryz.underlying3) (b4.cons (n:=1) rfl (by kernel_rfl) rStrs (b4.cons (n:=1) rfl (by kernel_rfl) rWires (b4.nil 6)))))))
 exact h.map (e':=aD.cells false) (ok':=kn) (fun p=>⟨p.1,p.2.1,p.2.2.1,p.2.2.2.1,p.2.2.2.2.1,p.2.2.2.2.2.1⟩) (fun p=>rfl) (fun p hp=>by
  obtain⟨_,h1,h2,_,h3,h4,_⟩:=hp;exact⟨h1.1,fun x hx=>(h1.2 x hx).1,h2.1,h3.1,h3.2,h4.1,h4.2,fun x hx=>(h1.2 x hx).2,h2.2⟩)
theorem rBig:uY prog 28 (cw false) kn:=uY.struct Tryz.underlying28 rBigF
end Go.Proofs.YtheoibfaknbobaaGreatDoor
namespace Go.Ab.Vg
abbrev EqB (x:aD):Prop:=x.nodes.length<=1048576/\(∀ z ∈ x.nodes,z.links.length<=1048576)/\x.sites.length<=1048576/\x.outer.length<=1048576/\x.inner.length<=1048576
theorem Ft {sig:dE} {b:aD} (h:cQ sig b):EqB b:=⟨h.nodesLen,h.linksLen,h.sitesLen,h.outerLen,h.innerLen⟩
theorem x8 {sig:dE} {b:aD} (h:cQ sig b):bW b:=⟨⟨h.nodesLen,h.linksLen⟩,h.sitesLen,h.outerLen,h.innerLen⟩
theorem bothOf {sig s2:dE} {b b2:aD} (h:cQ sig b2) (h2:cQ s2 b):cQ sig b:=
 ⟨h.sigLen,h.sigNames,h2.nodesLen,h2.sitesLen,h2.outerLen,h2.innerLen,h2.outerNames,h2.innerNames,h2.linksLen,h2.parents,h2.sites64⟩
theorem Du (b:aD) (left:Int) (h:0<=left):tv b left<=left:=by
 unfold tv;have h1:=jW pF b.nodes left h
 split
 ·omega
 have h2:=xL qz b.sites (fi pF b.nodes left) (by omega)
 split
 ·omega
 have h3:=jW dt b.outer (qz b.sites (fi pF b.nodes left)) (by omega)
 split
 ·omega
 have h4:=jW AQ b.inner (fi dt b.outer (qz b.sites (fi pF b.nodes left))) (by omega)
 split<;>omega
theorem AV:∀ {l:List aA},(∀ x ∈ l,x.links.length<=1048576)->(l.map dN).sum<=1048578 * l.length
 | [],_=>by simp
 | x::l,h=>by
  have h1:=AV (l:=l) fun y hy=>h y (by simp[hy])
  have h2:=h x (by simp);simp only[List.map_cons,List.sum_cons,List.length_cons,dN] at h1 ⊢;omega
theorem FJ {b:aD} (h:EqB b) (k:Int) (h0:0<=k) (hk:k<=1125899906842624):gC b k/\(k<=(dX b k).2/\(dX b k).2<=k+2199027449856):=by
 obtain⟨h1,h2,h3,h4,h5⟩:=h;have hs:=AV h2;have hb:uD b=(b.nodes.map dN).sum+b.sites.length+b.outer.length+2 * b.inner.length:=rfl;refine⟨⟨h0,h1,h2,h3,h4,h5,by omega⟩,?_⟩;have p1:=ly b.nodes k;simp only[dX,bG,fa,iv,j9,p1];omega
end Go.Ab.Vg
namespace Go.Ab.Vg
structure ArgsB (sig:dE) (r a:aD):Prop where
 hS:sig.length<=1048576
 r:cQ sig r
 a:cQ sig a
theorem argsB {sig:dE} {r a:aD} (h1:¬ fi nS sig 1048576<0) (h2:¬ tv r (fi nS sig 1048576)<0) (h3:¬ tv a (tv r (fi nS sig 1048576))<0) (hr:kn r) (ha:kn a):ArgsB sig r a:=by
 have l1:=jW nS sig 1048576 (by omega);have l2:=Du r (fi nS sig 1048576) (by omega);have hR:cQ sig r:=C0 (left:=1048576) (by omega) (by omega) (by omega) (by omega) hr;have e0:fi nS [] (tv r (fi nS sig 1048576))=tv r (fi nS sig 1048576):=by
  have:fi nS [] (tv r (fi nS sig 1048576))=(if tv r (fi nS sig 1048576) - (([]:dE).length:Int)<0 then -1 else tv r (fi nS sig 1048576) - (([]:dE).length:Int)):=by
   unfold fi;split<;>rfl
  rw[this];simp only[List.length_nil];split<;>omega
 have hA:cQ [] a:=C0 (left:=tv r (fi nS sig 1048576)) (by omega) (by omega) (by rw[e0];omega) (by rw[e0];omega) ha;exact⟨hR.sigLen,hR,bothOf hR hA⟩
end Go.Ab.Vg
namespace Go.Ab
structure Guard where
 zone:Int
 neg:Bool
 pattern:aD
 deriving Inhabited,DecidableEq
section
variable {H:az} {n:Nat}
end
end Go.Ab
namespace Go.Ab.Vg
def mayB (zone:Int) (ar:aD) (m:Match) (x:Int):Bool:=if zone=2 then !(c8 ar m.nodes x) else if zone=3 then c8 ar m.nodes x && !(kc m.nodes x) else true
noncomputable def holdsB (g:Guard) (ar:aD) (m:Match):Bool:=((er g.pattern ar).any fun o=>o.nodes.all (mayB g.zone ar m)) != g.neg
noncomputable abbrev holds (g:Guard) (ar:aD) (m:Match):Bool:=holdsB g ar m
end Go.Ab.Vg
namespace Go.Ab
open Go.Proofs
end Go.Ab
namespace Go.Ab.Vg
end Go.Ab.Vg
namespace Go.Ab.Vg
end Go.Ab.Vg
namespace Go.Ab.Vg
end Go.Ab.Vg
namespace Go.Ab.Vg
abbrev lT (l:List Int):List Int × Unit:=(l.mergeSort fun x y=>decide (x<=y),())
theorem yW {l m:List Int} (hl:l.Pairwise (·<·)) (hm:m.Pairwise (·<·)) (h:∀ x,x ∈ l↔x ∈ m):l=m:=by
 have U:l.Nodup:=hl.imp fun h=>by omega
 have n2:m.Nodup:=hm.imp fun h=>by omega
 exact ((List.perm_ext_iff_of_nodup U n2).2 h).eq_of_pairwise (fun a b _ _ h h'=>by omega) hl hm
def zName (k:Nat):cB:=122::runeS (97+k)
def AO (outer:List cB) (k:Nat):List cB:=((List.range k).map zName).filter fun s=>decide (s ∉ outer)
end Go.Ab.Vg
namespace Go.Ab.Vg
noncomputable abbrev xN (l:List Match):List (List Int):=dQ (nB (l.map fun m=>(lT m.nodes).1))
noncomputable abbrev cH (sig:List Control) (I ar:aD):List (List Int) × Bool:=if (a7 sig I ar).2 then (xN (a7 sig I ar).1,true) else ([],false)
abbrev ga (sig:List Control) (I ar:aD):Prop:=ch sig I ar
def ik (sig:List Control) (I:aD) (ar:aD) (Z:((List (List Int)) × Bool)->Prop):Prop:=
 (iL sig I ar)/\∀ r6:(List Match) × Bool,r6=a7 sig I ar->((r6.2=true->∀ cD:Int,cD=(r6.1.length:Int)->aG (σ:=Int × (List (List Int))) (fun (v21,l22) K26=>∀ c27:Bool,c27=decide (v21<cD)->((c27=true->(0<=v21/\v21<r6.1.length)/\∀ x30:Match,x30=at' r6.1 v21->(iO x30.nodes)/\∀ r36:List Int,r36=nP x30.nodes->(r36.length<=1073741824)/\∀ r48:(List Int) × Unit,r48=lT r36->(l22.length+1<=1073741824)/\∀ l60:List (List Int),l60=l22++[r48.1]->(bp (v21+1))/\∀ v70:Int,v70=v21+1->K26 (v70,l60))/\(c27=false->(yf l22)/\∀ r73:(List (List Int)) × Unit,r73=FH l22->(yf r73.1)/\∀ r83:List (List Int),r83=dQ r73.1->Z (r83,true)))) (0,([]:List (List Int))))/\(r6.2=false->Z ([],false)))
theorem kl {sig:dE} {I ar:aD} (h:ch sig I ar) {m:Match} (hm:m ∈ (a7 sig I ar).1):m.nodes.length<=1048576/\m.nodes.Nodup:=by
 obtain⟨h1,h2⟩:=CQ hm;have hP:=(kQ.1 h2).1.2;have hs:=(yE (jN h1) h2).1;refine⟨by omega,List.pairwise_iff_getElem.2 fun i j hi hj hij e=>?_⟩;have:=(hP j hj).2;rw[cG hj] at this;exact this (by rw[<- e];exact List.mem_take_iff_getElem.2 ⟨i,by omega,rfl⟩)
theorem vu (sig:List Control) (I ar:aD) (h:ga sig I ar):ik sig I ar (fun y=>y=cH sig I ar):=by
 unfold ik;have hl:=vM sig I ar;have hn:=fun m hm=>(kl h (m:=m) hm).1
 simp only[forall_eq,decide_eq_true_eq,decide_eq_false_iff_not];refine⟨h,fun h1=>?_,fun h1=>?_⟩
 ·have hC:cH sig I ar=(xN (a7 sig I ar).1,true):=by rw[cH,if_pos h1]
  rw[hC];generalize (a7 sig I ar).1=l at hl hn;refine aG.sE l.length (fun k out=>out=(l.take k).map fun m=>(lT m.nodes).1) [] (by simp) ?_;rintro k _ K hk rfl IH;have hs:∀ r ∈ (l.take k).map (fun m=>(lT m.nodes).1),r.length<=1048576:=by
   intro r hr;obtain⟨m,hm,rfl⟩:=List.mem_map.1 hr;have:=hn m (List.mem_of_mem_take hm);simpa[lT] using this
  refine⟨fun h2=>?_,fun h2=>?_⟩
  ·have hk2:k<l.length:=by omega
   have hmk:at' l (k:Int)=l[k]:=cG hk2;have:=hn _ (List.getElem_mem hk2);refine⟨by omega,by rw[hmk];exact this,by rw[hmk];simp only[nP];omega,by simp;omega,by simp only[bp];omega,IH hk2 _ ?_⟩;rw[<- List.take_append_getElem hk2,List.map_append,hmk];rfl
  ·have hk2:k=l.length:=by omega
   subst hk2;rw[List.take_length] at hs ⊢;have hS:yf (l.map fun m=>(lT m.nodes).1):=⟨by simp;omega,hs⟩
   refine⟨hS,⟨by rw[(jG _).length_eq];exact hS.1,fun r hr=>hS.2 r ((jG _).mem_iff.1 hr)⟩,rfl⟩
 ·rw[cH,if_neg (by rw[h1];simp)]
def jf:List Int->Int->List Int
 | [],n=>[n]
 | x::l,n=>if x<n then x::jf l n else if x=n then x::l else n::x::l
abbrev xq (l:List Int) (n:Int):=jf l n
abbrev kg (l:List Int) (_:Int):Prop:=l.length<=1048576
def oM (l:List Int) (n_:Int) (Z:(List Int)->Prop):Prop:=
 aG (σ:=Int) (fun k4 K7=>cE (fun (J8:Bool->Prop)=>∀ len50:Int,len50=(l.length:Int)->∀ c52:Bool,c52=decide (k4<len50)->((c52=true->(0<=k4/\k4<l.length)/\∀ x55:Int,x55=at' l k4->∀ c57:Bool,c57=decide (x55<n_)->J8 (c57))/\(c52=false->J8 (false)))) (fun b11=>((b11=true->(bp (k4+1))/\∀ v15:Int,v15=k4+1->K7 (v15))/\(b11=false->cE (fun (J17:Bool->Prop)=>∀ len41:Int,len41=(l.length:Int)->∀ c43:Bool,c43=decide (k4<len41)->((c43=true->(0<=k4/\k4<l.length)/\∀ x46:Int,x46=at' l k4->∀ c48:Bool,c48=decide (x46=n_)->J17 (c48))/\(c43=false->J17 (false)))) (fun b20=>((b20=true->Z l)/\(b20=false->((0:Int)<=0/\(0:Int)<=k4/\k4<=l.length)/\∀ l25:List Int,l25=(l.take k4.toNat).drop 0->(([]:List Int).length+l25.length<=1073741824)/\∀ l29:List Int,l29=([]:List Int)++l25->(l29.length<=1073741823)/\∀ l32:List Int,l32=l29++[n_]->(0<=k4/\k4<=(l.length:Int)/\(l.length:Int)<=l.length)/\∀ l34:List Int,l34=(l.take (l.length:Int).toNat).drop k4.toNat->(l32.length+l34.length<=1073741824)/\∀ l38:List Int,l38=l32++l34->Z l38))))))) (0)
theorem AX {n:Int}:∀ {l:List Int} {k:Nat},k<=l.length->(∀ j<k,at' l (j:Int)<n)->(k<l.length->¬ at' l (k:Int)<n)->jf l n=if k<l.length/\at' l (k:Int)=n then l else l.take k++[n]++l.drop k
 | [],k,hk,_,_=>by
  have:k=0:=by simpa using hk
  subst this;simp[jf]
 | x::l,0,_,_,h=>by
  have h1:=h (by simp);simp only[fw,List.getD_cons_zero] at h1 ⊢;simp only[jf,if_neg h1,List.length_cons,Nat.zero_lt_succ,true_and,List.take_zero,List.drop_zero,List.nil_append,List.singleton_append]
 | x::l,k+1,hk,hl,h=>by
  have h1:=hl 0 (by omega);simp only[fw,List.getD_cons_zero] at h1;have:=AX (n:=n) (l:=l) (k:=k) (by simpa using hk) (fun j hj=>by have:=hl (j+1) (by omega);rw[fw] at this ⊢;simpa using this) (fun hj=>by have:=h (by simpa using hj);rw[fw] at this ⊢;simpa using this);simp only[jf,if_pos h1,this,fw,List.getD_cons_succ,List.length_cons,Nat.succ_lt_succ_iff,List.take_succ_cons,List.drop_succ_cons,List.cons_append]
  split<;>rfl
theorem C9 (l:List Int) (n:Int) (h:kg l n):oM l n (fun y=>y=xq l n):=by
 unfold oM;simp only[kg] at h;refine aG.wM l.length (fun k=>∀ j<k,at' l (j:Int)<n) (by simp) ?_;rintro k K hk hI IH;simp only[forall_eq,decide_eq_true_eq,decide_eq_false_iff_not,bp];refine⟨fun c=>c=decide (k<l.length/\at' l (k:Int)<n),⟨fun h1=>⟨⟨by omega,h1⟩,by simp[show k<l.length by omega]⟩,fun h1=>by simp[show ¬ k<l.length by omega]⟩,?_⟩;rintro _ rfl;simp only[decide_eq_true_eq,decide_eq_false_iff_not];refine⟨fun h1=>⟨by omega,IH h1.1 fun j hj=>?_⟩,fun h1=>?_⟩
 ·rcases Nat.lt_or_ge j k with h2 | h2
  ·exact hI j h2
  ·rw[show j=k by omega];exact h1.2
 ·have hp:=AX hk hI (fun h2 h3=>h1 ⟨h2,h3⟩);refine⟨fun c=>c=decide (k<l.length/\at' l (k:Int)=n),⟨fun h2=>⟨⟨by omega,h2⟩,by simp[show k<l.length by omega]⟩,fun h2=>by simp[show ¬ k<l.length by omega]⟩,?_⟩;rintro _ rfl;simp only[decide_eq_true_eq,decide_eq_false_iff_not];refine⟨fun h2=>by rw[xq,hp,if_pos h2],fun h2=>?_⟩;refine⟨⟨by omega,by omega,by omega⟩,by simp;omega,by simp;omega,⟨by omega,by omega,by omega⟩,by simp;omega,?_⟩;rw[xq,hp,if_neg h2];simp
abbrev rZ (a b:List Int):Bool:=decide (a=b)
abbrev nU (a b:List Int):Prop:=a.length<=1048576/\b.length<=1048576
def my (a:List Int) (b:List Int) (Z:Bool->Prop):Prop:=
 ∀ cq:Int,cq=(a.length:Int)->∀ xb:Int,xb=(b.length:Int)->∀ c6:Bool,c6=decide (cq ≠ xb)->((c6=true->Z false)/\(c6=false->aG (σ:=Int) (fun i10 K13=>∀ len14:Int,len14=(a.length:Int)->∀ c16:Bool,c16=decide (i10<len14)->((c16=true->(0<=i10/\i10<a.length)/\∀ x19:Int,x19=at' a i10->(0<=i10/\i10<b.length)/\∀ x22:Int,x22=at' b i10->∀ c24:Bool,c24=decide (x19 ≠ x22)->((c24=true->Z false)/\(c24=false->(bp (i10+1))/\∀ v27:Int,v27=i10+1->K13 (v27))))/\(c16=false->Z true))) (0)))
theorem C2 {α:Type} [Inhabited α] {a b:List α} (hl:a.length=b.length) (h:∀ j<a.length,at' a (j:Int)=at' b (j:Int)):a=b:=by
 refine List.ext_getElem hl fun i h1 h2=>?_
 have:=h i h1
 rwa [cG h1,cG h2] at this
theorem B0 (a b:List Int) (h:nU a b):my a b (fun y=>y=rZ a b):=by
 unfold my;obtain⟨h1,h2⟩:=h;simp only[forall_eq,decide_eq_true_eq,decide_eq_false_iff_not,rZ];refine⟨fun h3=>(decide_eq_false (fun e=>h3 (by rw[e]))).symm,fun h3=>?_⟩;refine aG.wM a.length (fun k=>∀ j<k,at' a (j:Int)=at' b (j:Int)) (by simp) ?_;rintro k K hk hI IH;simp only[bp];refine⟨fun h4=>⟨⟨by omega,by omega⟩,by omega,fun h5=>(decide_eq_false (fun e=>h5 (by rw[e]))).symm,fun h5=>⟨by omega,IH (by omega) fun j hj=>?_⟩⟩,fun h4=>?_⟩
 ·rcases Nat.lt_or_ge j k with h6 | h6
  ·exact hI j h6
  ·rw[show j=k by omega];exact Classical.not_not.1 h5
 ·exact (decide_eq_true (C2 (by omega) fun j hj=>hI j (by omega))).symm
def lR (a b:List Int):Bool:=decide (cmpL a b<0)
abbrev kJ (a b:List Int):Prop:=a.length<=1048576/\b.length<=1048576
def jq (a:List Int) (b:List Int) (Z:Bool->Prop):Prop:=
 aG (σ:=Int) (fun i4 K7=>cE (fun (J8:Bool->Prop)=>∀ len42:Int,len42=(a.length:Int)->∀ c44:Bool,c44=decide (i4<len42)->((c44=true->∀ len46:Int,len46=(b.length:Int)->∀ c48:Bool,c48=decide (i4<len46)->J8 (c48))/\(c44=false->J8 (false)))) (fun b11=>((b11=true->(0<=i4/\i4<a.length)/\∀ x15:Int,x15=at' a i4->(0<=i4/\i4<b.length)/\∀ x18:Int,x18=at' b i4->∀ c20:Bool,c20=decide (x15 ≠ x18)->((c20=true->(0<=i4/\i4<a.length)/\∀ x23:Int,x23=at' a i4->(0<=i4/\i4<b.length)/\∀ x27:Int,x27=at' b i4->∀ c30:Bool,c30=decide (x15<x18)->Z c30)/\(c20=false->(bp (i4+1))/\∀ v34:Int,v34=i4+1->K7 (v34))))/\(b11=false->∀ len36:Int,len36=(a.length:Int)->∀ len38:Int,len38=(b.length:Int)->∀ c40:Bool,c40=decide (len36<len38)->Z c40)))) (0)
theorem Fb {a b:List Int} {k:Nat} (h1:k<a.length) (h2:k<b.length) (he:∀ j<k,at' a (j:Int)=at' b (j:Int)) (hn:at' a (k:Int) ≠ at' b (k:Int)):cmpL a b=if at' a (k:Int)<at' b (k:Int) then -1 else 1:=by
 have e:∀ (l:List Int) (j:Nat),j<l.length->at' l (j:Int)=l[j]!:=fun l j hj=>by rw[cG hj];simp[hj]
 rw[e a k h1,e b k h2] at hn ⊢;exact mU h1 h2 (fun j hj=>by have:=he j hj;rwa [e a j (by omega),e b j (by omega)] at this) hn
theorem wF (a b:List Int) (h:kJ a b):jq a b (fun y=>y=lR a b):=by
 unfold jq;obtain⟨h1,h2⟩:=h;refine aG.wM (min a.length b.length) (fun k=>∀ j<k,at' a (j:Int)=at' b (j:Int)) (by simp) ?_;rintro k K hk hI IH;simp only[forall_eq,decide_eq_true_eq,decide_eq_false_iff_not,bp,lR];refine⟨fun c=>c=decide (k<a.length/\k<b.length),⟨fun h3=>by simp[show k<a.length by omega],fun h3=>by simp[show ¬ k<a.length by omega]⟩,?_⟩;rintro _ rfl;simp only[decide_eq_true_eq,decide_eq_false_iff_not];refine⟨fun h3=>⟨by omega,by omega,fun h4=>⟨by omega,by omega,?_⟩,fun h4=>⟨by omega,IH (by omega) fun j hj=>?_⟩⟩,fun h3=>?_⟩
 ·rw[Fb h3.1 h3.2 hI h4]
  split<;>simp_all
 ·rcases Nat.lt_or_ge j k with h6 | h6
  ·exact hI j h6
  ·rw[show j=k by omega];exact Classical.not_not.1 h4
 ·have e:∀ (l:List Int) (j:Nat),j<l.length->at' l (j:Int)=l[j]!:=fun l j hj=>by rw[cG hj];simp[hj]
  rw[lY fun j a1 a2=>by have:=hI j (by omega);rwa [e a j a1,e b j a2] at this]
  repeat' split
  all_goals simp_all<;>omega
noncomputable abbrev eR (sig:List Control) (I ar:aD):List (List Int) × Bool:=cH sig I ar
abbrev ja (sig:List Control) (I ar:aD):Prop:=ch sig I ar
def gl (sig:List Control) (I:aD) (ar:aD) (Z:((List (List Int)) × Bool)->Prop):Prop:=
 (gI sig I ar)/\∀ r9:(List Match) × Bool,r9=dF sig I ar->aG (σ:=Int × (List (List Int))) (fun (i17,l18) K22=>∀ len23:Int,len23=(r9.1.length:Int)->∀ c25:Bool,c25=decide (i17<len23)->((c25=true->aG (σ:=(List Int) × Int) (fun (set36,j37) K41=>(0<=i17/\i17<r9.1.length)/\∀ x43:Match,x43=at' r9.1 i17->∀ len45:Int,len45=(x43.nodes.length:Int)->∀ c47:Bool,c47=decide (j37<len45)->((c47=true->(0<=i17/\i17<r9.1.length)/\∀ x50:Match,x50=at' r9.1 i17->(0<=j37/\j37<x43.nodes.length)/\∀ x54:Int,x54=at' x43.nodes j37->(kg set36 x54)/\∀ r57:List Int,r57=xq set36 x54->(bp (j37+1))/\∀ v61:Int,v61=j37+1->K41 (r57,v61))/\(c47=false->aG (σ:=Int) (fun k66 K70=>cE (fun (J71:Bool->Prop)=>∀ len148:Int,len148=(l18.length:Int)->∀ c150:Bool,c150=decide (k66<len148)->((c150=true->(0<=k66/\k66<l18.length)/\∀ x157:List Int,x157=at' l18 k66->(kJ x157 set36)/\∀ r161:Bool,r161=lR x157 set36->J71 (r161))/\(c150=false->J71 (false)))) (fun b74=>((b74=true->(bp (k66+1))/\∀ v79:Int,v79=k66+1->K70 (v79))/\(b74=false->cE (fun (J81:Bool->Prop)=>∀ len134:Int,len134=(l18.length:Int)->∀ c136:Bool,c136=decide (k66=len134)->((c136=true->J81 (true))/\(c136=false->(0<=k66/\k66<l18.length)/\∀ x143:List Int,x143=at' l18 k66->(nU x143 set36)/\∀ r147:Bool,r147=rZ x143 set36->J81 ((!r147))))) (fun b84=>((b84=true->((0:Int)<=0/\(0:Int)<=k66/\k66<=l18.length)/\∀ l92:List (List Int),l92=(l18.take k66.toNat).drop 0->(([]:List (List Int)).length+l92.length<=1073741824)/\∀ l96:List (List Int),l96=([]:List (List Int))++l92->(l96.length+1<=1073741824)/\∀ l105:List (List Int),l105=l96++[set36]->(0<=k66/\k66<=(l18.length:Int)/\(l18.length:Int)<=l18.length)/\∀ l114:List (List Int),l114=(l18.take (l18.length:Int).toNat).drop k66.toNat->(l105.length+l114.length<=1073741824)/\∀ l118:List (List Int),l118=l105++l114->(bp (i17+1))/\∀ v129:Int,v129=i17+1->K22 (v129,l118))/\(b84=false->(bp (i17+1))/\∀ v132:Int,v132=i17+1->K22 (v132,l18)))))))) (0)))) (([]:List Int),0))/\(c25=false->Z (l18,r9.2)))) (0,([]:List (List Int)))
def lu (l:List Int):List Int:=l.foldl jf []
theorem ra {n x:Int}:∀ {l:List Int},x ∈ jf l n↔x ∈ l\/x=n
 | []=>by simp[jf]
 | y::l=>by
  simp only[jf]
  split
  ·simp[ra (l:=l),or_assoc]
  ·split
   ·rename_i h;subst h;simp only[List.mem_cons];exact⟨.inl,fun h=>h.elim id .inl⟩
   ·simp only[List.mem_cons];exact⟨fun h=>h.elim .inr .inl,fun h=>h.elim .inr .inl⟩
theorem wb {n:Int}:∀ {l:List Int},l.Pairwise (·<·)->(jf l n).Pairwise (·<·)
 | [],_=>by simp[jf]
 | y::l,h=>by
  obtain⟨h1,h2⟩:=List.pairwise_cons.1 h;simp only[jf]
  split
  ·rename_i hy
   exact List.pairwise_cons.2 ⟨fun z hz=>(ra.1 hz).elim (h1 z) fun e=>e ▸ hy,wb h2⟩
  ·split
   ·exact h
   ·refine List.pairwise_cons.2 ⟨fun z hz=>?_,h⟩;rcases List.mem_cons.1 hz with rfl | hz
    ·omega
    ·have:=h1 z hz;omega
theorem wz {n:Int}:∀ {l:List Int},(jf l n).length<=l.length+1
 | []=>by simp[jf]
 | y::l=>by
  have:=wz (n:=n) (l:=l);simp only[jf]
  repeat' split
  all_goals simp<;>omega
theorem jA:∀ (l out:List Int),out.Pairwise (·<·)->(l.foldl jf out).Pairwise (·<·)/\(∀ x,x ∈ l.foldl jf out↔x ∈ out\/x ∈ l)/\(l.foldl jf out).length<=out.length+l.length
 | [],out,h=>⟨h,by simp,by simp⟩
 | n::l,out,h=>by
  obtain⟨h1,h2,h3⟩:=jA l (jf out n) (wb h);have:=wz (n:=n) (l:=out);refine⟨h1,fun x=>?_,by simp only[List.foldl_cons,List.length_cons];omega⟩;rw[List.foldl_cons,h2 x,ra];simp[or_assoc]
theorem xm {l:List Int} (h:l.Nodup):lu l=(lT l).1:=by
 obtain⟨h1,h2,_⟩:=jA l [] (by simp);have h3:(lT l).1.Pairwise (·<=·):=by
  have:=List.pairwise_mergeSort (le:=fun a b:Int=>decide (a<=b)) (fun a b c h1 h2=>by simp only[decide_eq_true_eq] at *;omega) (fun a b=>by simp only[Bool.or_eq_true,decide_eq_true_eq];omega) l;exact this.imp fun h=>by simpa using h
 have hp:(lT l).1.Perm l:=List.mergeSort_perm l _;have h4:(lT l).1.Nodup:=hp.nodup_iff.2 h;exact yW h1 ((List.pairwise_and_iff.2 ⟨h3,h4⟩).imp fun ⟨a,b⟩=>by omega) fun x=>by rw[lu,h2 x,hp.mem_iff];simp
theorem AY {s:List Int}:∀ {l:List (List Int)} {k:Nat},k<=l.length->(∀ j<k,cmpL (at' l (j:Int)) s<0)->(k<l.length->¬ cmpL (at' l (k:Int)) s<0)->j8 l s=if k<l.length/\at' l (k:Int)=s then l else l.take k++[s]++l.drop k
 | [],k,hk,_,_=>by
  have:k=0:=by simpa using hk
  subst this;simp[j8]
 | x::l,0,_,_,h=>by
  have h1:=h (by simp);simp only[fw,List.getD_cons_zero] at h1 ⊢;simp only[j8,if_neg h1,List.length_cons,Nat.zero_lt_succ,true_and,List.take_zero,List.drop_zero,List.nil_append,List.singleton_append]
 | x::l,k+1,hk,hl,h=>by
  have h1:=hl 0 (by omega);simp only[fw,List.getD_cons_zero] at h1;have:=AY (s:=s) (l:=l) (k:=k) (by simpa using hk) (fun j hj=>by have:=hl (j+1) (by omega);rw[fw] at this ⊢;simpa using this) (fun hj=>by have:=h (by simpa using hj);rw[fw] at this ⊢;simpa using this);simp only[j8,if_pos h1,this,fw,List.getD_cons_succ,List.length_cons,Nat.succ_lt_succ_iff,List.take_succ_cons,List.drop_succ_cons,List.cons_append]
  split<;>rfl
theorem wY {s:List Int}:∀ {l:List (List Int)},(j8 l s).length<=l.length+1
 | []=>by simp[j8]
 | y::l=>by
  have:=wY (s:=s) (l:=l);simp only[j8]
  repeat' split
  all_goals simp<;>omega
def fV (l:List Match) (i:Nat):List (List Int):=((l.take i).map fun m=>lu m.nodes).foldl j8 []
theorem lG {l:List Match} {i:Nat} (h:i<l.length):fV l (i+1)=j8 (fV l i) (lu (at' l (i:Int)).nodes):=by
 rw[fV,<- List.take_append_getElem h,List.map_append,List.foldl_append,cG h];rfl
theorem nQ (l:List Match):∀ i,i<=l.length->(fV l i).length<=i
 | 0,_=>by simp[fV]
 | i+1,h=>by
  rw[lG (by omega)];have:=nQ l i (by omega);have:=wY (s:=lu (at' l (i:Int)).nodes) (l:=fV l i);omega
theorem nV {l:List Match} (hn:∀ m ∈ l,m.nodes.length<=1048576):∀ i,i<=l.length->∀ r ∈ fV l i,r.length<=1048576
 | 0,_,r,hr=>by simp[fV] at hr
 | i+1,h,r,hr=>by
  rw[lG (by omega)] at hr;rcases og.1 hr with hr | rfl
  ·exact nV hn i (by omega) r hr
  ·have:=(jA (at' l (i:Int)).nodes [] (by simp)).2.2;have h2:=hn _ (show at' l (i:Int) ∈ l by rw[cG (by omega)];exact List.getElem_mem _);rw[lu];simp at this;omega
theorem wN {l:List Match} (hn:∀ m ∈ l,m.nodes.Nodup):fV l l.length=xN l:=by
 rw[fV,List.take_length,xN,List.map_congr_left fun m hm=>xm (hn m hm)];exact (BK _ _ (jG _) (tL _)).symm
theorem all_none {sig:dE} {I ar:aD} (h:(a7 sig I ar).2=false):(a7 sig I ar).1=[]:=by
 rw[a7] at h ⊢
 split at h
 ·rename_i h1
  rw[if_pos h1];rw[uk] at h ⊢
  split at h
  ·cases h
  ·rename_i h2;rw[if_neg h2]
 ·rename_i h1;rw[if_neg h1]
theorem sK (sig:List Control) (I ar:aD) (h:ja sig I ar):gl sig I ar (fun y=>y=eR sig I ar):=by
 unfold gl;have hl:=vM sig I ar;have hn:=fun m hm=>(kl h (m:=m) hm).1
 have hd:=fun m hm=>(kl h (m:=m) hm).2
 simp only[forall_eq,decide_eq_true_eq,decide_eq_false_iff_not,dF];have hC:eR sig I ar=(fV (a7 sig I ar).1 (a7 sig I ar).1.length,(a7 sig I ar).2):=by
  rw[eR,cH,wN hd];cases h2:(a7 sig I ar).2 with
  | true=>rfl
  | false=>rw[all_none h2];simp[xN,nB,dQ]
 rw[hC];refine⟨h,?_⟩;generalize (a7 sig I ar).1=l at hl hn hd;generalize (a7 sig I ar).2=ok;refine aG.sE l.length (fun i out=>out=fV l i) [] rfl ?_;rintro i _ K hi rfl IH;refine⟨fun h1=>?_,fun h1=>by rw[show i=l.length by omega]⟩;have hi2:i<l.length:=by omega
 have hm:=hn _ (show at' l (i:Int) ∈ l by rw[cG hi2];exact List.getElem_mem hi2);have hsl:=nQ l i (by omega);have hsr:=nV hn i (by omega);have hsucc:=lG hi2;generalize at' l (i:Int)=m at hm hsucc;refine aG.upR m.nodes.length (fun j t=>t=(m.nodes.take j).foldl jf []) [] rfl ?_;rintro j _ K2 hj rfl IH2;have hlen:=(jA (m.nodes.take j) [] (by simp)).2.2;simp only[List.length_nil,List.length_take,Nat.zero_add] at hlen;refine⟨⟨by omega,by omega⟩,fun h2=>⟨⟨by omega,by omega⟩,⟨by omega,by omega⟩,by simp only[kg];omega,by simp only[bp];omega,IH2 (by omega) _ ?_⟩,fun h2=>?_⟩
 ·rw[<- List.take_append_getElem (show j<m.nodes.length by omega),List.foldl_append,cG (by omega)];rfl
 have hjl:j=m.nodes.length:=by omega
 subst hjl;rw[List.take_length] at hlen ⊢;have hset:m.nodes.foldl jf []=lu m.nodes:=rfl;rw[hset] at hlen ⊢;generalize lu m.nodes=s at hlen hsucc;generalize fV l i=out at hsl hsr hsucc IH;refine aG.wM out.length (fun k=>∀ j<k,cmpL (at' out (j:Int)) s<0) (by simp) ?_;rintro k K3 hk hI IH3;have hrow:k<out.length->(at' out (k:Int)).length<=1048576:=fun hk2=>hsr _ (by rw[cG hk2];exact List.getElem_mem hk2)
 simp only[bp];refine⟨fun c=>c=decide (k<out.length/\cmpL (at' out (k:Int)) s<0),⟨fun h3=>⟨by omega,⟨hrow (by omega),by omega⟩,by simp[lR,show k<out.length by omega]⟩,fun h3=>by simp[show ¬ k<out.length by omega]⟩,?_⟩;rintro _ rfl;simp only[decide_eq_true_eq,decide_eq_false_iff_not];refine⟨fun h3=>⟨by omega,IH3 h3.1 fun j hj=>?_⟩,fun h3=>?_⟩
 ·rcases Nat.lt_or_ge j k with h4 | h4
  ·exact hI j h4
  ·rw[show j=k by omega];exact h3.2
 ·have hp:=AY hk hI (fun h4 h5=>h3 ⟨h4,h5⟩);refine⟨fun c=>c=decide (¬ (k<out.length/\at' out (k:Int)=s)),⟨fun h4=>by simp[show ¬ k<out.length by omega],fun h4=>⟨by omega,⟨hrow (by omega),by omega⟩,by simp[rZ,show k<out.length by omega]⟩⟩,?_⟩;rintro _ rfl;simp only[decide_eq_true_eq,decide_eq_false_iff_not];refine⟨fun h4=>?_,fun h4=>⟨by omega,IH (by omega) _ ?_⟩⟩
  ·refine⟨⟨by omega,by omega,by omega⟩,by simp;omega,by simp;omega,⟨by omega,by omega,by omega⟩,by simp;omega,by omega,IH (by omega) _ ?_⟩;rw[hsucc,hp,if_neg h4];simp
  ·rw[hsucc,hp,if_pos (Classical.not_not.1 h4)]
abbrev ia (a b:List (List Int)):Bool:=decide (a=b)
abbrev eV (a _:List (List Int)):Prop:=a.length<=1048576/\∀ r ∈ a,r.length<=1048576
def kT (a:List (List Int)) (b:List (List Int)) (Z:Bool->Prop):Prop:=
 ∀ cq:Int,cq=(a.length:Int)->∀ xb:Int,xb=(b.length:Int)->∀ c6:Bool,c6=decide (cq ≠ xb)->((c6=true->Z false)/\(c6=false->aG (σ:=Int) (fun i10 K13=>∀ len14:Int,len14=(a.length:Int)->∀ c16:Bool,c16=decide (i10<len14)->((c16=true->(0<=i10/\i10<a.length)/\∀ x19:List Int,x19=at' a i10->(0<=i10/\i10<b.length)/\∀ x22:List Int,x22=at' b i10->(x19.length<=1048576)/\∀ r25:Bool,r25=decide (x19=x22)->((r25=true->(bp (i10+1))/\∀ v28:Int,v28=i10+1->K13 (v28))/\(r25=false->Z false)))/\(c16=false->Z true))) (0)))
theorem zO (a b:List (List Int)) (h:eV a b):kT a b (fun y=>y=ia a b):=by
 unfold kT;obtain⟨h1,h2⟩:=h;simp only[forall_eq,decide_eq_true_eq,decide_eq_false_iff_not,ia];refine⟨fun h3=>(decide_eq_false (fun e=>h3 (by rw[e]))).symm,fun h3=>?_⟩;refine aG.wM a.length (fun k=>∀ j<k,at' a (j:Int)=at' b (j:Int)) (by simp) ?_;rintro k K hk hI IH;simp only[bp];refine⟨fun h4=>⟨⟨by omega,by omega⟩,⟨by omega,by omega⟩,by rw[cG (by omega)];exact h2 _ (List.getElem_mem _),fun h5=>⟨by omega,IH (by omega) fun j hj=>?_⟩,fun h5=>(decide_eq_false (fun e=>h5 (by rw[e]))).symm⟩,fun h4=>?_⟩
 ·rcases Nat.lt_or_ge j k with h6 | h6
  ·exact hI j h6
  ·rw[show j=k by omega];exact h5
 ·exact (decide_eq_true (C2 (by omega) fun j hj=>hI j (by omega))).symm
def b6:List (List Int)->Int->List (List Int) × Int
 | [],k=>([],k)
 | r::l,k=>((bG r k).1::(b6 l (bG r k).2).1,(b6 l (bG r k).2).2)
abbrev dC (a:List (List Int)) (k_:Int):=b6 a k_
def fH:List (List Int)->Nat
 | []=>0
 | r::l=>r.length+fH l
abbrev eI (a:List (List Int)) (k_:Int):Prop:=0<=k_/\a.length<=1048576/\(∀ r ∈ a,r.length<=1048576)/\k_+fH a<=1152921504606846976
def ib (a:List (List Int)) (k_:Int) (Z:((List (List Int)) × Int)->Prop):Prop:=
 aG (σ:=Int × Int × (List (List Int))) (fun (k10,i11,l12) K15=>∀ len16:Int,len16=(l12.length:Int)->∀ c18:Bool,c18=decide (i11<len16)->((c18=true->(0<=i11/\i11<l12.length)/\∀ x21:List Int,x21=at' l12 i11->(fG x21 k10)/\∀ r39:(List Int) × Int,r39=bG x21 k10->∀ l45:List (List Int),l45=l12.set i11.toNat r39.1->(bp (i11+1))/\∀ v49:Int,v49=i11+1->K15 (r39.2,v49,l45))/\(c18=false->Z (l12,k10)))) (k_,0,a)
theorem Be (l:List (List Int)):∀ i,i<l.length->fH (l.take i)+(at' l (i:Int)).length<=fH l:=by
 induction l with
 | nil=>intro i h;simp at h
 | cons r l ih=>
  intro i h;cases i with
  | zero=>rw[fw];simp[fH]
  | succ i=>
   have:=ih i (by simpa using h);rw[fw] at this ⊢;simp only[List.take_succ_cons,fH,List.getD_cons_succ] at this ⊢;omega
theorem mO (r:List Int) (k:Int):(bG r k).2=k+r.length:=by simp[bG,j9]
theorem kC:∀ (l:List (List Int)) (k:Int),(b6 l k).2=k+fH l
 | [],k=>by simp[b6,fH]
 | r::l,k=>by rw[b6];simp only;rw[kC l,mO,fH];omega
theorem lh:∀ (l:List (List Int)) (k:Int),(b6 l k).1.length=l.length
 | [],_=>rfl
 | r::l,k=>by rw[b6];simp[lh l]
theorem nn:∀ (l m:List (List Int)) (k:Int),(b6 (l++m) k).1=(b6 l k).1++(b6 m (b6 l k).2).1
 | [],m,k=>by simp[b6]
 | r::l,m,k=>by simp only[List.cons_append,b6];rw[nn l]
theorem vN (l:List (List Int)) (k:Int) (h:eI l k):ib l k (fun y=>y=dC l k):=by
 unfold ib;obtain⟨h1,h2,h3,h4⟩:=h;refine aG.up l.length (fun s=>s.2.1) (fun i t=>(k+fH (l.take i),(i:Int),t)) (fun _ _=>rfl) (fun i out=>out=(b6 (l.take i) k).1++l.drop i) l (by simp[fH]) (by simp[b6]) ?_;rintro i out K hk rfl IH;have hl:((b6 (l.take i) k).1++l.drop i).length=l.length:=by simp[lh];omega
 simp only[forall_eq,decide_eq_true_eq,decide_eq_false_iff_not,bp,Int.toNat_natCast,hl];refine⟨fun h5=>?_,fun h5=>?_⟩
 ·have hi:i<l.length:=by omega
  have hd:l.drop i=at' l (i:Int)::l.drop (i+1):=by rw[cG hi];exact List.drop_eq_getElem_cons hi
  have hmi:(b6 (l.take i) k).1.length=i:=by rw[lh];simp;omega
  have ha:at' ((b6 (l.take i) k).1++l.drop i) (i:Int)=at' l (i:Int):=by
   rw[cG (by rw[hl];exact hi),List.getElem_append_right (by omega)];simp[hmi,cG hi]
  have hs:=Be l i hi;have hr:=h3 _ (show at' l (i:Int) ∈ l by rw[cG hi];exact List.getElem_mem hi);rw[ha];refine⟨by omega,⟨by omega,by omega,by omega⟩,by omega,?_⟩;have:=IH hi _ rfl;rw[mO];have e1:fH (l.take (i+1))=fH (l.take i)+(at' l (i:Int)).length:=by
   have:∀ (l:List (List Int)) (i:Nat),i<l.length->fH (l.take (i+1))=fH (l.take i)+(at' l (i:Int)).length:=by
    intro l
    induction l with
    | nil=>intro i h;simp at h
    | cons r l ih=>
     intro i h;cases i with
     | zero=>rw[fw];simp[fH]
     | succ i=>
      have:=ih i (by simpa using h);rw[fw] at this ⊢;rw[List.take_succ_cons,List.take_succ_cons,fH,fH,this];simp only[List.getD_cons_succ];omega
   exact this l i hi
  have e2:(b6 (l.take (i+1)) k).1++l.drop (i+1)=((b6 (l.take i) k).1++l.drop i).set i (bG (at' l (i:Int)) (k+fH (l.take i))).1:=by
   rw[<- List.take_append_getElem hi,nn,hd,List.set_append_right _ _ (by omega),hmi,Nat.sub_self,List.set_cons_zero,kC,<- cG hi];simp[b6]
  rw[e1,e2] at this;simpa[Int.add_assoc] using this
 ·have hi:i=l.length:=by omega
  subst hi;simp only[List.take_length,List.drop_length,List.append_nil];rw[<- kC]
def ml:List (List Int)->Int->Int
 | [],k=>k
 | r::l,k=>if dB r k<0 then -1 else ml l (dB r k)
abbrev kb (a:List (List Int)) (k_:Int):Int:=ml a k_
abbrev eH (a:List (List Int)) (k_:Int):Prop:=eI a k_
def gV (a:List (List Int)) (k_:Int) (Z:Int->Prop):Prop:=
 aG (σ:=Int × Int) (fun (k5,i6) K9=>∀ gT:Int,gT=(a.length:Int)->∀ c12:Bool,c12=decide (i6<gT)->((c12=true->(0<=i6/\i6<a.length)/\∀ x15:List Int,x15=at' a i6->(ks x15 k5)/\∀ r18:Int,r18=dB x15 k5->∀ c19:Bool,c19=decide (r18<0)->((c19=true->Z (-1))/\(c19=false->(bp (i6+1))/\∀ v22:Int,v22=i6+1->K9 (r18,v22))))/\(c12=false->Z k5))) (k_,0)
theorem DV (r:List Int) (k:Int):dB r k=k+r.length\/dB r k = -1:=by
 unfold dB
 split
 ·left;simp
 ·right;rfl
theorem pY:∀ (l:List (List Int)) (k:Int),0<=k->ml (b6 l k).1 k=(b6 l k).2
 | [],k,_=>rfl
 | r::l,k,h=>by
  simp only[b6,ml,BX];rw[if_neg (by rw[mO];omega)];exact pY l _ (by rw[mO];omega)
theorem Cy (l:List (List Int)):∀ i,i<l.length->fH (l.drop i)=(at' l (i:Int)).length+fH (l.drop (i+1)):=by
 intro i hi;rw[List.drop_eq_getElem_cons hi,fH,cG hi]
theorem vB (l:List (List Int)) (k:Int) (h:eH l k):gV l k (fun y=>y=kb l k):=by
 unfold gV;obtain⟨h1,h2,h3,h4⟩:=h;refine aG.up (τ:=Int) l.length (fun s=>s.2) (fun i t=>(t,(i:Int))) (fun _ _=>rfl) (fun i t=>0<=t/\t+fH (l.drop i)<=1152921504606846976/\ml (l.drop i) t=ml l k) k rfl ⟨h1,by simpa using h4,by simp⟩ ?_;rintro i t K hk ⟨t1,t2,t3⟩ IH;simp only[forall_eq,decide_eq_true_eq,decide_eq_false_iff_not,bp];refine⟨fun h5=>?_,fun h5=>?_⟩
 ·have hi:i<l.length:=by omega
  have hs:=Cy l i hi;have hr:=h3 _ (show at' l (i:Int) ∈ l by rw[cG hi];exact List.getElem_mem hi);have hd:l.drop i=at' l (i:Int)::l.drop (i+1):=by rw[cG hi];exact List.drop_eq_getElem_cons hi
  rw[hd,ml] at t3;refine⟨by omega,⟨by omega,by omega,by omega⟩,fun h6=>?_,fun h6=>⟨by omega,?_⟩⟩
  ·rw[if_pos h6] at t3;exact t3
  ·rw[if_neg h6] at t3;have:=IH hi (dB (at' l (i:Int)) t) ⟨by omega,by rcases DV (at' l (i:Int)) t with h7 | h7<;>omega,t3⟩;simpa using this
 ·have hi:i=l.length:=by omega
  subst hi;simpa[ml] using t3
abbrev A3 (_:dE) (_ _:aD):Bool:=true
abbrev p9 (sig:dE) (r a:aD):Prop:=AF sig/\kn r/\kn a
def kH (di:List Control) (bx:aD) (bz:aD) (Z:Bool->Prop):Prop:=
 (((0:Int)<=1048576/\(1048576:Int)<=1048576)/\AF di)/\∀ r6:Int,r6=fi nS di 1048576->∀ c7:Bool,c7=decide (r6<0)->((c7=true->Z true)/\(c7=false->(((0:Int)<=r6/\(r6:Int)<=1048576)/\kn bx)/\∀ r10:Int,r10=tv bx r6->∀ c11:Bool,c11=decide (r10<0)->((c11=true->Z true)/\(c11=false->(((0:Int)<=r10/\(r10:Int)<=1048576)/\kn bz)/\∀ r14:Int,r14=tv bz r10->∀ c16:Bool,c16=decide (r14<0)->((c16=true->Z true)/\(c16=false->(cY di)/\∀ r19:List Control,r19=eT di->(bW bx)/\∀ r21:aD,r21=cr bx->(bW bz)/\∀ r23:aD,r23=cr bz->(ja r19 r21 r23)/\∀ r25:(List (List Int)) × Bool,r25=eR r19 r21 r23->(cY di)/\∀ r27:List Control,r27=eT di->(bW bx)/\∀ r38:aD,r38=cr bx->(bW bz)/\∀ r69:aD,r69=cr bz->(ga r27 r38 r69)/\∀ r104:(List (List Int)) × Bool,r104=cH r27 r38 r69->cE (fun (J127:Bool->Prop)=>(eV r104.1 r25.1)/\∀ r282:Bool,r282=ia r104.1 r25.1->((r282=true->∀ c283:Bool,c283 = !(r104.2 == r25.2)->J127 (c283))/\(r282=false->J127 (true)))) (fun b130=>((b130=true->Z false)/\(b130=false->(cY di)/\∀ r144:List Control,r144=eT di->(r27.length<=1048576)/\∀ r153:Bool,r153=decide (r27=r144)->((r153=true->(bW bx)/\∀ r166:aD,r166=cr bx->(EqB r38)/\∀ r168:Bool,r168=decide (r38=r166)->((r168=true->(bW bz)/\∀ r170:aD,r170=cr bz->(EqB r69)/\∀ r172:Bool,r172=decide (r69=r170)->((r172=true->(fU r27 1)/\∀ r174:(List Control) × Int,r174=dH r27 1->(gC r38 r174.2)/\∀ r192:aD × Int,r192=dX r38 r174.2->(gC r69 r192.2)/\∀ r211:aD × Int,r211=dX r69 r192.2->cE (fun (J225:Bool->Prop)=>∀ c275:Bool,c275=decide (r211.2<0)->((c275=true->J225 (true))/\(c275=false->(eV r104.1 r25.1)/\∀ r278:Bool,r278=ia r104.1 r25.1->((r278=true->∀ c279:Bool,c279 = !(r104.2 == r25.2)->J225 (c279))/\(r278=false->J225 (true)))))) (fun b228=>((b228=true->Z false)/\(b228=false->(eI r104.1 1)/\∀ r233:(List (List Int)) × Int,r233=dC r104.1 1->(eH r233.1 1)/\∀ r243:Int,r243=kb r233.1 1->∀ c244:Bool,c244=decide (r243<0)->((c244=true->Z false)/\(c244=false->∀ c246:Bool,c246=decide (r243 ≠ r233.2)->((c246=true->Z false)/\(c246=false->(cY di)/\∀ r249:List Control,r249=eT di->(bW bx)/\∀ r251:aD,r251=cr bx->(bW bz)/\∀ r253:aD,r253=cr bz->(ga r249 r251 r253)/\∀ r255:(List (List Int)) × Bool,r255=cH r249 r251 r253->cE (fun (J258:Bool->Prop)=>(eV r255.1 r25.1)/\∀ r272:Bool,r272=ia r255.1 r25.1->((r272=true->∀ c273:Bool,c273 = !(r255.2 == r25.2)->J258 (c273))/\(r272=false->J258 (true)))) (fun b261=>((b261=true->Z false)/\(b261=false->(eH r233.1 1)/\∀ r266:Int,r266=kb r233.1 1->∀ c267:Bool,c267=decide (r266<0)->((c267=true->Z false)/\(c267=false->∀ c269:Bool,c269=decide (r266 ≠ r233.2)->((c269=true->Z false)/\(c269=false->Z true)))))))))))))))/\(r172=false->Z false)))/\(r168=false->Z false)))/\(r153=false->Z false)))))))))))
theorem AP {c:Nat}:∀ {l:List (List Int)},(∀ r ∈ l,r.length<=c)->fH l<=l.length * c
 | [],_=>by simp[fH]
 | r::l,h=>by
  have h1:=h r (by simp);have h2:=AP (l:=l) fun r hr=>h r (by simp[hr])
  simp only[fH,List.length_cons,Nat.succ_mul];omega
theorem re {c:Nat}:∀ {l:List (List Int)} {k:Int},(∀ r ∈ l,r.length<=c)->∀ r ∈ (b6 l k).1,r.length<=c
 | [],_,_,r,hr=>by simp[b6] at hr
 | x::l,k,h,r,hr=>by
  simp only[b6,List.mem_cons] at hr;rcases hr with rfl | hr
  ·rw[show (bG x k).1.length=x.length from rf _ _ _ _];exact h x (by simp)
  ·exact re (fun r hr=>h r (by simp[hr])) r hr
theorem rH:∀ (l:List (List Int)) (k:Int),fH (b6 l k).1=fH l
 | [],_=>rfl
 | x::l,k=>by
  simp only[b6,fH,rH l];rw[show (bG x k).1.length=x.length from rf _ _ _ _]
theorem BF {sig:dE} {I ar:aD} (h:ch sig I ar):(cH sig I ar).1.length<=400/\∀ r ∈ (cH sig I ar).1,r.length<=1048576:=by
 have hl:=vM sig I ar;rw[cH]
 split
 ·rw[<- wN fun m hm=>(kl h hm).2];have:=nQ (a7 sig I ar).1 _ (Nat.le_refl _);exact⟨by simp only;omega,nV (fun m hm=>(kl h hm).1) _ (Nat.le_refl _)⟩
 ·exact⟨by simp,fun r hr=>by simp at hr⟩
theorem zG (sig:dE) (r a:aD) (h:p9 sig r a):kH sig r a (fun y=>y=A3 sig r a):=by
 unfold kH;simp only[forall_eq,decide_eq_true_eq,decide_eq_false_iff_not,eT,cr,eR];obtain⟨h1,h2,h3⟩:=h;refine⟨⟨by omega,h1⟩,fun _=>trivial,fun s1=>?_⟩;have l1:=jW nS sig 1048576 (by omega);refine⟨⟨by omega,h2⟩,fun _=>trivial,fun s2=>?_⟩;have l2:=Du r (fi nS sig 1048576) (by omega);refine⟨⟨by omega,h3⟩,fun _=>trivial,fun s3=>?_⟩;obtain⟨a1,a2,a3⟩:=argsB s1 s2 s3 h2 h3;obtain⟨hL,hA⟩:=BF (sig:=sig) (I:=r) (ar:=a) ⟨a2,a3⟩;generalize cH sig r a=an at hA hL;have hsum:=AP hA;have hE:eV an.1 an.1:=⟨by omega,hA⟩
 have hP:eI an.1 1:=⟨by omega,by omega,hA,by omega⟩
 have hL2:=lh an.1 1;have hsum2:=rH an.1 1;have hQ:eH (dC an.1 1).1 1:=⟨by omega,by rw[dC,hL2];omega,re hA,by rw[dC,hsum2];omega⟩
 have E:kb (dC an.1 1).1 1=(dC an.1 1).2:=pY an.1 1 (by omega);have hM:0<=(dC an.1 1).2:=by rw[dC,kC];omega
 have k1:(dH sig 1).2=1+3 * sig.length:=rfl;obtain⟨m1,m2⟩:=FJ (Ft a2) (dH sig 1).2 (by omega) (by omega);obtain⟨m3,m4⟩:=FJ (Ft a3) (dX r (dH sig 1).2).2 (by omega) (by omega);refine⟨a1,x8 a2,x8 a3,⟨a2,a3⟩,a1,x8 a2,x8 a3,⟨a2,a3⟩,fun c=>c=false,⟨hE,fun _=>by simp,fun h=>absurd (by simp[ia]) h⟩,?_⟩;rintro _ rfl;refine⟨fun h=>(by cases h),fun _=>⟨a1,a1,fun _=>⟨x8 a2,Ft a2,fun _=>⟨x8 a3,Ft a3,fun _=>⟨⟨by omega,by omega,by omega⟩,m1,m3,fun c=>c=false,⟨fun h=>by omega,fun _=>⟨hE,fun _=>by simp,fun h=>absurd (by simp[ia]) h⟩⟩,?_⟩,fun h=>absurd trivial h⟩,fun h=>absurd trivial h⟩,fun h=>absurd trivial h⟩⟩;rintro _ rfl;refine⟨fun h=>(by cases h),fun _=>⟨hP,hQ,fun h=>by omega,fun _=>⟨fun h=>absurd E h,fun _=>⟨a1,x8 a2,x8 a3,⟨a2,a3⟩,fun c=>c=false,⟨hE,fun _=>by simp,fun h=>absurd (by simp[ia]) h⟩,?_⟩⟩⟩⟩;rintro _ rfl;exact⟨fun h=>(by cases h),fun _=>⟨hQ,fun h=>by omega,fun _=>⟨fun h=>absurd E h,fun _=>trivial⟩⟩⟩
end Go.Ab.Vg
namespace Go.Ab.Vg
open Go.Proofs
set_option maxRecDepth 100000
attribute [local simp] aA.cells aQ.cells ay aI bm bC pA
theorem e132:aW prog 132:=aW.of func132 (by kernel_rfl) rfl
theorem wO (b:aD) (parent:Int) (Z:(List Int)->Prop) (h:mw b parent Z):br prog 132 [.agg (bC false b),int parent] (.s [.c]) (fun r=>∃ y:List Int,Z y/\r = .list true (y.map ay)):=by
 unfold mw at h;have M:Sep bA 0 [] []:=Sep.nil (by simp);refine br.of func132 rfl ntmps132 (by simp) fun Q hQ=>?_
 refine J.cut (fun O H n=>(O 0 = .agg (bC false b)/\O 1=int parent)/\Sep H n [] []) (by refine⟨by simp ,M⟩) ?_;rintro O H U ⟨E,M⟩;refine zE fun _ V=>?_
 simp[E];apply V;refine J.cut (fun O H n=>((O 1=int parent/\O 2=pA U 2)/\H (U,2)=some ⟨6,[bC false b]⟩)/\Sep H n [] [(U,2)]) (by refine⟨by simp[E],M.var⟩) ?_;clear E;rintro O H n3 ⟨⟨E,a⟩,M⟩;refine zE fun _ V=>?_
 simp[E,a];apply V;refine J.cut (fun O H n=>∃ (v5:au),((O 1=int parent/\O 2=pA U 2/\O 5=v5)/\H (U,2)=some ⟨6,[bC false b]⟩)/\Sep H n [oI v5 ([]:List Int)] [(U,2)]) (by refine⟨.arr (n3,7) 0 0 0,by simp[E,a],(Sep.addEmpty (l:=[.c]) M)⟩) ?_;clear E a;rintro O H n6 ⟨v5,⟨E,a⟩,M⟩;refine zS fun _ V=>?_
 simp[E,a];apply V;apply J.block;refine J.aG h (fun (sJ:Int × (List Int)) O H n=>match sJ with | (i14,g)=>∃ (i:au),((O 1=int parent/\O 2=pA U 2/\O 5=i/\O 6=int i14)/\H (U,2)=some ⟨6,[bC false b]⟩)/\Sep H n [oI i g] [(U,2)]) (by refine⟨v5,by simp[E,a],M⟩) ?_;clear E a;rintro⟨i14,g⟩ O H n17 K h ⟨i,⟨E,a⟩,M⟩ o;refine zS fun _ V=>?_
 obtain⟨Y,q,h⟩:=aC h;have f21:=fun H=>aE (H:=H) (fr:=false) (f:=(aA.cells false)) bK q
 obtain⟨t,u,h⟩:=aC h;have f23:=aY (k:=.i64) u;simp[E,a,f21,f23,-ax,-aP];apply V;refine J.ite (b:=t) (by simp[E,a]) (fun d=>?_) (fun d=>?_)
 ·replace h:=h.1 d;apply zK;apply J.block;refine zE fun _ V=>?_
  obtain⟨A,h⟩:=h;obtain⟨ab,B,h⟩:=aC h;have f26:=fun H=>aL (H:=H) (fr:=false) (f:=(aA.cells false)) (k:=.i64) bK (fun _=>rfl) A B
  obtain⟨C,D,h⟩:=aC h;have f28:=cA (k:=.i64) D;simp[E,a,f26,f28,d,-aw,-ax];apply V;refine J.ite (b:=C) (by simp[E,a,d]) (fun e=>?_) (fun e=>?_)
  ·replace h:=h.1 e;refine zF fun _ V=>?_
   obtain⟨F,h⟩:=h;obtain⟨j,G,h⟩:=aC h;simp[E,a,d,e,-bq];refine cv [] [] [[int i14]] [ay i14] M aR (by simp) (by simp) (by simp) (by simp[-aT,cx]) (cM (aV.v _ aV.nil)) (by simp) (by simpa using F) ?_;rintro v31 L n33 M N ac;replace M:Sep L n33 [oI v31 j] [(U,2)]:=Sep.ap G M;have a:=(N _ (by simp)).trans a;simp[E,a,d,e];apply V;refine J.cut (fun O H n=>∃ (v37:au),((O 1=int parent/\O 2=pA U 2/\O 5=v37/\O 6=int i14)/\H (U,2)=some ⟨6,[bC false b]⟩)/\Sep H n [oI v37 j] [(U,2)]) (by refine⟨v31,by simp[E,a,d,e],M⟩) ?_;clear E a;rintro O H n38 ⟨v37,⟨E,a⟩,M⟩;refine zI fun _ V=>?_
   obtain⟨R,h⟩:=h;obtain⟨v40,T,h⟩:=aC h;have f41:=aU R T;simp[E,a,f41,-ax];apply V;refine o (v40,j) _ _ _ h (by refine⟨v37,by simp[E,a],M⟩)
  replace h:=h.2 e;apply J.skip;refine zI fun _ V=>?_
  obtain⟨W,h⟩:=h;obtain⟨p,X,h⟩:=aC h;have f44:=aU W X;simp[E,a,f44,d,e,-ax];apply V;refine J.cut (fun O H n=>∃ (v45:au),((O 1=int parent/\O 2=pA U 2/\O 5=v45/\O 6=int p)/\H (U,2)=some ⟨6,[bC false b]⟩)/\Sep H n [oI v45 g] [(U,2)]) (by refine⟨i,by simp[E,a,f44,d,e,-ax],M⟩) ?_;clear E a;rintro O H n46 ⟨v45,⟨E,a⟩,M⟩;refine o (p,g) _ _ _ h (by refine⟨v45,by simp[E,a],M⟩)
 replace h:=h.2 d;refine J.exit rfl ?_;refine zE fun _ V=>?_
 simp[E,a,d];apply V;exact J.bg (v:=i) func132 results132 (by simp[E,a,d]) (hQ _ _ _ _ (Sep.sub (dD:=[]) M (by simp)) ⟨g,h,rfl⟩)
theorem pH (b:aD) (parent:Int) (hp:dn b parent):br prog 132 [.agg (bC false b),int parent] (.s [.c]) (fun r=>r = .list true ((kR b parent).map ay)):=(wO b parent _ (Cg b parent hp)).mono (by rintro _ ⟨_,rfl,rfl⟩;rfl)
theorem e133:aW prog 133:=aW.of func133 (by kernel_rfl) rfl
theorem vz (b:aD) (parent:Int) (Z:(List Int)->Prop) (h:kY b parent Z):br prog 133 [.agg (bC false b),int parent] (.s [.c]) (fun r=>∃ y:List Int,Z y/\r = .list true (y.map ay)):=by
 unfold kY at h;have M:Sep bA 0 [] []:=Sep.nil (by simp);refine br.of func133 rfl ntmps133 (by simp) fun Q hQ=>?_
 refine J.cut (fun O H n=>(O 0 = .agg (bC false b)/\O 1=int parent)/\Sep H n [] []) (by refine⟨by simp ,M⟩) ?_;rintro O H U ⟨E,M⟩;refine zE fun _ V=>?_
 simp[E];apply V;refine J.cut (fun O H n=>((O 1=int parent/\O 2=pA U 2)/\H (U,2)=some ⟨6,[bC false b]⟩)/\Sep H n [] [(U,2)]) (by refine⟨by simp[E],M.var⟩) ?_;clear E;rintro O H n3 ⟨⟨E,a⟩,M⟩;refine zE fun _ V=>?_
 simp[E,a];apply V;refine J.cut (fun O H n=>∃ (v5:au),((O 1=int parent/\O 2=pA U 2/\O 5=v5)/\H (U,2)=some ⟨6,[bC false b]⟩)/\Sep H n [oI v5 ([]:List Int)] [(U,2)]) (by refine⟨.arr (n3,7) 0 0 0,by simp[E,a],(Sep.addEmpty (l:=[.c]) M)⟩) ?_;clear E a;rintro O H n6 ⟨v5,⟨E,a⟩,M⟩;refine zS fun _ V=>?_
 simp[E,a];apply V;apply J.block;refine J.aG h (fun (sJ:Int × (List Int)) O H n=>match sJ with | (i14,g)=>∃ (i:au),((O 1=int parent/\O 2=pA U 2/\O 5=i/\O 6=int i14)/\H (U,2)=some ⟨6,[bC false b]⟩)/\Sep H n [oI i g] [(U,2)]) (by refine⟨v5,by simp[E,a],M⟩) ?_;clear E a;rintro⟨i14,g⟩ O H n17 K h ⟨i,⟨E,a⟩,M⟩ o;refine zS fun _ V=>?_
 obtain⟨Y,q,h⟩:=aC h;have f21:=fun H=>aE (H:=H) (fr:=false) (f:=ay) aR q
 obtain⟨t,u,h⟩:=aC h;have f23:=aY (k:=.i64) u;simp[E,a,f21,f23,-ax,-aP];apply V;refine J.ite (b:=t) (by simp[E,a]) (fun d=>?_) (fun d=>?_)
 ·replace h:=h.1 d;apply zK;apply J.block;refine zE fun _ V=>?_
  obtain⟨A,h⟩:=h;obtain⟨ab,B,h⟩:=aC h;have f26:=fun H=>aL (H:=H) (fr:=false) (f:=ay) (k:=.i64) aR (fun _=>rfl) A B
  obtain⟨C,D,h⟩:=aC h;have f28:=cA (k:=.i64) D;simp[E,a,f26,f28,d,-aw,-ax];apply V;refine J.ite (b:=C) (by simp[E,a,d]) (fun e=>?_) (fun e=>?_)
  ·replace h:=h.1 e;refine zF fun _ V=>?_
   obtain⟨F,h⟩:=h;obtain⟨j,G,h⟩:=aC h;simp[E,a,d,e,-bq];refine cv [] [] [[int i14]] [ay i14] M aR (by simp) (by simp) (by simp) (by simp[-aT,cx]) (cM (aV.v _ aV.nil)) (by simp) (by simpa using F) ?_;rintro v31 L n33 M N ac;replace M:Sep L n33 [oI v31 j] [(U,2)]:=Sep.ap G M;have a:=(N _ (by simp)).trans a;simp[E,a,d,e];apply V;refine J.cut (fun O H n=>∃ (v37:au),((O 1=int parent/\O 2=pA U 2/\O 5=v37/\O 6=int i14)/\H (U,2)=some ⟨6,[bC false b]⟩)/\Sep H n [oI v37 j] [(U,2)]) (by refine⟨v31,by simp[E,a,d,e],M⟩) ?_;clear E a;rintro O H n38 ⟨v37,⟨E,a⟩,M⟩;refine zI fun _ V=>?_
   obtain⟨R,h⟩:=h;obtain⟨v40,T,h⟩:=aC h;have f41:=aU R T;simp[E,a,f41,-ax];apply V;refine o (v40,j) _ _ _ h (by refine⟨v37,by simp[E,a],M⟩)
  replace h:=h.2 e;apply J.skip;refine zI fun _ V=>?_
  obtain⟨W,h⟩:=h;obtain⟨p,X,h⟩:=aC h;have f44:=aU W X;simp[E,a,f44,d,e,-ax];apply V;refine J.cut (fun O H n=>∃ (v45:au),((O 1=int parent/\O 2=pA U 2/\O 5=v45/\O 6=int p)/\H (U,2)=some ⟨6,[bC false b]⟩)/\Sep H n [oI v45 g] [(U,2)]) (by refine⟨i,by simp[E,a,f44,d,e,-ax],M⟩) ?_;clear E a;rintro O H n46 ⟨v45,⟨E,a⟩,M⟩;refine o (p,g) _ _ _ h (by refine⟨v45,by simp[E,a],M⟩)
 replace h:=h.2 d;refine J.exit rfl ?_;refine zE fun _ V=>?_
 simp[E,a,d];apply V;exact J.bg (v:=i) func133 results133 (by simp[E,a,d]) (hQ _ _ _ _ (Sep.sub (dD:=[]) M (by simp)) ⟨g,h,rfl⟩)
theorem nD (b:aD) (parent:Int) (hp:ee b parent):br prog 133 [.agg (bC false b),int parent] (.s [.c]) (fun r=>r = .list true ((k8 b parent).map ay)):=(vz b parent _ (yn b parent hp)).mono (by rintro _ ⟨_,rfl,rfl⟩;rfl)
theorem CJ:aW prog 110:=aW.of func110 (by kernel_rfl) rfl
theorem qq (b:aD) (parent:Int) (Z:((List Int) × (List Int))->Prop) (h:fZ b parent Z):br prog 110 [.agg (bC false b),int parent] (.t [.s [.c],.s [.c]]) (fun r=>∃ y:(List Int) × (List Int),Z y/\r = .tup [.list true (y.1.map ay),.list true (y.2.map ay)]):=by
 unfold fZ at h;have M:Sep bA 0 [] []:=Sep.nil (by simp);refine br.of func110 rfl ntmps110 (by simp) fun Q hQ=>?_
 refine J.cut (fun O H n=>(O 0 = .agg (bC false b)/\O 1=int parent)/\Sep H n [] []) (by refine⟨by simp ,M⟩) ?_;rintro O H U ⟨E,M⟩;refine zE fun _ V=>?_
 simp[E];apply V;refine J.cut (fun O H n=>((O 1=int parent/\O 2=pA U 2)/\H (U,2)=some ⟨6,[bC false b]⟩)/\Sep H n [] [(U,2)]) (by refine⟨by simp[E],M.var⟩) ?_;clear E;rintro O H n3 ⟨⟨E,a⟩,M⟩;refine zE fun _ V=>?_
 simp[E,a];apply V;refine J.cut (fun O H n=>∃ (v6 v7:au),((O 1=int parent/\O 2=pA U 2/\O 6=v7/\O 7=v6)/\H (U,2)=some ⟨6,[bC false b]⟩)/\Sep H n [oI v6 ([]:List Int),oI v7 ([]:List Int)] [(U,2)]) (by refine⟨.arr (n3+1,13) 0 0 0,.arr (n3,12) 0 0 0,by simp[E,a],(Sep.addEmpty (l:=[.c]) (Sep.addEmpty (l:=[.c]) M))⟩) ?_;clear E a;rintro O H n8 ⟨v6,v7,⟨E,a⟩,M⟩;refine zS fun _ V=>?_
 obtain⟨iJ,elen9,h⟩:=aC h;have f10:=fun H=>aE (H:=H) (fr:=false) (f:=(aA.cells false)) bK elen9
 simp[E,a,f10,-aP];apply V;apply J.block;refine J.aG h (fun (sJ:Int × (List Int)) O H n=>match sJ with | (v20,g)=>∃ (v22 v23:au),((O 1=int parent/\O 2=pA U 2/\O 6=v23/\O 7=v22/\O 15 = .list false (b.nodes.map (aA.cells false))/\O 16=int iJ/\O 17=int v20)/\H (U,2)=some ⟨6,[bC false b]⟩)/\Sep H n [oI v22 ([]:List Int),oI v23 g] [(U,2)]) (by refine⟨v6,v7,by simp[E,a],M⟩) ?_;clear E a;rintro⟨v20,g⟩ O H n24 K h ⟨v22,v23,⟨E,a⟩,M⟩ N;refine zE fun _ V=>?_
 obtain⟨X,Y,h⟩:=aC h;have f28:=aY (k:=.i64) Y;simp[E,a,f28,-ax];apply V;apply J.seq;refine J.ite (b:=X) (by simp[E,a]) (fun p=>?_) (fun p=>?_)
 ·replace h:=h.1 p;apply zK;apply J.block;refine zE fun _ V=>?_
  obtain⟨ab,h⟩:=h;obtain⟨F,ac,h⟩:=aC h;have f31:=fun H=>aL (H:=H) (fr:=false) (f:=(aA.cells false)) (k:=.i64) bK (fun _=>rfl) ab ac
  simp[E,a,f31,p,-aw];apply V;refine J.cut (fun O H n=>∃ (v33 u:au),((O 1=int parent/\O 2=pA U 2/\O 6=u/\O 7=v33/\O 8=int v20/\O 9=pA n24 9/\O 15 = .list false (b.nodes.map (aA.cells false))/\O 16=int iJ/\O 17=int v20)/\H (U,2)=some ⟨6,[bC false b]⟩/\H (n24,9)=some ⟨3,[[int F.control,int F.parent,.list false (F.links.map ay)]]⟩)/\Sep H n [oI v33 ([]:List Int),oI u g] [(n24,9),(U,2)]) (by refine⟨v22,v23,by simp[E,a,f31,p,-aw],M.var⟩) ?_;clear E a;rintro O H n35 ⟨v33,u,⟨E,a,e⟩,M⟩;refine zE fun _ V=>?_
  obtain⟨ad,af,h⟩:=aC h;have f37:=cA (k:=.i64) af;simp[E,a,e,f37,-ax];apply V;refine J.ite (b:=ad) (by simp[E,a,e]) (fun i=>?_) (fun i=>?_)
  ·replace h:=h.1 i;refine zF fun _ V=>?_
   obtain⟨am,h⟩:=h;obtain⟨G,ao,h⟩:=aC h;simp[E,a,e,i,-bq];refine cv [] [oI v33 ([]:List Int)] [[int v20]] [ay v20] M.f1 aR (by simp) (by simp) (by simp) (by simp[-aT,cx]) (cM (aV.v _ aV.nil)) (by simp) (by simpa using am) ?_;rintro v40 av n42 M R cc;replace M:Sep av n42 [oI v40 G,oI v33 ([]:List Int)] [(n24,9),(U,2)]:=Sep.ap ao M;have a:=(R _ (by simp)).trans a;have e:=(R _ (by simp)).trans e;simp[E,a,e,i];apply V;refine J.cut (fun O H n=>∃ (v46 A:au),((O 1=int parent/\O 2=pA U 2/\O 6=v46/\O 7=A/\O 15 = .list false (b.nodes.map (aA.cells false))/\O 16=int iJ/\O 17=int v20)/\H (U,2)=some ⟨6,[bC false b]⟩)/\Sep H n [oI v46 G,oI A ([]:List Int)] [(U,2)]) (by refine⟨v40,v33,by simp[E,a,e,i],(Sep.sub M (by simp +contextual))⟩) ?_;clear E a e;rintro O H n48 ⟨v46,A,⟨E,a⟩,M⟩;refine zI fun _ V=>?_
   obtain⟨a0,h⟩:=h;obtain⟨v50,a1,h⟩:=aC h;have f51:=aU a0 a1;simp[E,a,f51,-ax];apply V;refine N (v50,G) _ _ _ h (by refine⟨A,v46,by simp[E,a],M.f1⟩)
  replace h:=h.2 i;apply J.skip;refine zI fun _ V=>?_
  obtain⟨a2,h⟩:=h;obtain⟨v53,a3,h⟩:=aC h;have f54:=aU a2 a3;simp[E,a,e,f54,i,-ax];apply V;refine N (v53,g) _ _ _ h (by refine⟨v33,u,by simp[E,a,e,i],(Sep.sub M (by simp +contextual))⟩)
 replace h:=h.2 p;refine J.exit rfl ?_;refine zS fun _ V=>?_
 obtain⟨T,a4,h⟩:=aC h;have f56:=fun H=>aE (H:=H) (fr:=false) (f:=ay) aR a4
 simp[E,a,f56,p,-aP];apply V;apply J.block;refine J.aG h (fun (sJ:Int × (List Int)) O H n=>match sJ with | (v66,B)=>∃ (q j:au),(O 1=int parent/\O 6=j/\O 7=q/\O 32 = .list false (b.sites.map ay)/\O 33=int T/\O 34=int v66)/\Sep H n [oI q B,oI j g] []) (by refine⟨v22,v23,by simp[E,a,p],(Sep.sub M (by simp +contextual))⟩) ?_;clear E a;rintro⟨v66,B⟩ O H ce K h ⟨q,j,E,M⟩ W;refine zE fun _ V=>?_
 obtain⟨a5,a9,h⟩:=aC h;have f74:=aY (k:=.i64) a9;simp[E,f74,-ax];apply V;apply J.seq;refine J.ite (b:=a5) (by simp[E]) (fun d=>?_) (fun d=>?_)
 ·replace h:=h.1 d;apply zK;apply J.block;refine zE fun _ V=>?_
  obtain⟨bd,h⟩:=h;obtain⟨ci,be,h⟩:=aC h;have f77:=fun H=>aL (H:=H) (fr:=false) (f:=ay) (k:=.i64) aR (fun _=>rfl) bd be
  simp[E,f77,d,-aw];apply V;refine zE fun _ V=>?_
  obtain⟨bi,bk,h⟩:=aC h;have f79:=cA (k:=.i64) bk;simp[E,f79,d,-ax];apply V;refine J.ite (b:=bi) (by simp[E,d]) (fun o=>?_) (fun o=>?_)
  ·replace h:=h.1 o;refine zF fun _ V=>?_
   obtain⟨bs,h⟩:=h;obtain⟨L,bv,h⟩:=aC h;simp[E,d,o,-bq];refine cv [] [oI j g] [[int v66]] [ay v66] M aR (by simp) (by simp) (by simp) (by simp[-aT,cx]) (cM (aV.v _ aV.nil)) (by simp) (by simpa using bs) ?_;rintro v82 b0 b1 M cj ck;replace M:Sep b0 b1 [oI v82 L,oI j g] []:=Sep.ap bv M;simp[E,d,o];apply V;refine J.cut (fun O H n=>∃ (C D:au),(O 1=int parent/\O 6=D/\O 7=C/\O 32 = .list false (b.sites.map ay)/\O 33=int T/\O 34=int v66)/\Sep H n [oI C L,oI D g] []) (by refine⟨v82,j,by simp[E,d,o],M⟩) ?_;clear E;rintro O H cl ⟨C,D,E,M⟩;refine zI fun _ V=>?_
   obtain⟨b2,h⟩:=h;obtain⟨b3,b5,h⟩:=aC h;have f93:=aU b2 b5;simp[E,f93,-ax];apply V;refine W (b3,L) _ _ _ h (by refine⟨C,D,by simp[E],M⟩)
  replace h:=h.2 o;apply J.skip;refine zI fun _ V=>?_
  obtain⟨b7,h⟩:=h;obtain⟨b8,b9,h⟩:=aC h;have f96:=aU b7 b9;simp[E,f96,d,o,-ax];apply V;refine W (b8,B) _ _ _ h (by refine⟨q,j,by simp[E,d,o],M⟩)
 replace h:=h.2 d;refine J.exit rfl ?_;refine zE fun _ V=>?_
 simp[E,d];apply V;exact J.j5 (v:=j) (w:=q) func110 results110 (by simp[E,d]) (by simp[E,d]) (hQ _ _ _ _ (Sep.sub (dD:=[]) (Sep.jC (aV.own (aV.own aV.nil)) M.f1) (by simp)) ⟨(g,B),h,rfl⟩)
theorem dU (b:aD) (parent:Int) (hp:bH b parent):br prog 110 [.agg (bC false b),int parent] (.t [.s [.c],.s [.c]]) (fun r=>r = .tup [.list true (((dJ b parent).1).map ay),.list true (((dJ b parent).2).map ay)]):=(qq b parent _ (tc b parent hp)).mono (by rintro _ ⟨_,rfl,rfl⟩;rfl)
end Go.Ab.Vg
