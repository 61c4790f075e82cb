/- Merged texts (11 of 16) of the proof that ends in Kyy: Rp Rb Md Mk Mn Mu Yb Co Mp Em Sg Na Nc Nd Ne Kr Ks Eq. -/
import Derived.Test.YtkgmflihalaheaaGreatDoorAbQky10
open Go.Proofs.Tryz
set_option linter.unusedSectionVars false
set_option linter.unusedSimpArgs false
set_option linter.unusedVariables false
namespace Go.Proofs.YtkgmflihalaheaaGreatDoor
open Go.ChangeShapes Go.WideShapes Go.ChangeAt Go.RowKit Go.Ab
set_option maxRecDepth 100000
theorem own:ownKnob Tryz.prog.godebug=none:=by kernel_rfl
theorem laidOut:laidOutB prog=true:=by kernel_rfl
theorem yF:Tryz.prog.underlying 4=some .bool:=Tryz.underlying4
end Go.Proofs.YtkgmflihalaheaaGreatDoor
namespace Go.Proofs.YtkgmflihalaheaaGreatDoor
open Go.ChangeShapes Go.WideShapes Go.ChangeAt Go.RowKit Go.Ab
set_option maxRecDepth 100000
theorem CF:Reader prog 50 Control.cells (fun x=>x.name.length<=9223372036854775807):=by
 have h:=Reader.struct Tryz.underlying50 (n:=3) (by kernel_rfl) (b9.cons (n:=1) rfl (by kernel_rfl) (Reader.str Tryz.underlying9) (b9.cons (n:=1) rfl (by kernel_rfl) (Reader.int Tryz.underlying3) (b9.cons (n:=1) rfl (by kernel_rfl) (Reader.int Tryz.underlying3) (b9.nil 3))));exact h.map (fun p=>⟨p.1,p.2.1,p.2.2.1⟩) (fun p=>rfl) (fun p hp=>hp.1)
theorem rWire:Reader prog 82 aN.cells (fun x=>x.name.length<=9223372036854775807):=by
 have h:=Reader.struct Tryz.underlying82 (n:=2) (by kernel_rfl) (b9.cons (n:=1) rfl (by kernel_rfl) (Reader.str Tryz.underlying9) (b9.cons (n:=1) rfl (by kernel_rfl) (Reader.int Tryz.underlying3) (b9.nil 2)));exact h.map (fun p=>⟨p.1,p.2.1⟩) (fun p=>rfl) (fun p hp=>hp.1)
theorem El:Reader prog 24 (fun l:List Int=>[Ab.encI false l]) (fun l=>l.length<=9223372036854775807/\∀ p ∈ l,bu p):=
 Reader.slice Tryz.underlying24 (of_decide_eq_true (by kernel_rfl)) (Reader.int Tryz.underlying3)
theorem rStrs:Reader prog 25 (fun l:List bc=>[Ab.encS false l]) (fun l=>l.length<=9223372036854775807/\∀ s ∈ l,s.length<=9223372036854775807):=
 Reader.slice Tryz.underlying25 (of_decide_eq_true (by kernel_rfl)) (Reader.str Tryz.underlying9)
theorem rGNode:Reader prog 79 (ay.cells false) (fun x=>x.links.length<=9223372036854775807/\bu x.parent):=by
 have h:=Reader.struct Tryz.underlying79 (n:=3) (by kernel_rfl) (b9.cons (n:=1) rfl (by kernel_rfl) (Reader.int Tryz.underlying3) (b9.cons (n:=1) rfl (by kernel_rfl) (Reader.int Tryz.underlying3) (b9.cons (n:=1) rfl (by kernel_rfl) El (b9.nil 3))));exact h.map (fun p=>⟨p.1,p.2.1,p.2.2.1⟩) (fun p=>rfl) (fun p hp=>⟨hp.2.2.1.1,hp.2.1⟩)
theorem rNodes:Reader prog 23 (fun l:List ay=>[Ab.bB false l]) (fun l=>l.length<=9223372036854775807/\∀ x ∈ l,x.links.length<=9223372036854775807/\bu x.parent):=
 Reader.slice Tryz.underlying23 (of_decide_eq_true (by kernel_rfl)) rGNode
theorem rWires:Reader prog 26 (fun l:List aN=>[Ab.bH false l]) (fun l=>l.length<=9223372036854775807/\∀ x ∈ l,x.name.length<=9223372036854775807):=
 Reader.slice Tryz.underlying26 (of_decide_eq_true (by kernel_rfl)) rWire
theorem rSig:th prog 22 (bt false) xK:=by
 refine th.cell (w9 Tryz.underlying22) ?_;have h:=Reader.slice Tryz.underlying22 (of_decide_eq_true (by kernel_rfl)) CF;exact h.map (fun p=>p) (fun p=>rfl) (fun p hp=>⟨hp.1,hp.2⟩)
theorem rBigF:Reader prog 28 (aG.cells false) og:=by
 have h:=Reader.struct Tryz.underlying28 (n:=6) (by kernel_rfl) (b9.cons (n:=1) rfl (by kernel_rfl) (Reader.int Tryz.underlying3) (b9.cons (n:=1) rfl (by kernel_rfl) rNodes (b9.cons (n:=1) rfl (by kernel_rfl) El
  (b9.cons (n:=1) rfl (by kernel_rfl) (Reader.int Tryz.underlying3) (b9.cons (n:=1) rfl (by kernel_rfl) rStrs (b9.cons (n:=1) rfl (by kernel_rfl) rWires (b9.nil 6)))))))
 exact h.map (e':=aG.cells false) (ok':=og) (fun p=>⟨p.1,p.2.1,p.2.2.1,p.2.2.2.1,p.2.2.2.2.1,p.2.2.2.2.2.1⟩) (fun p=>rfl) (fun p hp=>by
  obtain⟨_,h1,h2,_,h3,h4,_⟩:=hp;exact⟨h1.1,fun x hx=>(h1.2 x hx).1,h2.1,h3.1,h3.2,h4.1,h4.2,fun x hx=>(h1.2 x hx).2,h2.2⟩)
theorem rBig:th prog 28 (cG false) og:=th.struct Tryz.underlying28 rBigF
end Go.Proofs.YtkgmflihalaheaaGreatDoor
namespace Go.Ab.Vg
abbrev EqB (x:aG):Prop:=x.nodes.length<=1048576/\(∀ z ∈ x.nodes,z.links.length<=1048576)/\x.sites.length<=1048576/\x.outer.length<=1048576/\x.inner.length<=1048576
theorem eqOf {sig:cV} {b:aG} (h:gx sig b):EqB b:=⟨h.nodesLen,h.linksLen,h.sitesLen,h.outerLen,h.innerLen⟩
theorem toOf {sig:cV} {b:aG} (h:gx sig b):dF b:=⟨⟨h.nodesLen,h.linksLen⟩,h.sitesLen,h.outerLen,h.innerLen⟩
end Go.Ab.Vg
namespace Go.Ab.Vg
def rootsB (bU bO:aG) (nodes:List Int):List Int:=(List.range bU.roots.toNat).map fun r:Nat=>(at' bO.nodes (at' nodes (at' (il bU (-1 - (r:Int))) 0))).parent
def canB (bU bO:aG) (nodes:List Int) (x:Int):Bool:=
 decide ((at' bO.nodes x).control=(at' bU.nodes (nodes.length:Int)).control) && !oX nodes x && (decide ((at' bU.nodes (nodes.length:Int)).parent<0) || decide ((at' bO.nodes x).parent=at' nodes (at' bU.nodes (nodes.length:Int)).parent))
noncomputable def allM (bU bO:aG) (rs:List Int->List Int) (can:List Int->Int->Bool):Nat->List Int->List Match
 | 0,nodes=>if matchB bU bO ⟨nodes,rs nodes⟩ then [⟨nodes,rs nodes⟩] else []
 | k+1,nodes=>(List.range bO.nodes.length).flatMap fun x:Nat=>if can nodes (x:Int) then allM bU bO rs can k (nodes++[(x:Int)]) else []
end Go.Ab.Vg
namespace Go.Ab.Vg
noncomputable abbrev restM (bU bO:aG) (nodes:List Int):List Match:=allM bU bO (rootsB bU bO) (canB bU bO) (bU.nodes.length - nodes.length) nodes
noncomputable abbrev Cp (bU bO:aG):List Match:=restM bU bO []
end Go.Ab.Vg
namespace Go.Ab.Vg
def mayB (zone:Int) (bO:aG) (m:Match) (x:Int):Bool:=if zone=2 then !(wO bO m.nodes x) else if zone=3 then wO bO m.nodes x && !(oX m.nodes x) else true
noncomputable def holdsB (g:Guard) (bO:aG) (m:Match):Bool:=((Cp g.pattern bO).any fun o=>o.nodes.all (mayB g.zone bO m)) != g.neg
noncomputable abbrev holds (g:Guard) (bO:aG) (m:Match):Bool:=holdsB g bO m
end Go.Ab.Vg
namespace Go.Ab
open Go.Proofs
end Go.Ab
namespace Go.Ab.Vg
end Go.Ab.Vg
namespace Go.Ab.Vg
end Go.Ab.Vg
namespace Go.Ab.Vg
abbrev iR (l:List bc):Prop:=l.length<=1048576
abbrev wx (l:List bc):List bc:=l
def kh (s:List bc) (Z:(List bc)->Prop):Prop:=
 ∀ c2:Bool,(c2=true->s=[])->((c2=true->Z [])/\(c2=false->(([]:List bc).length+s.length<=1073741824)/\∀ l7:List bc,l7=([]:List bc)++s->Z l7))
theorem Ag (l:List bc) (h:iR l):kh l (fun y=>y=wx l):=by
 unfold kh;intro c hc;refine⟨fun h1=>(hc h1).symm,fun _=>⟨by simp;omega,?_⟩⟩;rintro _ rfl;simp
end Go.Ab.Vg
namespace Go.Ab
open Go.Proofs Go.RowKit
def runeS (n:Int):bc:=(Utf8.encode n).data.toList
section
variable {P:Program} {f:FuncId} {N:Nat} {k:List Item} {Q:I->Heap->Nat->Prop} {Ty:Types} {l:List Oper} {O:Env} {H:Heap} {n:Nat} {d:Option Tmp} {ty:TypeId} {pos:String} {af:Array Edge} {gu:Option (Nat × Bool)}
end
end Go.Ab
namespace Go.Ab.Vg
def zName (k:Nat):bc:=122::runeS (97+k)
def xN (outer:List bc) (k:Nat):List bc:=((List.range k).map zName).filter fun s=>decide (s ∉ outer)
end Go.Ab.Vg
namespace Go.Ab.Vg
def pY (l:List Int) (s:Int):Int:=if s ∈ l then (l.idxOf s:Int) else -1
def eh (p:Int->Bool) (n:Nat):List Int:=((List.range n).map fun i:Nat=>(i:Int)).filter p
def ek (p:Int->Bool) (n:Nat):Int:=((eh p n).length:Int)
section
variable (p:Int->Bool)
theorem nq {n:Nat} (h:p n=true):eh p (n+1)=eh p n++[(n:Int)]:=by simp[eh,List.range_succ,h]
theorem qA {n:Nat} (h:p n=false):eh p (n+1)=eh p n:=by simp[eh,List.range_succ,h]
theorem mA {n:Nat} (h:p n=true):ek p (n+1)=ek p n+1:=by rw[ek,nq p h,ek];simp
theorem sq {n:Nat} (h:p n=false):ek p (n+1)=ek p n:=by rw[ek,qA p h,ek]
theorem rm {n:Nat} {x:Int}:x ∈ eh p n↔(0<=x/\x<n)/\p x=true:=by
 simp only[eh,List.mem_filter,List.mem_map,List.mem_range];exact⟨fun ⟨⟨i,h1,h2⟩,h3⟩=>⟨by omega,h3⟩,fun ⟨h1,h2⟩=>⟨⟨x.toNat,by omega,by omega⟩,h2⟩⟩
theorem nC (n:Nat):(eh p n).length<=n:=by
 have:=List.length_filter_le p ((List.range n).map fun i:Nat=>(i:Int));simpa[eh] using this
theorem De (n:Nat):0<=ek p n/\ek p n<=n:=by
 have:=nC p n;rw[ek];omega
theorem xt {n:Nat} {x:Int} (h:x ∈ eh p n):pY (eh p n) x=ek p x.toNat:=by
 induction n with
 | zero=>simp[eh] at h
 | succ n ih=>
  cases hp:p n
  ·rw[qA p hp] at h ⊢;exact ih h
  ·rw[nq p hp] at h ⊢
   by_cases hm:x ∈ eh p n
   ·rw[<- ih hm,pY,pY,if_pos h,if_pos hm,List.idxOf_append,if_pos hm]
   ·have hx:x=n:=by simpa[hm] using h
    subst hx;rw[pY,if_pos h,List.idxOf_append,if_neg hm];simp[ek]
theorem uH {p q:Int->Bool} {n:Nat} (h:∀ x:Int,0<=x->x<n->p x=q x):eh p n=eh q n:=by
 refine List.filter_congr fun x hx=>?_
 simp only[List.mem_map,List.mem_range] at hx;obtain⟨i,h1,rfl⟩:=hx;exact h _ (by omega) (by omega)
theorem zw {m n:Nat} (h:m<=n):ek p m<=ek p n:=by
 induction n with
 | zero=>rw[show m=0 by omega];exact Int.le_refl _
 | succ n ih=>
  rcases Nat.lt_or_ge m (n+1) with h1 | h1
  ·refine Int.le_trans (ih (by omega)) ?_;cases hp:p n
   ·rw[sq p hp];exact Int.le_refl _
   ·rw[mA p hp];omega
  ·rw[show m=n+1 by omega];exact Int.le_refl _
end
end Go.Ab.Vg
namespace Go.Ab.Vg
theorem zy {α:Type} (f:Nat->α) (n k:Nat) (v:α):((List.range n).map f).set k v=(List.range n).map fun i=>if i=k then v else f i:=by
 refine List.ext_getElem (by simp) fun i h1 h2=>?_
 simp only[List.getElem_set,List.getElem_map,List.getElem_range]
 by_cases h:k=i
 ·simp[h]
 ·simp[h,Ne.symm h]
end Go.Ab.Vg
namespace Go.Ab.Vg
end Go.Ab.Vg
namespace Go.Ab.Vg
structure gU where
 edges:List Int
 places:List Int
instance:Inhabited gU:=⟨⟨[],[]⟩⟩
abbrev qC (b:aG):List Int × gU:=((aS b).order,⟨(aS b).s.es,(aS b).s.pl⟩)
abbrev tq (b:aG):Prop:=∃ sig,bo sig b
theorem tp {b:aG} (he:lC b) (hd:eH b):mr b ≠ []:=j9 (by simpa using (lU he hd b.nodes.length (Nat.le_refl _)).2)
theorem BE {b:aG} (he:lC b) (hd:eH b):∃ a ∈ bQ b b.nodes.length,aS b=cS b a:=by
 have hne:=tp he hd;obtain⟨f1,_⟩:=nt (mr b) (at' (mr b) 0);have hm:aS b ∈ mr b:=by
  rcases f1 with f1 | f1
  ·rw[aS,f1];exact at_mem ⟨by omega,by have:=List.length_pos_iff.2 hne;omega⟩
  ·exact f1
 obtain⟨a,ha,e⟩:=List.mem_map.1 (kR hm);exact⟨a,ha,e.symm⟩
theorem w4 {sig:cV} {b:aG} (hv:bo sig b):((aS b).code,(aS b).order)=dx b b.nodes.length (gY b):=
 (ve hv.even hv.q8 (fun p hp=>(hv.sites p hp).2) (by rw[mr,xO]) _ (at_mem ⟨by omega,by have:=List.length_pos_iff.2 (tp hv.even hv.q8);omega⟩)).1
abbrev oR (b:aG):List Int:=(aS b).order
abbrev jl (b:aG):Prop:=∃ sig,bo sig b
def iL (b:aG) (Z:(List Int)->Prop):Prop:=
 ∀ ld:Int,ld=(b.nodes.length:Int)->(fR ld)/\∀ r7:List Int,r7=gr ld->(fR b.edges)/\∀ r9:List Int,r9=gr b.edges->(fV b r7 r9 0)/\∀ r11:(List Int) × (List Int),r11=jb b r7 r9 0->Z r11.2
theorem pe {sig:cV} {b:aG} (hv:bo sig b):et b (gr b.nodes.length) (gr b.edges) 0 (gY b):=by
 refine⟨by simpa using w6,Ex b,⟨hv.edges,by simp[gY],by simp[gY]⟩,by simp[gY,gr],?_,by omega⟩;simp only[gY,gr,cg,List.not_mem_nil,if_false];rw[List.map_const',List.length_range]
theorem vW (b:aG) (h:jl b):iL b (fun y=>y=oR b):=by
 unfold iL;obtain⟨sig,hv⟩:=h;have hn:=hv.len;have he:=hv.edges;have e:=lN (pe hv);rw[show b.nodes.length - (0:Int).toNat=b.nodes.length by simp,<- w4 hv] at e;simp only[forall_eq];exact⟨⟨by omega,by omega⟩,⟨by omega,by omega⟩,⟨⟨sig,hv⟩,_,pe hv⟩,by rw[e]⟩
end Go.Ab.Vg
namespace Go.Ab.Vg
theorem oU (b:aG) (o t:List Int):∀ i≤o.length,qE b (o++t) i=qE b o i
 | 0,_=>rfl
 | i+1,h=>by
  have e:at' (o++t) (i:Int)=at' o (i:Int):=by rw[bm (show i<(o++t).length by simp;omega),bm (show i<o.length by omega),List.getElem_append_left]
  simp only[qE,oU b o t i (by omega),e]
structure AttC (b:aG) (m:Nat) (a:fA):Prop where
 s:a.s=(qE b a.order m).2
 nd:a.order.Nodup
 rng:∀ k ∈ a.order,0<=k/\k<b.nodes.length
 pos:∀ i:Nat,i<m->at' a.s.pl (at' a.order (i:Int))=i
theorem BP {sig:cV} {b:aG} (hv:bo sig b) {m:Nat} (hm:m<=8) {a x:fA} (h:tO b m a) (hc:AttC b m a) (hx:x ∈ fj b a):AttC b (m+1) x:=by
 simp only[fj,List.mem_map] at hx;obtain⟨k,hk,rfl⟩:=hx;have hr:=(ct.1 hk).1;have hf:at' a.s.pl k<0:=by
  have:=(ct.1 hk).2;simp only[cY,Bool.and_eq_true,decide_eq_true_eq] at this;exact this.1
 have hkm:k ∉ a.order:=fun hm2=>by have:=(h.mem k hr).1 hm2;omega
 have hkl:0<=k/\k<a.s.pl.length:=by rw[h.s.pl];exact hr
 have hn:=h.s.num;have e0:at' (a.order++[k]) (m:Int)=k:=by rw[bm (by simp[h.ord]),List.getElem_append_right (by simp[h.ord])];simp[h.ord]
 refine⟨?_,?_,fun j hj=>?_,fun i hi=>?_⟩
 ·simp only[qE];rw[oU b _ _ m (by rw[h.ord];omega),<- hc.s,e0]
 ·simp only;rw[List.nodup_append];exact⟨hc.nd,by simp,fun x hx c hc2=>by simp only[List.mem_singleton] at hc2;subst hc2;exact fun e=>hkm (e ▸ hx)⟩
 ·rcases List.mem_append.1 hj with hj | hj
  ·exact hc.rng j hj
  ·simp only[List.mem_singleton] at hj;subst hj;exact hr
 ·simp only[bA]
  by_cases he:i=m
  ·subst he;rw[e0,gL hr.1 hkl,if_pos rfl,hn]
  ·have hi2:i<m:=by omega
   have e1:at' (a.order++[k]) (i:Int)=at' a.order (i:Int):=by rw[bm (by simp[h.ord];omega),bm (by rw[h.ord];omega),List.getElem_append_left]
   have hmem:at' a.order (i:Int) ∈ a.order:=at_mem (by rw[h.ord];omega);rw[e1,gL (hc.rng _ hmem).1 hkl,if_neg (fun e=>hkm (by rw[<- e];exact hmem))];exact hc.pos i hi2
theorem Cx {sig:cV} {b:aG} (hv:bo sig b):∀ m≤b.nodes.length,∀ a ∈ bQ b m,AttC b m a
 | 0,_,a,ha=>by
  rw[List.mem_singleton.1 ha];exact⟨rfl,by simp,by simp,fun i hi=>by omega⟩
 | m+1,hm,a,ha=>by
  have hn:=hv.len;obtain⟨x,hx,h2⟩:=List.mem_flatMap.1 (kR ha);exact BP hv (by omega) (lG hv m (by omega) x hx) (Cx hv m (by omega) x hx) h2
structure Bq (b:aG):Prop where
 len:(aS b).order.length=b.nodes.length
 nd:(aS b).order.Nodup
 rng:∀ k ∈ (aS b).order,0<=k/\k<b.nodes.length
 pl:(aS b).s.pl.length=b.nodes.length
 pos:∀ i:Nat,i<b.nodes.length->at' (aS b).s.pl (at' (aS b).order (i:Int))=i
 es:kT b (aS b).s.es
 code:(kP b (aS b).order).2=cg b (aS b).s.es
theorem D2 {sig:cV} {b:aG} (hv:bo sig b):Bq b:=by
 obtain⟨a,ha,e⟩:=BE hv.even hv.q8;have h1:=lG hv _ (Nat.le_refl _) a ha;have h2:=Cx hv _ (Nat.le_refl _) a ha;obtain⟨e1,e2,e3⟩:=C4 hv h2.rng a.order.length (Nat.le_refl _);obtain⟨t1,t2⟩:=dS (b.inner.map fun w=>w.link) _ e2 fun l hl=>by
  obtain⟨w,hw,rfl⟩:=List.mem_map.1 hl;exact (hv.wires w hw).1
 have hs:(qE b a.order a.order.length).2=a.s:=by rw[h1.ord];exact h2.s.symm
 rw[hs] at t2;refine⟨?_,?_,?_,?_,?_,?_,?_⟩<;>rw[e]
 ·exact h1.ord
 ·exact h2.nd
 ·exact h2.rng
 ·exact h1.s.pl
 ·exact h2.pos
 ·exact t2
 ·simp only[cS];rw[zq hv h2.rng,hs]
theorem qg {l:List Int} {n:Nat} (hn:l.Nodup) (h:∀ x ∈ l,0<=x/\x<n):l.length<=n:=by
 have:=hn.length_le_of_subset (l₂:=(List.range n).map fun i:Nat=>(i:Int)) fun x hx=>by
  have:=h x hx;exact List.mem_map.2 ⟨x.toNat,List.mem_range.2 (by omega),by omega⟩
 simpa using this
theorem Bq.mem {b:aG} (h:Bq b) {k:Int} (hk:0<=k/\k<b.nodes.length):k ∈ (aS b).order:=by
 by_cases hm:k ∈ (aS b).order
 ·exact hm
 ·have:=qg (l:=k::(aS b).order) (n:=b.nodes.length) (List.nodup_cons.2 ⟨hm,h.nd⟩) fun x hx=>by
   rcases List.mem_cons.1 hx with rfl | hx
   ·exact hk
   ·exact h.rng x hx
  have hl:=h.len;simp only[List.length_cons] at this;omega
theorem Bq.at {b:aG} (h:Bq b) {k:Int} (hk:0<=k/\k<b.nodes.length):at' (aS b).s.pl k=(((aS b).order.idxOf k:Nat):Int):=by
 have hm:=h.mem hk;have hi:=List.idxOf_lt_length_of_mem hm;have:=h.pos _ (by rw[<- h.len];exact hi)
 rwa [bm hi,List.getElem_idxOf] at this
abbrev fZ (_:Int) (_:aG) (edges:List Int):Prop:=edges.length<=1048576
abbrev fe (l:Int) (b:aG) (edges:List Int):Int:=if l >= b.edges then l else df edges l
def lK (l:Int) (v_:aG) (v_':List Int) (Z:Int->Prop):Prop:=
 ∀ c2:Bool,c2=decide (v_.edges<=l)->((c2=true->Z l)/\(c2=false->(kV v_' l)/\∀ r5:Int,r5=df v_' l->Z r5))
theorem CK (l:Int) (b:aG) (edges:List Int) (h:fZ l b edges):lK l b edges (fun y=>y=fe l b edges):=by
 unfold lK;simp only[forall_eq,decide_eq_true_eq,decide_eq_false_iff_not];exact⟨fun h1=>by rw[fe,if_pos h1],fun h1=>⟨h,by rw[fe,if_neg h1]⟩⟩
abbrev fT (p:Int) (c:gU):Prop:=p<c.places.length
abbrev fG (p:Int) (c:gU):Int:=if 0<=p then at' c.places p else p
def my (p:Int) (v_:gU) (Z:Int->Prop):Prop:=
 ∀ c2:Bool,c2=decide (0<=p)->((c2=true->(0<=p/\p<v_.places.length)/\∀ x5:Int,x5=at' v_.places p->Z x5)/\(c2=false->Z p))
theorem Bt (p:Int) (c:gU) (h:fT p c):my p c (fun y=>y=fG p c):=by
 unfold my;simp only[forall_eq,decide_eq_true_eq,decide_eq_false_iff_not];exact⟨fun h1=>⟨⟨h1,h⟩,by rw[fG,if_pos h1]⟩,fun h1=>by rw[fG,if_neg h1]⟩
theorem rh {l:List Int} {x:Int} (h:oX l x=true):x ∈ l:=ud.1 h
theorem oV {l:List Int} {x:Int} (h:oX l x=false):x ∉ l:=DD.1 h
abbrev ia (es:List Int) (n:Nat):List Int:=eh (fun l => !decide (l ∈ es)) n
def nc (b:aG):List Int:=(aS b).s.es++ia (aS b).s.es b.edges.toNat
def fM (b:aG) (k:Int):ay:=⟨(at' b.nodes k).control,fG (at' b.nodes k).parent (qC b).2,(at' b.nodes k).links.map fun l=>fe l b (nc b)⟩
def dZ (b:aG):aG:=⟨b.roots,(aS b).order.map (fM b),b.sites.map (fun p=>fG p (qC b).2),b.edges,b.outer,b.inner.map fun w=>⟨w.name,fe w.link b (nc b)⟩⟩
abbrev kZ (b:aG):Prop:=∃ sig,bo sig b
def j4 (b:aG) (Z:aG->Prop):Prop:=
 (tq b)/\∀ r6:(List Int) × gU,r6=qC b->(iI r6.2.edges)/\∀ r17:List Int,r17=sU r6.2.edges->aL (σ:=Int × (List Int)) (fun (v36,l37) K41=>∀ c42:Bool,c42=decide (v36<b.edges)->((c42=true->(l37.length<=1048576)/\∀ r45:Bool,r45=oX l37 v36->((r45=true->(bu (v36+1))/\∀ v61:Int,v61=v36+1->K41 (v61,l37))/\(r45=false->(l37.length+1<=1073741824)/\∀ l47:List Int,l47=l37++[v36]->(bu (v36+1))/\∀ v58:Int,v58=v36+1->K41 (v58,l47))))/\(c42=false->(iR b.outer)/\∀ r66:List bc,r66=wx b.outer->∀ len77:Int,len77=(r6.1.length:Int)->aL (σ:=Int × (List ay)) (fun (v101,l102) K110=>∀ c111:Bool,c111=decide (v101<len77)->((c111=true->(0<=v101/\v101<r6.1.length)/\∀ x114:Int,x114=at' r6.1 v101->(0<=x114/\x114<b.nodes.length)/\∀ x123:ay,x123=at' b.nodes x114->(0<=x114/\x114<b.nodes.length)/\∀ x126:ay,x126=at' b.nodes x114->(fT x123.parent r6.2)/\∀ r130:Int,r130=fG x123.parent r6.2->(0<=x114/\x114<b.nodes.length)/\∀ x144:ay,x144=at' b.nodes x114->∀ len146:Int,len146=(x144.links.length:Int)->aL (σ:=Int × (List Int)) (fun (v173,l174) K183=>∀ c184:Bool,c184=decide (v173<len146)->((c184=true->(0<=v173/\v173<x144.links.length)/\∀ x187:Int,x187=at' x144.links v173->(fZ x187 b l37)/\∀ r190:Int,r190=fe x187 b l37->(l174.length+1<=1073741824)/\∀ l192:List Int,l192=l174++[r190]->(bu (v173+1))/\∀ v208:Int,v208=v173+1->K183 (v208,l192))/\(c184=false->(l102.length+1<=1073741824)/\∀ l211:List ay,l211=l102++[(ay.mk x123.control r130 l174)]->(bu (v101+1))/\∀ v226:Int,v226=v101+1->K110 (v226,l211)))) (0,([]:List Int)))/\(c111=false->∀ len228:Int,len228=(b.sites.length:Int)->aL (σ:=Int × (List Int)) (fun (v245,l246) K254=>∀ c255:Bool,c255=decide (v245<len228)->((c255=true->(0<=v245/\v245<b.sites.length)/\∀ x258:Int,x258=at' b.sites v245->(fT x258 r6.2)/\∀ r261:Int,r261=fG x258 r6.2->(l246.length+1<=1073741824)/\∀ l263:List Int,l263=l246++[r261]->(bu (v245+1))/\∀ v278:Int,v278=v245+1->K254 (v278,l263))/\(c255=false->∀ len280:Int,len280=(b.inner.length:Int)->aL (σ:=Int × (List aN)) (fun (v297,l298) K306=>∀ c307:Bool,c307=decide (v297<len280)->((c307=true->(0<=v297/\v297<b.inner.length)/\∀ x310:aN,x310=at' b.inner v297->(fZ x310.link b l37)/\∀ r320:Int,r320=fe x310.link b l37->(l298.length+1<=1073741824)/\∀ l322:List aN,l322=l298++[(aN.mk x310.name r320)]->(bu (v297+1))/\∀ v337:Int,v337=v297+1->K306 (v337,l322))/\(c307=false->Z (aG.mk b.roots l102 l246 b.edges r66 l298)))) (0,([]:List aN))))) (0,([]:List Int))))) (0,([]:List ay))))) (0,r17)
theorem zx (b:aG) (h:kZ b):j4 b (fun y=>y=dZ b):=by
 unfold j4;obtain⟨sig,hv⟩:=h;have hc:=D2 hv;have hn:=hv.len;have he:=hv.edges;have ho:=hv.outer;have hi:=hv.inner;have hs:=hv.slen;have hel:(aS b).s.es.length<=b.edges.toNat:=qg hc.es.nd fun x hx=>by have:=hc.es.rng x hx;omega
 have hal:∀ k≤b.edges.toNat,((aS b).s.es++ia (aS b).s.es k).length<=16:=fun k hk=>by
  have:(ia (aS b).s.es k).length<=k:=nC (fun l => !decide (l ∈ (aS b).s.es)) k;simp only[List.length_append];omega
 simp only[forall_eq,decide_eq_true_eq,decide_eq_false_iff_not];refine⟨⟨sig,hv⟩,by simp only[iI];omega,?_⟩;refine aL.oz b.edges.toNat (fun k t=>t=(aS b).s.es++ia (aS b).s.es k) _ (by simp[eh,sU]) ?_;rintro k _ K hk rfl IH;dsimp only;have hak:=hal k hk;refine⟨fun hc1=>⟨by omega,fun hc2=>?_,fun hc2=>?_⟩,fun hc1=>?_⟩
 ·have hk2:k<b.edges.toNat:=by omega
  refine⟨by simp only[bu];omega,IH hk2 _ ?_⟩;have h3:(k:Int) ∈ (aS b).s.es:=by
   rcases List.mem_append.1 (rh hc2) with h3 | h3
   ·exact h3
   ·have:=(rm _).1 h3;omega
  rw[ia,ia,qA _ (by simpa using h3)]
 ·have hk2:k<b.edges.toNat:=by omega
  have h3:(k:Int) ∉ (aS b).s.es:=fun h3=>by
   exact oV hc2 (List.mem_append_left _ h3)
  refine⟨by omega,by simp only[bu];omega,IH hk2 _ ?_⟩;rw[ia,ia,nq _ (by simpa using h3),List.append_assoc]
 ·obtain rfl:k=b.edges.toNat:=by omega
  have hE:(aS b).s.es++ia (aS b).s.es b.edges.toNat=nc b:=rfl;have hal2:(nc b).length<=16:=by rw[<- hE];exact hak
  rw[hE];have hpl:=hc.pl;refine⟨by simp only[iR];omega,?_⟩;refine aL.oz (aS b).order.length (fun k t=>t=((aS b).order.take k).map (fM b)) [] (by simp) ?_;rintro k _ K2 hk2 rfl IH2;dsimp only;have hkl:(((aS b).order.take k).map (fM b)).length=k:=by simp;omega
  have hol:=hc.len;refine⟨fun hc1=>?_,fun hc1=>?_⟩
  ·have hk3:k<(aS b).order.length:=by omega
   rw[bm hk3];have hm:=List.getElem_mem hk3;have hr:=hc.rng _ hm;have hp:=hv.jK hr;have hl3:=hv.fB hr;have e0:((aS b).order.take (k+1)).map (fM b)=((aS b).order.take k).map (fM b)++[fM b (aS b).order[k]]:=by rw[List.take_succ_eq_append_getElem hk3,List.map_append];rfl
   refine⟨⟨by omega,by omega⟩,hr,hr,by simp only[fT];omega,hr,?_⟩;refine aL.oz (at' b.nodes (aS b).order[k]).links.length (fun j t=>t=((at' b.nodes (aS b).order[k]).links.take j).map fun l=>fe l b (nc b)) [] (by simp) ?_;rintro j _ K3 hj rfl IH3;dsimp only;generalize hL:(at' b.nodes (aS b).order[k]).links=L at *;refine⟨fun hc3=>?_,fun hc3=>?_⟩
   ·have hj2:j<L.length:=by omega
    rw[bm hj2];have e:=List.take_succ_eq_append_getElem hj2;refine⟨⟨by omega,by omega⟩,by simp only[fZ];omega,by simp;omega,by simp only[bu];omega,IH3 hj2 _ ?_⟩;rw[e,List.map_append];rfl
   ·refine⟨by omega,by simp only[bu];omega,IH2 hk3 _ ?_⟩;rw[e0,fM,hL,show j=L.length by omega,List.take_length]
  ·obtain rfl:k=(aS b).order.length:=by omega
   rw[List.take_length];refine aL.oz b.sites.length (fun k t=>t=(b.sites.take k).map fun p=>fG p (qC b).2) [] (by simp) ?_;rintro k _ K3 hk3 rfl IH3;dsimp only;have hsl:((b.sites.take k).map fun p=>fG p (qC b).2).length=k:=by simp;omega
   refine⟨fun hc3=>?_,fun hc3=>?_⟩
   ·have hk4:k<b.sites.length:=by omega
    rw[bm hk4];have hp:=hv.sites _ (List.getElem_mem hk4);refine⟨⟨by omega,by omega⟩,by simp only[fT];omega,by simp;omega,by simp only[bu];omega,IH3 hk4 _ ?_⟩;rw[List.take_succ_eq_append_getElem hk4,List.map_append];rfl
   ·obtain rfl:k=b.sites.length:=by omega
    rw[List.take_length];refine aL.oz b.inner.length (fun k t=>t=(b.inner.take k).map fun w=>(⟨w.name,fe w.link b (nc b)⟩:aN)) [] (by simp) ?_;rintro k _ K4 hk4 rfl IH4;dsimp only;have hwl:((b.inner.take k).map fun w=>(⟨w.name,fe w.link b (nc b)⟩:aN)).length=k:=by simp;omega
    refine⟨fun hc4=>?_,fun hc4=>?_⟩
    ·have hk5:k<b.inner.length:=by omega
     rw[bm hk5];refine⟨⟨by omega,by omega⟩,by simp only[fZ];omega,by omega,by simp only[bu];omega,IH4 hk5 _ ?_⟩;rw[List.take_succ_eq_append_getElem hk5,List.map_append];rfl
    ·obtain rfl:k=b.inner.length:=by omega
     rw[List.take_length]
     rfl
theorem pR {p:Int->Bool}:∀ {n:Nat} {m:Int},0<=m/\m<ek p n->∃ j:Nat,j<n/\p j=true/\ek p j=m
 | 0,m,h=>by simp[ek,eh] at h;omega
 | n+1,m,h=>by
  cases hp:p n
  ·rw[sq p hp] at h;obtain⟨j,h1,h2⟩:=pR h;exact⟨j,by omega,h2⟩
  ·rw[mA p hp] at h
   by_cases he:m=ek p n
   ·exact⟨n,by omega,hp,he.symm⟩
   ·obtain⟨j,h1,h2⟩:=pR (p:=p) (n:=n) (m:=m) (by omega);exact⟨j,by omega,h2⟩
abbrev iO (l:List Int) (i:Int):Bool:=decide (at' l i<0)
def mG (l:List Int) (i:Int):Int:=if at' l i<0 then fO l+ek (iO l) i.toNat else at' l i
def jN (l:List Int):List Int:=(List.range l.length).map fun i:Nat=>mG l i
structure jU (l:List Int):Prop where
 len:l.length<=8
 all:∀ v:Int,0<=v->(v ∈ l↔v<fO l)
def lf (edges:List Int) (Z:(List Int)->Prop):Prop:=
 (fg edges)/\∀ r3:List Int,r3=vA edges->aL (σ:=Int × Int × (List Int)) (fun (nextV22,i23,l24) K28=>∀ len29:Int,len29=(l24.length:Int)->∀ c31:Bool,c31=decide (i23<len29)->((c31=true->(0<=i23/\i23<l24.length)/\∀ x38:Int,x38=at' l24 i23->∀ c41:Bool,c41=decide (x38<0)->((c41=true->aL (σ:=Int) (fun nextV46 K50=>(l24.length<=1048576)/\∀ r52:Bool,r52=oX l24 nextV46->((r52=true->(bu (nextV46+1))/\∀ v54:Int,v54=nextV46+1->K50 (v54))/\(r52=false->(0<=i23/\i23<l24.length)/\∀ x61:Int,x61=at' l24 i23->∀ l64:List Int,l64=l24.set i23.toNat nextV46->(bu (i23+1))/\∀ v71:Int,v71=i23+1->K28 (nextV46,v71,l64)))) (nextV22))/\(c41=false->(bu (i23+1))/\∀ v74:Int,v74=i23+1->K28 (nextV22,v74,l24))))/\(c31=false->Z l24))) (0,0,r3)
theorem A8 (l:List Int) (h:jU l):lf l (fun y=>y=jN l):=by
 unfold lf;obtain⟨hl,ha⟩:=h;simp only[forall_eq,decide_eq_true_eq,decide_eq_false_iff_not];have hc0:0<=fO l/\fO l<=l.length:=by
  have:=List.length_filter_le (fun x:Int=>decide (0<=x)) l;rw[fO];omega
 refine⟨by simp only[fg];omega,?_⟩;refine aL.up l.length (fun s=>s.2.1) (fun k (t:Int × List Int)=>(t.1,(k:Int),t.2)) (fun _ _=>rfl) (fun k t=>(0<=t.1/\t.1<=fO l+ek (iO l) k)/\t.2=(List.range l.length).map fun j:Nat=>if j<k then mG l j else at' l j) (0,l) rfl ⟨⟨by omega,by simp[ek,eh];omega⟩,?_⟩ ?_
 ·refine List.ext_getElem (by simp) fun i h1 h2=>?_
  simp only[List.getElem_map,List.getElem_range,Nat.not_lt_zero,if_false];rw[bm h1]
 rintro k ⟨nx,out⟩ K hk ⟨⟨n0,U⟩,ho⟩ IH;dsimp only at n0 U ho ⊢;have hlen:out.length=l.length:=by rw[ho];simp
 have hcp:=De (iO l) k;refine⟨fun hc1=>?_,fun hc1=>?_⟩
 ·have hk2:k<l.length:=by omega
  have hat:at' out (k:Int)=at' l k:=by rw[bm (by omega)];simp[ho]
  refine⟨⟨by omega,by omega⟩,?_⟩;rw[hat];refine⟨fun hc2=>?_,fun hc2=>?_⟩
  ·have hmem:∀ v:Int,0<=v->(v ∈ out↔v<fO l+ek (iO l) k):=fun v hv=>by
    rw[ho,List.mem_map];refine⟨fun ⟨j,hj,e⟩=>?_,fun hlt=>?_⟩
    ·rw[List.mem_range] at hj
     by_cases h1:j<k
     ·rw[if_pos h1,mG] at e
      split at e
      ·rename_i h2
       have h3:=zw (p:=iO l) (show j+1<=k by omega);rw[mA _ (show iO l (j:Int)=true by simpa[iO] using h2)] at h3;rw[Int.toNat_natCast] at e;omega
      ·have:=(ha v hv).1 (by rw[<- e];exact at_mem (by omega));omega
     ·rw[if_neg h1] at e;have:=(ha v hv).1 (by rw[<- e];exact at_mem (by omega));omega
    ·by_cases h1:v<fO l
     ·obtain⟨j,hj,e⟩:=List.getElem_of_mem ((ha v hv).2 h1);refine⟨j,List.mem_range.2 hj,?_⟩;have e1:at' l (j:Int)=v:=by rw[bm hj,e]
      split
      ·rw[mG,e1,if_neg (by omega)]
      ·exact e1
     ·obtain⟨j,j1,j2,j3⟩:=pR (p:=iO l) (n:=k) (m:=v - fO l) ⟨by omega,by omega⟩;refine⟨j,List.mem_range.2 (by omega),?_⟩;rw[if_pos j1,mG,if_pos (by simpa[iO] using j2),Int.toNat_natCast,j3];omega
   refine aL.byM (fun nx=>0<=nx/\nx<=fO l+ek (iO l) k) (fun nx=>(fO l+ek (iO l) k - nx).toNat) ⟨n0,U⟩ ?_;rintro nx ⟨n0,U⟩;refine⟨by omega,fun hb=>?_,fun hb=>?_⟩
   ·have h2:=(hmem nx n0).1 (rh hb);exact⟨by simp only[bu];omega,⟨by omega,by omega⟩,by omega⟩
   ·have h2:¬ nx<fO l+ek (iO l) k:=fun h2=>oV hb ((hmem nx n0).2 h2)
    have h3:nx=fO l+ek (iO l) k:=by omega
    have hneg:iO l (k:Int)=true:=by simpa[iO] using hc2
    refine⟨⟨by omega,by omega⟩,by simp only[bu];omega,IH hk2 (nx,out.set (k:Int).toNat nx) ⟨⟨n0,?_⟩,?_⟩⟩
    ·rw[mA _ hneg,h3];simp only;omega
    ·simp only[ho,Int.toNat_natCast];rw[zy];refine List.map_congr_left fun i _=>?_
     by_cases h4:i=k
     ·subst h4;rw[if_pos rfl,if_pos (by omega),mG,if_pos hc2,Int.toNat_natCast,h3]
     ·rw[if_neg h4]
      by_cases h5:i<k
      ·rw[if_pos h5,if_pos (by omega)]
      ·rw[if_neg h5,if_neg (by omega)]
  ·have hneg:iO l (k:Int)=false:=by simpa[iO] using hc2
   refine⟨by simp only[bu];omega,IH hk2 (nx,out) ⟨⟨n0,by rw[sq _ hneg];exact U⟩,?_⟩⟩;simp only[ho];refine List.map_congr_left fun i _=>?_
   by_cases h4:i=k
   ·subst h4;rw[if_neg (by omega),if_pos (by omega),mG,if_neg hc2]
   ·by_cases h5:i<k
    ·rw[if_pos h5,if_pos (by omega)]
    ·rw[if_neg h5,if_neg (by omega)]
 ·rw[ho,jN];refine List.map_congr_left fun i hi=>?_
  rw[if_pos (by have:=List.mem_range.1 hi;omega)]
theorem qW {b:aG} {es:List Int} (h:kT b es):jU (cg b es):=by
 have he:=h.ed;refine⟨by simp[cg];omega,fun v hv=>?_⟩;rw[iz h];simp only[cg,List.mem_map,List.mem_range];refine⟨fun ⟨l,hl,e⟩=>?_,fun hlt=>?_⟩
 ·split at e
  ·rename_i hm
   have:=List.idxOf_lt_length_of_mem hm;omega
  ·omega
 ·have hlt2:v.toNat<es.length:=by omega
  have hm:=List.getElem_mem hlt2;have hr:=h.rng _ hm;refine⟨es[v.toNat].toNat,by omega,?_⟩;rw[show ((es[v.toNat].toNat:Nat):Int)=es[v.toNat] by omega,if_pos hm,h.nd.idxOf_getElem];omega
theorem zO {b:aG} {es:List Int} (h:kT b es) {l:Int} (hl:0<=l/\l<b.edges):at' (jN (cg b es)) l=df (es++ia es b.edges.toNat) l:=by
 have he:=h.ed;have hln:(cg b es).length=b.edges.toNat:=by simp[cg]
 have e0:at' (jN (cg b es)) l=mG (cg b es) l:=by
  obtain⟨n,rfl⟩:∃ n:Nat,l=n:=⟨l.toNat,by omega⟩
  rw[bm (by simp[jN,hln];omega)];simp[jN]
 rw[e0,mG,gz hl,df]
 by_cases hm:l ∈ es
 ·rw[if_pos hm,if_neg (by omega),if_pos (by simp[hm]),List.idxOf_append,if_pos hm]
 ·have hi:l ∈ ia es b.edges.toNat:=(rm _).2 ⟨by omega,by simpa using hm⟩;have e1:(((ia es b.edges.toNat).idxOf l:Nat):Int)=ek (fun l => !decide (l ∈ es)) l.toNat:=by
   have:=xt _ hi
   rwa [pY,if_pos hi] at this
  rw[if_neg hm,if_pos (by omega),if_pos (by simp[hi]),List.idxOf_append,if_neg hm,iz h];have e2:ek (iO (cg b es)) l.toNat=ek (fun l => !decide (l ∈ es)) l.toNat:=by
   rw[ek,ek,uH fun x h0 h1=>?_];rw[iO,gz (by omega)]
   by_cases hx:x ∈ es
   ·rw[if_pos hx];simp[hx]
   ·rw[if_neg hx];simp[hx]
  rw[e2,<- e1];omega
abbrev kt (b:aG) (l:Int) (es:List Int):Prop:=0<=l/\(l<b.edges->l<es.length)
abbrev im (b:aG) (l:Int) (es:List Int):Int:=if l >= b.edges then l else at' es l
def lu (b:aG) (link:Int) (edges:List Int) (Z:Int->Prop):Prop:=
 ∀ c4:Bool,c4=decide (b.edges<=link)->((c4=true->Z link)/\(c4=false->(0<=link/\link<edges.length)/\∀ x7:Int,x7=at' edges link->Z x7))
theorem Bh (b:aG) (l:Int) (es:List Int) (h:kt b l es):lu b l es (fun y=>y=im b l es):=by
 unfold lu;simp only[forall_eq,decide_eq_true_eq,decide_eq_false_iff_not];exact⟨fun h1=>by rw[im,if_pos h1],fun h1=>⟨⟨h.1,h.2 (by omega)⟩,by rw[im,if_neg h1]⟩⟩
abbrev eV (p:Int) (tos:List Int):Prop:=p<tos.length
abbrev fD (p:Int) (tos:List Int):Int:=if p<0 then p else at' tos p
def jZ (parent:Int) (to_:List Int) (Z:Int->Prop):Prop:=
 ∀ c2:Bool,c2=decide (parent<0)->((c2=true->Z parent)/\(c2=false->(0<=parent/\parent<to_.length)/\∀ x5:Int,x5=at' to_ parent->Z x5))
theorem Aq (p:Int) (tos:List Int) (h:eV p tos):jZ p tos (fun y=>y=fD p tos):=by
 unfold jZ;simp only[forall_eq,decide_eq_true_eq,decide_eq_false_iff_not];exact⟨fun h1=>by rw[fD,if_pos h1],fun h1=>⟨⟨by omega,h⟩,by rw[fD,if_neg h1]⟩⟩
def oF (b:aG) (tos edges:List Int) (k:Int):ay:=⟨(at' b.nodes k).control,fD (at' b.nodes k).parent tos,(at' b.nodes k).links.map fun l=>im b l edges⟩
def jH (b:aG) (tos edges:List Int):Nat->List ay
 | 0=>List.replicate b.nodes.length default
 | k+1=>(jH b tos edges k).set (at' tos (k:Int)).toNat (oF b tos edges k)
theorem ir (b:aG) (tos edges:List Int):∀ k,(jH b tos edges k).length=b.nodes.length
 | 0=>by simp[jH]
 | k+1=>by simp[jH,ir b tos edges k]
def gT (b:aG) (tos edges:List Int):aG:=⟨b.roots,jH b tos edges b.nodes.length,b.sites.map (fun p=>fD p tos),b.edges,b.outer,b.inner.map fun w=>⟨w.name,im b w.link edges⟩⟩
structure kO (b:aG) (tos edges:List Int):Prop where
 v:∃ sig,bo sig b
 l:tos.length=b.nodes.length
 r:∀ k ∈ tos,0<=k/\k<b.nodes.length
 e:edges.length=b.edges.toNat
def jY (b:aG) (to_:List Int) (edges:List Int) (Z:aG->Prop):Prop:=
 ∀ aW:Int,aW=(b.nodes.length:Int)->(0<=aW/\aW<=1073741824)/\∀ l9:List ay,l9=List.replicate aW.toNat default->(([]:List bc).length+b.outer.length<=1073741824)/\∀ l13:List bc,l13=([]:List bc)++b.outer->aL (σ:=Int × (List ay)) (fun (i339,l340) K345=>∀ len346:Int,len346=(b.nodes.length:Int)->∀ c348:Bool,c348=decide (i339<len346)->((c348=true->aL (σ:=Int × (List Int)) (fun (k366,l367) K373=>(0<=i339/\i339<b.nodes.length)/\∀ x375:ay,x375=at' b.nodes i339->∀ len377:Int,len377=(x375.links.length:Int)->∀ c379:Bool,c379=decide (k366<len377)->((c379=true->(0<=i339/\i339<b.nodes.length)/\∀ x382:ay,x382=at' b.nodes i339->(0<=k366/\k366<x375.links.length)/\∀ x386:Int,x386=at' x375.links k366->(kt b x386 edges)/\∀ r389:Int,r389=im b x386 edges->(l367.length+1<=1073741824)/\∀ l391:List Int,l391=l367++[r389]->(bu (k366+1))/\∀ v403:Int,v403=k366+1->K373 (v403,l391))/\(c379=false->(0<=i339/\i339<to_.length)/\∀ x406:Int,x406=at' to_ i339->(0<=i339/\i339<b.nodes.length)/\∀ x409:ay,x409=at' b.nodes i339->(0<=i339/\i339<b.nodes.length)/\∀ x413:ay,x413=at' b.nodes i339->(eV x375.parent to_)/\∀ r417:Int,r417=fD x375.parent to_->(0<=x406/\x406<l340.length)/\∀ x420:ay,x420=at' l340 x406->∀ l439:List ay,l439=l340.set x406.toNat (ay.mk x375.control r417 l367)->(bu (i339+1))/\∀ v447:Int,v447=i339+1->K345 (v447,l439)))) (0,([]:List Int)))/\(c348=false->aL (σ:=Int × (List Int)) (fun (i468,l469) K476=>∀ len477:Int,len477=(b.sites.length:Int)->∀ c479:Bool,c479=decide (i468<len477)->((c479=true->(0<=i468/\i468<b.sites.length)/\∀ x482:Int,x482=at' b.sites i468->(eV x482 to_)/\∀ r485:Int,r485=fD x482 to_->(l469.length+1<=1073741824)/\∀ l487:List Int,l487=l469++[r485]->(bu (i468+1))/\∀ v501:Int,v501=i468+1->K476 (v501,l487))/\(c479=false->aL (σ:=Int × (List aN)) (fun (i516,l517) K524=>∀ len525:Int,len525=(b.inner.length:Int)->∀ c527:Bool,c527=decide (i516<len525)->((c527=true->(0<=i516/\i516<b.inner.length)/\∀ x530:aN,x530=at' b.inner i516->(0<=i516/\i516<b.inner.length)/\∀ x533:aN,x533=at' b.inner i516->(kt b x530.link edges)/\∀ r537:Int,r537=im b x530.link edges->(l517.length+1<=1073741824)/\∀ l539:List aN,l539=l517++[(aN.mk x530.name r537)]->(bu (i516+1))/\∀ v553:Int,v553=i516+1->K524 (v553,l539))/\(c527=false->Z (aG.mk b.roots l340 l469 b.edges l13 l517)))) (0,([]:List aN))))) (0,([]:List Int))))) (0,l9)
theorem zL (b:aG) (tos edges:List Int) (h:kO b tos edges):jY b tos edges (fun y=>y=gT b tos edges):=by
 unfold jY;obtain⟨⟨sig,hv⟩,hl,hr,he⟩:=h;have hn:=hv.len;have hed:=hv.edges;have ho:=hv.outer;have hi:=hv.inner;have hs:=hv.slen;simp only[forall_eq,decide_eq_true_eq,decide_eq_false_iff_not];refine⟨by omega,by simp;omega,?_⟩;refine aL.oz b.nodes.length (fun k t=>t=jH b tos edges k) _ (by simp[jH]) ?_;rintro k _ K hk rfl IH;dsimp only;have hkl:=ir b tos edges k;refine⟨fun hc1=>?_,fun hc1=>?_⟩
 ·have hk2:k<b.nodes.length:=by omega
  have hkr:0<=(k:Int)/\(k:Int)<b.nodes.length:=by omega
  have hl3:=hv.fB hkr;have hla:=hv.iM hkr;have hp:=hv.jK hkr;have ht:=hr (at' tos (k:Int)) (at_mem (by omega));refine aL.oz (at' b.nodes (k:Int)).links.length (fun j t=>t=((at' b.nodes (k:Int)).links.take j).map fun l=>im b l edges) [] (by simp) ?_;rintro j _ K3 hj rfl IH3;dsimp only;refine⟨hkr,fun hc3=>?_,fun hc3=>?_⟩
  ·have hj2:j<(at' b.nodes (k:Int)).links.length:=by omega
   rw[bm hj2];have e:=List.take_succ_eq_append_getElem hj2;have hm:=hla _ (List.getElem_mem hj2);refine⟨hkr,⟨by omega,by omega⟩,⟨by omega,fun _=>by omega⟩,by simp;omega,by simp only[bu];omega,IH3 hj2 _ ?_⟩;rw[e,List.map_append];rfl
  ·obtain rfl:j=(at' b.nodes (k:Int)).links.length:=by omega
   rw[List.take_length];refine⟨by omega,hkr,hkr,by simp only[eV];omega,by omega,by simp only[bu];omega,IH hk2 _ ?_⟩
   rfl
 ·obtain rfl:k=b.nodes.length:=by omega
  refine aL.oz b.sites.length (fun k t=>t=(b.sites.take k).map fun p=>fD p tos) [] (by simp) ?_;rintro k _ K3 hk3 rfl IH3;dsimp only;refine⟨fun hc3=>?_,fun hc3=>?_⟩
  ·have hk4:k<b.sites.length:=by omega
   rw[bm hk4];have hp:=hv.sites _ (List.getElem_mem hk4);refine⟨⟨by omega,by omega⟩,by simp only[eV];omega,by simp;omega,by simp only[bu];omega,IH3 hk4 _ ?_⟩;rw[List.take_succ_eq_append_getElem hk4,List.map_append];rfl
  ·obtain rfl:k=b.sites.length:=by omega
   rw[List.take_length];refine aL.oz b.inner.length (fun k t=>t=(b.inner.take k).map fun w=>(⟨w.name,im b w.link edges⟩:aN)) [] (by simp) ?_;rintro k _ K4 hk4 rfl IH4;dsimp only;refine⟨fun hc4=>?_,fun hc4=>?_⟩
   ·have hk5:k<b.inner.length:=by omega
    rw[bm hk5];have hw:=hv.wires _ (List.getElem_mem hk5);refine⟨⟨by omega,by omega⟩,⟨by omega,by omega⟩,⟨by omega,fun _=>by omega⟩,by simp;omega,by simp only[bu];omega,IH4 hk5 _ ?_⟩;rw[List.take_succ_eq_append_getElem hk5,List.map_append];rfl
   ·obtain rfl:k=b.inner.length:=by omega
    rw[List.take_length]
    rfl
theorem at_map {α β:Type} [Inhabited α] [Inhabited β] {l:List α} (f:α->β) {k:Int} (h:0<=k/\k<l.length):at' (l.map f) k=f (at' l k):=by
 obtain⟨n,rfl⟩:∃ n:Nat,k=n:=⟨k.toNat,by omega⟩
 rw[bm (by simp;omega),bm (show n<l.length by omega),List.getElem_map]
theorem Dy {α:Type} [Inhabited α] {l:List α} {v:α} {i j:Int} (hj:0<=j) (hi:0<=i/\i<l.length):at' (l.set i.toNat v) j=if j=i then v else at' l j:=by
 obtain⟨n,rfl⟩:∃ n:Nat,j=n:=⟨j.toNat,by omega⟩
 simp only[at',Int.toNat_natCast,List.getElem?_set,List.getD_eq_getElem?_getD]
 by_cases h:(n:Int)=i
 ·subst h;rw[Int.toNat_natCast,if_pos rfl,if_pos rfl,if_pos (by omega)];rfl
 ·rw[if_neg h,if_neg (by omega)]
theorem ext_at {α:Type} [Inhabited α] {l m:List α} (hl:l.length=m.length) (h:∀ k:Nat,k<l.length->at' l (k:Int)=at' m (k:Int)):l=m:=by
 refine List.ext_getElem hl fun i h1 h2=>?_
 have:=h i h1
 rwa [bm h1,bm h2] at this
theorem uV {b:aG} {tos edges order:List Int} (hn:order.length=b.nodes.length) (hr:∀ k ∈ order,0<=k/\k<b.nodes.length) (ht:∀ k:Int,0<=k/\k<b.nodes.length->(0<=at' tos k/\at' tos k<b.nodes.length)/\at' order (at' tos k)=k) (hp:∀ i:Nat,i<b.nodes.length->at' tos (at' order (i:Int))=i) :
  jH b tos edges b.nodes.length=order.map (oF b tos edges):=by
 have h:∀ m≤b.nodes.length,∀ i:Nat,i<b.nodes.length->at' (jH b tos edges m) (i:Int)=if at' order (i:Int)<m then oF b tos edges (at' order (i:Int)) else default:=by
  intro m
  induction m with
  | zero=>
   intro _ i hi;have h1:=hr _ (at_mem (l:=order) (i:=(i:Int)) (by omega));rw[if_neg (by omega),jH,bm (by simpa using hi),List.getElem_replicate]
  | succ m ih=>
   intro hm i hi;have h1:=hr _ (at_mem (l:=order) (i:=(i:Int)) (by omega));have h2:=ht (m:Int) (by omega);have h3:=hp i hi;rw[jH,Dy (by omega) (by rw[ir];exact h2.1),ih (by omega) i hi]
   by_cases he:(i:Int)=at' tos (m:Int)
   ·have h4:at' order (i:Int)=m:=by rw[he];exact h2.2
    rw[if_pos he,h4,if_pos (by omega)]
   ·have h4:at' order (i:Int) ≠ m:=fun h4=>he (by rw[<- h4];exact h3.symm)
    rw[if_neg he]
    by_cases h5:at' order (i:Int)<m
    ·rw[if_pos h5,if_pos (by omega)]
    ·rw[if_neg h5,if_neg (by omega)]
 refine ext_at (by rw[ir,List.length_map,hn]) fun k hk=>?_
 rw[ir] at hk;have h1:=hr _ (at_mem (l:=order) (i:=(k:Int)) (by omega));rw[h _ (Nat.le_refl _) k hk,if_pos h1.2,at_map _ (by omega)]
def AY (order:List Int) (n:Nat):Nat->List Int
 | 0=>List.replicate n 0
 | i+1=>(AY order n i).set (at' order (i:Int)).toNat (i:Int)
theorem j5 (order:List Int) (n:Nat):∀ i,(AY order n i).length=n
 | 0=>by simp[AY]
 | i+1=>by simp[AY,j5 order n i]
theorem xF {order:List Int} {n:Nat} (hd:order.Nodup) (hr:∀ k ∈ order,0<=k/\k<n):∀ m≤order.length,∀ i:Nat,i<m->at' (AY order n m) (at' order (i:Int))=i
 | m+1,hm,i,hi=>by
  have h1:=hr _ (at_mem (l:=order) (i:=(m:Int)) (by omega));have h2:=hr _ (at_mem (l:=order) (i:=(i:Int)) (by omega));rw[AY,gL h2.1 (by rw[j5];exact h1)]
  by_cases he:i=m
  ·subst he;rw[if_pos rfl]
  ·rw[if_neg fun e=>he ?_]
   ·exact xF hd hr m (by omega) i (by omega)
   ·rw[bm (show i<order.length by omega),bm (show m<order.length by omega)] at e;exact (List.getElem_inj hd).1 e
abbrev iQ (b:aG):aG:=dZ b
abbrev kY (b:aG):Prop:=∃ sig,bo sig b
def kp (b:aG) (Z:aG->Prop):Prop:=
 (jl b)/\∀ r6:List Int,r6=oR b->∀ tj:Int,tj=(r6.length:Int)->(0<=tj/\tj<=1073741824)/\∀ l10:List Int,l10=List.replicate tj.toNat default->aL (σ:=Int × (List Int)) (fun (i21,l22) K26=>∀ len27:Int,len27=(r6.length:Int)->∀ c29:Bool,c29=decide (i21<len27)->((c29=true->(0<=i21/\i21<r6.length)/\∀ x32:Int,x32=at' r6 i21->(0<=x32/\x32<l22.length)/\∀ x39:Int,x39=at' l22 x32->∀ l42:List Int,l42=l22.set x32.toNat i21->(bu (i21+1))/\∀ v49:Int,v49=i21+1->K26 (v49,l42))/\(c29=false->(kS b r6)/\∀ r52:(List Int) × (List Int),r52=kP b r6->(jU r52.2)/\∀ r69:List Int,r69=jN r52.2->(kO b l22 r69)/\∀ r71:aG,r71=gT b l22 r69->Z r71))) (0,l10)
theorem zc {sig:cV} {b:aG} (hv:bo sig b):gT b (AY (aS b).order (aS b).order.length (aS b).order.length) (jN (cg b (aS b).s.es))=dZ b:=by
 have hc:=D2 hv;have hn:=hc.len;rw[hn];have hp:∀ i:Nat,i<b.nodes.length->at' (AY (aS b).order b.nodes.length b.nodes.length) (at' (aS b).order (i:Int))=i:=fun i hi=>xF hc.nd hc.rng _ (by omega) i hi
 have hat:∀ k:Int,0<=k/\k<b.nodes.length->at' (AY (aS b).order b.nodes.length b.nodes.length) k=(((aS b).order.idxOf k:Nat):Int):=fun k hk=>by
  have hm:=hc.mem hk;have hi:=List.idxOf_lt_length_of_mem hm;have:=hp _ (by rw[<- hn];exact hi)
  rwa [bm hi,List.getElem_idxOf] at this
 have hpar:∀ p:Int,p<b.nodes.length->fD p (AY (aS b).order b.nodes.length b.nodes.length)=fG p (qC b).2:=fun p hp2=>by
  by_cases h0:0<=p
  ·rw[fD,if_neg (by omega),fG,if_pos h0,hat p ⟨h0,hp2⟩];exact (hc.at ⟨h0,hp2⟩).symm
  ·rw[fD,if_pos (by omega),fG,if_neg h0]
 have htie:∀ l:Int,0<=l->im b l (jN (cg b (aS b).s.es))=fe l b (nc b):=fun l h0=>by
  by_cases h1:l >= b.edges
  ·rw[im,if_pos h1,fe,if_pos h1]
  ·rw[im,if_neg h1,fe,if_neg h1,zO hc.es ⟨h0,by omega⟩];rfl
 rw[gT,dZ,uV hn hc.rng (fun k hk=>?_) hp]
 ·congr 1
  ·refine List.map_congr_left fun k hk=>?_
   have hr:=hc.rng k hk;rw[oF,fM,hpar _ (by have:=hv.jK hr;omega)]
   congr 1
   exact List.map_congr_left fun l hl=>htie l (hv.iM hr l hl).1
  ·exact List.map_congr_left fun p hp2=>hpar p (hv.sites p hp2).2
  ·refine List.map_congr_left fun w hw=>?_
   rw[htie _ (hv.wires w hw).1]
 ·rw[hat k hk];have hm:=hc.mem hk;have hi:=List.idxOf_lt_length_of_mem hm;refine⟨by omega,?_⟩;rw[bm hi,List.getElem_idxOf]
theorem zN (b:aG) (h:kY b):kp b (fun y=>y=iQ b):=by
 unfold kp;obtain⟨sig,hv⟩:=h;have hc:=D2 hv;have hn:=hv.len;have hed:=hv.edges;have hcl:=hc.len;simp only[forall_eq,decide_eq_true_eq,decide_eq_false_iff_not,oR];refine⟨⟨sig,hv⟩,by omega,?_⟩;refine aL.oz (aS b).order.length (fun k t=>t=AY (aS b).order (aS b).order.length k) _ (by simp[AY]) ?_;rintro k _ K hk rfl IH;dsimp only;refine⟨fun hc1=>?_,fun hc1=>?_⟩
 ·have hk2:k<(aS b).order.length:=by omega
  have hr:=hc.rng _ (at_mem (l:=(aS b).order) (i:=(k:Int)) (by omega));exact⟨by omega,by rw[j5];omega,by simp only[bu];omega,IH hk2 _ rfl⟩
 ·obtain rfl:k=(aS b).order.length:=by omega
  have hnl:(cg b (aS b).s.es).length=b.edges.toNat:=by simp[cg]
  refine⟨⟨⟨sig,hv⟩,by omega,hc.rng⟩,?_⟩;rw[hc.code];refine⟨qW hc.es,⟨⟨sig,hv⟩,by rw[j5,hcl],fun k hk=>?_,by simp[jN,hnl]⟩,zc hv⟩;obtain⟨i,hi,rfl⟩:=List.getElem_of_mem hk;rw[j5] at hi;have hm:=hc.mem (k:=(i:Int)) (by omega);have hx:=List.idxOf_lt_length_of_mem hm;have:=xF hc.nd (n:=(aS b).order.length) (fun k hk=>by have:=hc.rng k hk;omega) _ (Nat.le_refl _) _ hx;rw[bm hx,List.getElem_idxOf,bm (by rw[j5];exact hi)] at this;omega
end Go.Ab.Vg
namespace Go.Ab.Vg
end Go.Ab.Vg
