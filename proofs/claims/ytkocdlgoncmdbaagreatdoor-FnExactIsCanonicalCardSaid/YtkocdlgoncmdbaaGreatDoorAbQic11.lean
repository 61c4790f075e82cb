/- Merged texts (11 of 17) of the proof that ends in Icy: Rp Rb Md Mk Mn Mu Yb Co Mp Em Sg Na Nc Nd Ne Kr Ks Eq. -/
import Derived.Test.YtkocdlgoncmdbaaGreatDoorAbQic10
/- Readers of the laws' arguments: processes. -/
namespace Go.Proofs.YtkocdlgoncmdbaaGreatDoor
open Go.ChangeShapes Go.WideShapes Go.ChangeAt Go.RowKit Go.Ab
set_option maxRecDepth 100000
theorem own:ownKnob Tryz.prog.godebug=none:=by kernel_rfl
theorem laidOut:laidOutB Tryz.prog=true:=by kernel_rfl
theorem underBool:Tryz.prog.underlying 4=some .bool:=Tryz.underlying4
end Go.Proofs.YtkocdlgoncmdbaaGreatDoor
/- Readers of the laws' arguments: signatures and bigraphs. -/
namespace Go.Proofs.YtkocdlgoncmdbaaGreatDoor
open Go.ChangeShapes Go.WideShapes Go.ChangeAt Go.RowKit Go.Ab
set_option maxRecDepth 100000
theorem rControl:Reader Tryz.prog 62 Control.cells (fun x=>x.name.length≤9223372036854775807):=by
 have h:=Reader.struct Tryz.underlying62 (n:=3) (by kernel_rfl) (FReader.cons (n:=1) rfl (by kernel_rfl) (Reader.str Tryz.underlying9) (FReader.cons (n:=1) rfl (by kernel_rfl) (Reader.int Tryz.underlying3) (FReader.cons (n:=1) rfl (by kernel_rfl) (Reader.int Tryz.underlying3) (FReader.nil 3))))
 exact h.map (fun p=>⟨p.1,p.2.1,p.2.2.1⟩) (fun p=>rfl) (fun p hp=>hp.1)
theorem rWire:Reader Tryz.prog 99 Wire.cells (fun x=>x.name.length≤9223372036854775807):=by
 have h:=Reader.struct Tryz.underlying99 (n:=2) (by kernel_rfl) (FReader.cons (n:=1) rfl (by kernel_rfl) (Reader.str Tryz.underlying9) (FReader.cons (n:=1) rfl (by kernel_rfl) (Reader.int Tryz.underlying3) (FReader.nil 2)))
 exact h.map (fun p=>⟨p.1,p.2.1⟩) (fun p=>rfl) (fun p hp=>hp.1)
theorem rInts:Reader Tryz.prog 24 (fun l:List Int=>[Ab.encI false l]) (fun l=>l.length≤9223372036854775807∧∀ p ∈ l,I64 p):=
 Reader.slice Tryz.underlying24 (of_decide_eq_true (by kernel_rfl)) (Reader.int Tryz.underlying3)
theorem rStrs:Reader Tryz.prog 25 (fun l:List Str=>[Ab.encS false l]) (fun l=>l.length≤9223372036854775807∧∀ s ∈ l,s.length≤9223372036854775807):=
 Reader.slice Tryz.underlying25 (of_decide_eq_true (by kernel_rfl)) (Reader.str Tryz.underlying9)
theorem rGNode:Reader Tryz.prog 96 (GNode.cells false) (fun x=>x.links.length≤9223372036854775807∧I64 x.parent):=by
 have h:=Reader.struct Tryz.underlying96 (n:=3) (by kernel_rfl) (FReader.cons (n:=1) rfl (by kernel_rfl) (Reader.int Tryz.underlying3) (FReader.cons (n:=1) rfl (by kernel_rfl) (Reader.int Tryz.underlying3) (FReader.cons (n:=1) rfl (by kernel_rfl) rInts (FReader.nil 3))))
 exact h.map (fun p=>⟨p.1,p.2.1,p.2.2.1⟩) (fun p=>rfl) (fun p hp=>⟨hp.2.2.1.1,hp.2.1⟩)
theorem rNodes:Reader Tryz.prog 23 (fun l:List GNode=>[Ab.encN false l]) (fun l=>l.length≤9223372036854775807∧∀ x ∈ l,x.links.length≤9223372036854775807∧I64 x.parent):=
 Reader.slice Tryz.underlying23 (of_decide_eq_true (by kernel_rfl)) rGNode
theorem rWires:Reader Tryz.prog 26 (fun l:List Wire=>[Ab.encW false l]) (fun l=>l.length≤9223372036854775807∧∀ x ∈ l,x.name.length≤9223372036854775807):=
 Reader.slice Tryz.underlying26 (of_decide_eq_true (by kernel_rfl)) rWire
theorem rSig:ArgR Tryz.prog 22 (encSig false) HugeS:=by
 refine ArgR.cell (cell_slice Tryz.underlying22) ?_
 have h:=Reader.slice Tryz.underlying22 (of_decide_eq_true (by kernel_rfl)) rControl
 exact h.map (fun p=>p) (fun p=>rfl) (fun p hp=>⟨hp.1,hp.2⟩)
theorem rBigF:Reader Tryz.prog 28 (Big.cells false) HugeB:=by
 have h:=Reader.struct Tryz.underlying28 (n:=6) (by kernel_rfl) (FReader.cons (n:=1) rfl (by kernel_rfl) (Reader.int Tryz.underlying3) (FReader.cons (n:=1) rfl (by kernel_rfl) rNodes (FReader.cons (n:=1) rfl (by kernel_rfl) rInts
  (FReader.cons (n:=1) rfl (by kernel_rfl) (Reader.int Tryz.underlying3) (FReader.cons (n:=1) rfl (by kernel_rfl) rStrs (FReader.cons (n:=1) rfl (by kernel_rfl) rWires (FReader.nil 6)))))))
 exact h.map (e':=Big.cells false) (ok':=HugeB) (fun p=>⟨p.1,p.2.1,p.2.2.1,p.2.2.2.1,p.2.2.2.2.1,p.2.2.2.2.2.1⟩) (fun p=>rfl) (fun p hp=>by
  obtain⟨_,h1,h2,_,h3,h4,_⟩:=hp
  exact⟨h1.1,fun x hx=>(h1.2 x hx).1,h2.1,h3.1,h3.2,h4.1,h4.2,fun x hx=>(h1.2 x hx).2,h2.2⟩)
theorem rBig:ArgR Tryz.prog 28 (encB false) HugeB:=ArgR.struct Tryz.underlying28 rBigF
end Go.Proofs.YtkocdlgoncmdbaaGreatDoor
/- IsMatch, IsActiveMatch, MatchLinks (statements 12, 14, 16): the laws' own functions on matches, and the laws. -/
namespace Go.Ab.Vg
set_option linter.unusedSimpArgs false
set_option linter.unusedVariables false
abbrev EqB (x:Big):Prop:=x.nodes.length≤1048576∧(∀ z ∈ x.nodes,z.links.length≤1048576)∧x.sites.length≤1048576∧x.outer.length≤1048576∧x.inner.length≤1048576
theorem eqOf {sig:Sig} {b:Big} (h:SmallB sig b):EqB b:=⟨h.nodesLen,h.linksLen,h.sitesLen,h.outerLen,h.innerLen⟩
theorem toOf {sig:Sig} {b:Big} (h:SmallB sig b):toBigraph_pre b:=⟨⟨h.nodesLen,h.linksLen⟩,h.sitesLen,h.outerLen,h.innerLen⟩
end Go.Ab.Vg
/- FirstMatch, AllMatches, CountActive (statements 20, 21, 19): the search for matches, as lists. -/
namespace Go.Ab.Vg
set_option linter.unusedSimpArgs false
set_option linter.unusedVariables false
def rootsB (redex agent:Big) (nodes:List Int):List Int:=(List.range redex.roots.toNat).map fun r:Nat=>(at' agent.nodes (at' nodes (at' (kidsB redex (-1 - (r:Int))) 0))).parent
def canB (redex agent:Big) (nodes:List Int) (x:Int):Bool:=
 decide ((at' agent.nodes x).control=(at' redex.nodes (nodes.length:Int)).control) && !hasI nodes x && (decide ((at' redex.nodes (nodes.length:Int)).parent<0) || decide ((at' agent.nodes x).parent=at' nodes (at' redex.nodes (nodes.length:Int)).parent))
noncomputable def allM (redex agent:Big) (rs:List Int→List Int) (can:List Int→Int→Bool):Nat→List Int→List Match
 | 0,nodes=>if matchB redex agent ⟨nodes,rs nodes⟩ then [⟨nodes,rs nodes⟩] else []
 | k+1,nodes=>(List.range agent.nodes.length).flatMap fun x:Nat=>if can nodes (x:Int) then allM redex agent rs can k (nodes++[(x:Int)]) else []
end Go.Ab.Vg
/- The search for matches: impl.matches with a function value, and those that use it; the reference's search. -/
namespace Go.Ab.Vg
set_option linter.unusedSimpArgs false
set_option linter.unusedVariables false
noncomputable abbrev restM (redex agent:Big) (nodes:List Int):List Match:=allM redex agent (rootsB redex agent) (canB redex agent) (redex.nodes.length - nodes.length) nodes
noncomputable abbrev matchesB (redex agent:Big):List Match:=restM redex agent []
end Go.Ab.Vg
/- Rules and guards: what makes them valid, and when a guard holds. -/
namespace Go.Ab.Vg
set_option linter.unusedSimpArgs false
set_option linter.unusedVariables false
abbrev eqStrs (a b:List Str):Bool:=decide (a=b)
abbrev eqStrs_pre (a b:List Str):Prop:=a.length≤1048576∧b.length≤1048576
def eqStrs_wp (s1:List Str) (s2:List Str) (Z:Bool→Prop):Prop:=
 ∀ len2:Int,len2=(s1.length:Int)→∀ len4:Int,len4=(s2.length:Int)→∀ c6:Bool,c6=decide (len2 ≠ len4)→((c6=true→Z false)∧(c6=false→∀ len8:Int,len8=(s1.length:Int)→loopW (σ:=Int) (fun v12 K15=>∀ c16:Bool,c16=decide (v12<len8)→((c16=true→(0≤v12∧v12<s1.length)∧∀ x19:Str,x19=at' s1 v12→(0≤v12∧v12<s2.length)∧∀ x22:Str,x22=at' s2 v12→∀ c24:Bool,c24=decide (x19 ≠ x22)→((c24=true→Z false)∧(c24=false→(I64 (v12+1))∧∀ v27:Int,v27=v12+1→K15 (v27))))∧(c16=false→Z true))) (0)))
theorem eqStrs_vc (a b:List Str) (h:eqStrs_pre a b):eqStrs_wp a b (fun y=>y=eqStrs a b):=by
 unfold eqStrs_wp
 obtain⟨h1,h2⟩:=h
 simp only[forall_eq,decide_eq_true_eq,decide_eq_false_iff_not]
 refine⟨fun h3=>?_,fun h3=>?_⟩
 ·rw[eqStrs,decide_eq_false]
  rintro rfl
  exact h3 rfl
 ·have hl:a.length=b.length:=by omega
  refine loopW.up1 a.length (fun i=>∀ j:Nat,j<i→at' a (j:Int)=at' b (j:Int)) (fun j hj=>by omega) ?_
  rintro i K hi hI IH
  refine⟨fun h4=>⟨⟨by omega,by omega⟩,⟨by omega,by omega⟩,fun h5=>?_,fun h5=>⟨by simp only[I64];omega,IH (by omega) fun j hj=>?_⟩⟩,fun h4=>?_⟩
  ·rw[eqStrs,decide_eq_false]
   rintro rfl
   exact h5 rfl
  ·rcases Nat.lt_or_ge j i with h6 | h6
   ·exact hI j h6
   ·rw[show j=i by omega];exact Classical.not_not.1 h5
  ·rw[eqStrs,decide_eq_true]
   refine List.ext_getElem hl fun j hj hj'=>?_
   have:=hI j (by omega)
   rwa [at_lt hj,at_lt hj'] at this
-- impl.IsRule$1 is not in this seat
noncomputable def ruleB (sig:Sig) (r:Rule):Bool:=goodB sig r.redex && redexB r.redex && goodB sig r.reactum && decide (r.reactum.inner.length=0) && decide (r.redex.roots=r.reactum.roots) && decide (r.redex.outer=r.reactum.outer) &&
 decide (r.copies.length=r.reactum.sites.length) && r.copies.all (fun k=>within k 0 (r.redex.sites.length - 1))
noncomputable abbrev IsRule (sig:Sig) (r:Rule):Bool:=ruleB sig r
-- impl.IsRule is not in this seat
def mayB (zone:Int) (agent:Big) (m:Match) (x:Int):Bool:=if zone=2 then !(underB agent m.nodes x) else if zone=3 then underB agent m.nodes x && !(hasI m.nodes x) else true
noncomputable def holdsB (g:Guard) (agent:Big) (m:Match):Bool:=((matchesB g.pattern agent).any fun o=>o.nodes.all (mayB g.zone agent m)) != g.neg
noncomputable abbrev holds (g:Guard) (agent:Big) (m:Match):Bool:=holdsB g agent m
end Go.Ab.Vg
/- Contracts of laws.toAmbNode, laws.toProcess, laws.eqAmbNode and laws.eqProcess. -/
namespace Go.Ab
open Go.Proofs
set_option linter.unusedSimpArgs false
end Go.Ab
/- Congruence of processes (statement 9): pure conditions of the functions that sort texts. -/
namespace Go.Ab.Vg
set_option linter.unusedSimpArgs false
set_option linter.unusedVariables false
end Go.Ab.Vg
/- Marks on processes: what the laws' own functions on processes do. -/
namespace Go.Ab.Vg
set_option linter.unusedSimpArgs false
set_option linter.unusedVariables false
end Go.Ab.Vg
/- Encodings of processes (statement 11). -/
namespace Go.Ab.Vg
set_option linter.unusedSimpArgs false
set_option linter.unusedVariables false
abbrev cloneS_pre (l:List Str):Prop:=l.length≤1048576
abbrev cloneS (l:List Str):List Str:=l
def cloneS_wp (s:List Str) (Z:(List Str)→Prop):Prop:=
 ∀ c2:Bool,(c2=true→s=[])→((c2=true→Z [])∧(c2=false→(([]:List Str).length+s.length≤1073741824)∧∀ l7:List Str,l7=([]:List Str)++s→Z l7))
theorem cloneS_vc (l:List Str) (h:cloneS_pre l):cloneS_wp l (fun y=>y=cloneS l):=by
 unfold cloneS_wp
 intro c hc
 refine⟨fun h1=>(hc h1).symm,fun _=>⟨by simp;omega,?_⟩⟩
 rintro _ rfl
 simp
end Go.Ab.Vg
/- The abstract machine, part Sg: the library's sort and Compact of numbers, of a slice of the caller's own. -/
namespace Go.Ab
open Go.Proofs Go.RowKit
set_option linter.unusedSectionVars false
def runeS (n:Int):Str:=(Utf8.encode n).data.toList
section
variable {P:Program} {f:FuncId} {N:Nat} {k:List Item} {Q:AVal→Heap→Nat→Prop} {Ty:Types} {l:List Oper} {ρ:Env} {H:Heap} {n:Nat} {d:Option Tmp} {ty:TypeId} {pos:String} {af:Array Edge} {gu:Option (Nat × Bool)}
end
end Go.Ab
/- PassedLinks (statement 33): pure conditions of the functions of program and reference. -/
namespace Go.Ab.Vg
set_option linter.unusedSimpArgs false
set_option linter.unusedVariables false
def zName (k:Nat):Str:=122::runeS (97+k)
def freeN (outer:List Str) (k:Nat):List Str:=((List.range k).map zName).filter fun s=>decide (s ∉ outer)
end Go.Ab.Vg
/- Parts of agents: pure conditions of the functions of program and reference. -/
namespace Go.Ab.Vg
set_option linter.unusedSimpArgs false
set_option linter.unusedVariables false
def indexI (l:List Int) (s:Int):Int:=if s ∈ l then (l.idxOf s:Int) else -1
def numsP (p:Int→Bool) (n:Nat):List Int:=((List.range n).map fun i:Nat=>(i:Int)).filter p
def cntP (p:Int→Bool) (n:Nat):Int:=((numsP p n).length:Int)
section
variable (p:Int→Bool)
theorem numsP_yes {n:Nat} (h:p n=true):numsP p (n+1)=numsP p n++[(n:Int)]:=by simp[numsP,List.range_succ,h]
theorem numsP_no {n:Nat} (h:p n=false):numsP p (n+1)=numsP p n:=by simp[numsP,List.range_succ,h]
theorem cntP_yes {n:Nat} (h:p n=true):cntP p (n+1)=cntP p n+1:=by rw[cntP,numsP_yes p h,cntP];simp
theorem cntP_no {n:Nat} (h:p n=false):cntP p (n+1)=cntP p n:=by rw[cntP,numsP_no p h,cntP]
theorem mem_numsP {n:Nat} {x:Int}:x ∈ numsP p n↔(0≤x∧x<n)∧p x=true:=by
 simp only[numsP,List.mem_filter,List.mem_map,List.mem_range]
 exact⟨fun ⟨⟨i,h1,h2⟩,h3⟩=>⟨by omega,h3⟩,fun ⟨h1,h2⟩=>⟨⟨x.toNat,by omega,by omega⟩,h2⟩⟩
theorem numsP_len (n:Nat):(numsP p n).length≤n:=by
 have:=List.length_filter_le p ((List.range n).map fun i:Nat=>(i:Int))
 simpa[numsP] using this
theorem cntP_le (n:Nat):0≤cntP p n∧cntP p n≤n:=by
 have:=numsP_len p n
 rw[cntP];omega
theorem index_nums {n:Nat} {x:Int} (h:x ∈ numsP p n):indexI (numsP p n) x=cntP p x.toNat:=by
 induction n with
 | zero=>simp[numsP] at h
 | succ n ih=>
  cases hp:p n
  ·rw[numsP_no p hp] at h ⊢;exact ih h
  ·rw[numsP_yes p hp] at h ⊢
   by_cases hm:x ∈ numsP p n
   ·rw[← ih hm,indexI,indexI,if_pos h,if_pos hm,List.idxOf_append,if_pos hm]
   ·have hx:x=n:=by simpa[hm] using h
    subst hx
    rw[indexI,if_pos h,List.idxOf_append,if_neg hm]
    simp[cntP]
theorem numsP_congr {p q:Int→Bool} {n:Nat} (h:∀ x:Int,0≤x→x<n→p x=q x):numsP p n=numsP q n:=by
 refine List.filter_congr fun x hx=>?_
 simp only[List.mem_map,List.mem_range] at hx
 obtain⟨i,h1,rfl⟩:=hx
 exact h _ (by omega) (by omega)
theorem cntP_mono {m n:Nat} (h:m≤n):cntP p m≤cntP p n:=by
 induction n with
 | zero=>rw[show m=0 by omega];exact Int.le_refl _
 | succ n ih=>
  rcases Nat.lt_or_ge m (n+1) with h1 | h1
  ·refine Int.le_trans (ih (by omega)) ?_
   cases hp:p n
   ·rw[cntP_no p hp];exact Int.le_refl _
   ·rw[cntP_yes p hp];omega
  ·rw[show m=n+1 by omega];exact Int.le_refl _
end
end Go.Ab.Vg
/- CutUnder (statement 30): both sides. -/
namespace Go.Ab.Vg
set_option linter.unusedSimpArgs false
set_option linter.unusedVariables false
theorem set_range {α:Type} (f:Nat→α) (n k:Nat) (v:α):((List.range n).map f).set k v=(List.range n).map fun i=>if i=k then v else f i:=by
 refine List.ext_getElem (by simp) fun i h1 h2=>?_
 simp only[List.getElem_set,List.getElem_map,List.getElem_range]
 by_cases h:k=i
 ·simp[h]
 ·simp[h,Ne.symm h]
end Go.Ab.Vg
/- CutUnder (statement 30): the law. -/
namespace Go.Ab.Vg
set_option linter.unusedSimpArgs false
set_option linter.unusedVariables false
end Go.Ab.Vg
/- CanonicalOrder (statement 15): both sides and the law. -/
namespace Go.Ab.Vg
set_option linter.unusedSimpArgs false
set_option linter.unusedVariables false
structure CoderV where
 edges:List Int
 places:List Int
instance:Inhabited CoderV:=⟨⟨[],[]⟩⟩
abbrev ordC (b:Big):List Int × CoderV:=((canonA b).order,⟨(canonA b).s.es,(canonA b).s.pl⟩)
abbrev ordC_pre (b:Big):Prop:=∃ sig,ValidB sig b
theorem lastA_ne {b:Big} (he:Even b) (hd:Downs b):lastA b ≠ []:=leastA_ne (by simpa using (layN_lay he hd b.nodes.length (Nat.le_refl _)).2)
theorem canon_is {b:Big} (he:Even b) (hd:Downs b):∃ a ∈ layN b b.nodes.length,canonA b=restC b a:=by
 have hne:=lastA_ne he hd
 obtain⟨f1,_⟩:=firstA_is (lastA b) (at' (lastA b) 0)
 have hm:canonA b ∈ lastA b:=by
  rcases f1 with f1 | f1
  ·rw[canonA,f1]
   exact at_mem ⟨by omega,by have:=List.length_pos_iff.2 hne;omega⟩
  ·exact f1
 obtain⟨a,ha,e⟩:=List.mem_map.1 (leastA_sub hm)
 exact⟨a,ha,e.symm⟩
theorem canon_best {sig:Sig} {b:Big} (hv:ValidB sig b):((canonA b).code,(canonA b).order)=bestC b b.nodes.length (s0C b):=
 (search_same hv.even hv.downs (fun p hp=>(hv.sites p hp).2) (by rw[lastA,layN_eq]) _ (at_mem ⟨by omega,by have:=List.length_pos_iff.2 (lastA_ne hv.even hv.downs);omega⟩)).1
abbrev l5Order (b:Big):List Int:=(canonA b).order
abbrev l5Order_pre (b:Big):Prop:=∃ sig,ValidB sig b
def l5Order_wp (b:Big) (Z:(List Int)→Prop):Prop:=
 ∀ len4:Int,len4=(b.nodes.length:Int)→(noneZ_pre len4)∧∀ r7:List Int,r7=noneZ len4→(noneZ_pre b.edges)∧∀ r9:List Int,r9=noneZ b.edges→(bestZ_pre b r7 r9 0)∧∀ r11:(List Int) × (List Int),r11=bestZ b r7 r9 0→Z r11.2
theorem best_start {sig:Sig} {b:Big} (hv:ValidB sig b):BestSt b (noneZ b.nodes.length) (noneZ b.edges) 0 (s0C b):=by
 refine⟨by simpa using s0_fit,czOk0 b,⟨hv.edges,by simp[s0C],by simp[s0C]⟩,by simp[s0C,noneZ],?_,by omega⟩
 simp only[s0C,noneZ,numsE,List.not_mem_nil,if_false]
 rw[List.map_const',List.length_range]
theorem l5Order_vc (b:Big) (h:l5Order_pre b):l5Order_wp b (fun y=>y=l5Order b):=by
 unfold l5Order_wp
 obtain⟨sig,hv⟩:=h
 have hn:=hv.len
 have he:=hv.edges
 have e:=bestZ_eq (best_start hv)
 rw[show b.nodes.length - (0:Int).toNat=b.nodes.length by simp,← canon_best hv] at e
 simp only[forall_eq]
 exact⟨⟨by omega,by omega⟩,⟨by omega,by omega⟩,⟨⟨sig,hv⟩,_,best_start hv⟩,by rw[e]⟩
end Go.Ab.Vg
/- The canonical form: the program's, and the reference's. -/
namespace Go.Ab.Vg
set_option linter.unusedSimpArgs false
set_option linter.unusedVariables false
theorem cdL_prefix (b:Big) (o t:List Int):∀ i≤o.length,cdL b (o++t) i=cdL b o i
 | 0,_=>rfl
 | i+1,h=>by
  have e:at' (o++t) (i:Int)=at' o (i:Int):=by rw[at_lt (show i<(o++t).length by simp;omega),at_lt (show i<o.length by omega),List.getElem_append_left]
  simp only[cdL,cdL_prefix b o t i (by omega),e]
structure AttC (b:Big) (m:Nat) (a:Att):Prop where
 s:a.s=(cdL b a.order m).2
 nd:a.order.Nodup
 rng:∀ k ∈ a.order,0≤k∧k<b.nodes.length
 pos:∀ i:Nat,i<m→at' a.s.pl (at' a.order (i:Int))=i
theorem attC_ext {sig:Sig} {b:Big} (hv:ValidB sig b) {m:Nat} (hm:m≤8) {a x:Att} (h:AttOk b m a) (hc:AttC b m a) (hx:x ∈ extC b a):AttC b (m+1) x:=by
 simp only[extC,List.mem_map] at hx
 obtain⟨k,hk,rfl⟩:=hx
 have hr:=(mem_freeC.1 hk).1
 have hf:at' a.s.pl k<0:=by
  have:=(mem_freeC.1 hk).2
  simp only[freeP,Bool.and_eq_true,decide_eq_true_eq] at this
  exact this.1
 have hkm:k ∉ a.order:=fun hm2=>by have:=(h.mem k hr).1 hm2;omega
 have hkl:0≤k∧k<a.s.pl.length:=by rw[h.s.pl];exact hr
 have hn:=h.s.num
 have e0:at' (a.order++[k]) (m:Int)=k:=by rw[at_lt (by simp[h.ord]),List.getElem_append_right (by simp[h.ord])];simp[h.ord]
 refine⟨?_,?_,fun j hj=>?_,fun i hi=>?_⟩
 ·simp only[cdL]
  rw[cdL_prefix b _ _ m (by rw[h.ord];omega),← hc.s,e0]
 ·simp only
  rw[List.nodup_append]
  exact⟨hc.nd,by simp,fun x hx c hc2=>by simp only[List.mem_singleton] at hc2;subst hc2;exact fun e=>hkm (e ▸ hx)⟩
 ·rcases List.mem_append.1 hj with hj | hj
  ·exact hc.rng j hj
  ·simp only[List.mem_singleton] at hj;subst hj;exact hr
 ·simp only[stepC]
  by_cases he:i=m
  ·subst he
   rw[e0,at'_set hr.1 hkl,if_pos rfl,hn]
  ·have hi2:i<m:=by omega
   have e1:at' (a.order++[k]) (i:Int)=at' a.order (i:Int):=by rw[at_lt (by simp[h.ord];omega),at_lt (by rw[h.ord];omega),List.getElem_append_left]
   have hmem:at' a.order (i:Int) ∈ a.order:=at_mem (by rw[h.ord];omega)
   rw[e1,at'_set (hc.rng _ hmem).1 hkl,if_neg (fun e=>hkm (by rw[← e];exact hmem))]
   exact hc.pos i hi2
theorem layN_c {sig:Sig} {b:Big} (hv:ValidB sig b):∀ m≤b.nodes.length,∀ a ∈ layN b m,AttC b m a
 | 0,_,a,ha=>by
  rw[List.mem_singleton.1 ha]
  exact⟨rfl,by simp,by simp,fun i hi=>by omega⟩
 | m+1,hm,a,ha=>by
  have hn:=hv.len
  obtain⟨x,hx,h2⟩:=List.mem_flatMap.1 (leastA_sub ha)
  exact attC_ext hv (by omega) (layN_ok hv m (by omega) x hx) (layN_c hv m (by omega) x hx) h2
structure CanO (b:Big):Prop where
 len:(canonA b).order.length=b.nodes.length
 nd:(canonA b).order.Nodup
 rng:∀ k ∈ (canonA b).order,0≤k∧k<b.nodes.length
 pl:(canonA b).s.pl.length=b.nodes.length
 pos:∀ i:Nat,i<b.nodes.length→at' (canonA b).s.pl (at' (canonA b).order (i:Int))=i
 es:EsOk b (canonA b).s.es
 code:(l5Code b (canonA b).order).2=numsE b (canonA b).s.es
theorem canO {sig:Sig} {b:Big} (hv:ValidB sig b):CanO b:=by
 obtain⟨a,ha,e⟩:=canon_is hv.even hv.downs
 have h1:=layN_ok hv _ (Nat.le_refl _) a ha
 have h2:=layN_c hv _ (Nat.le_refl _) a ha
 obtain⟨e1,e2,e3⟩:=rz_cz hv h2.rng a.order.length (Nat.le_refl _)
 obtain⟨t1,t2⟩:=told_links (b.inner.map fun w=>w.link) _ e2 fun l hl=>by
  obtain⟨w,hw,rfl⟩:=List.mem_map.1 hl
  exact (hv.wires w hw).1
 have hs:(cdL b a.order a.order.length).2=a.s:=by rw[h1.ord];exact h2.s.symm
 rw[hs] at t2
 refine⟨?_,?_,?_,?_,?_,?_,?_⟩<;>rw[e]
 ·exact h1.ord
 ·exact h2.nd
 ·exact h2.rng
 ·exact h1.s.pl
 ·exact h2.pos
 ·exact t2
 ·simp only[restC]
  rw[l5Code_eq hv h2.rng,hs]
theorem nums_len {l:List Int} {n:Nat} (hn:l.Nodup) (h:∀ x ∈ l,0≤x∧x<n):l.length≤n:=by
 have:=hn.length_le_of_subset (l₂:=(List.range n).map fun i:Nat=>(i:Int)) fun x hx=>by
  have:=h x hx
  exact List.mem_map.2 ⟨x.toNat,List.mem_range.2 (by omega),by omega⟩
 simpa using this
theorem CanO.mem {b:Big} (h:CanO b) {k:Int} (hk:0≤k∧k<b.nodes.length):k ∈ (canonA b).order:=by
 by_cases hm:k ∈ (canonA b).order
 ·exact hm
 ·have:=nums_len (l:=k::(canonA b).order) (n:=b.nodes.length) (List.nodup_cons.2 ⟨hm,h.nd⟩) fun x hx=>by
   rcases List.mem_cons.1 hx with rfl | hx
   ·exact hk
   ·exact h.rng x hx
  have hl:=h.len
  simp only[List.length_cons] at this;omega
theorem CanO.at {b:Big} (h:CanO b) {k:Int} (hk:0≤k∧k<b.nodes.length):at' (canonA b).s.pl k=(((canonA b).order.idxOf k:Nat):Int):=by
 have hm:=h.mem hk
 have hi:=List.idxOf_lt_length_of_mem hm
 have:=h.pos _ (by rw[← h.len];exact hi)
 rwa [at_lt hi,List.getElem_idxOf] at this
abbrev canF1_pre (_:Int) (_:Big) (edges:List Int):Prop:=edges.length≤1048576
abbrev canF1 (l:Int) (b:Big) (edges:List Int):Int:=if l ≥ b.edges then l else indexZ edges l
def canF1_wp (l:Int) (v_:Big) (v_':List Int) (Z:Int→Prop):Prop:=
 ∀ c2:Bool,c2=decide (v_.edges≤l)→((c2=true→Z l)∧(c2=false→(indexZ_pre v_' l)∧∀ r5:Int,r5=indexZ v_' l→Z r5))
theorem canF1_vc (l:Int) (b:Big) (edges:List Int) (h:canF1_pre l b edges):canF1_wp l b edges (fun y=>y=canF1 l b edges):=by
 unfold canF1_wp
 simp only[forall_eq,decide_eq_true_eq,decide_eq_false_iff_not]
 exact⟨fun h1=>by rw[canF1,if_pos h1],fun h1=>⟨h,by rw[canF1,if_neg h1]⟩⟩
abbrev canF2_pre (p:Int) (c:CoderV):Prop:=p<c.places.length
abbrev canF2 (p:Int) (c:CoderV):Int:=if 0≤p then at' c.places p else p
def canF2_wp (p:Int) (v_:CoderV) (Z:Int→Prop):Prop:=
 ∀ c2:Bool,c2=decide (0≤p)→((c2=true→(0≤p∧p<v_.places.length)∧∀ x5:Int,x5=at' v_.places p→Z x5)∧(c2=false→Z p))
theorem canF2_vc (p:Int) (c:CoderV) (h:canF2_pre p c):canF2_wp p c (fun y=>y=canF2 p c):=by
 unfold canF2_wp
 simp only[forall_eq,decide_eq_true_eq,decide_eq_false_iff_not]
 exact⟨fun h1=>⟨⟨h1,h⟩,by rw[canF2,if_pos h1]⟩,fun h1=>by rw[canF2,if_neg h1]⟩
theorem hasI_true {l:List Int} {x:Int} (h:hasI l x=true):x ∈ l:=hasI_iff.1 h
theorem hasI_false {l:List Int} {x:Int} (h:hasI l x=false):x ∉ l:=hasI_no.1 h
abbrev idleE (es:List Int) (n:Nat):List Int:=numsP (fun l => !decide (l ∈ es)) n
def allE (b:Big):List Int:=(canonA b).s.es++idleE (canonA b).s.es b.edges.toNat
def canNode (b:Big) (k:Int):GNode:=⟨(at' b.nodes k).control,canF2 (at' b.nodes k).parent (ordC b).2,(at' b.nodes k).links.map fun l=>canF1 l b (allE b)⟩
def canonZ (b:Big):Big:=⟨b.roots,(canonA b).order.map (canNode b),b.sites.map (fun p=>canF2 p (ordC b).2),b.edges,b.outer,b.inner.map fun w=>⟨w.name,canF1 w.link b (allE b)⟩⟩
abbrev canonZ_pre (b:Big):Prop:=∃ sig,ValidB sig b
def canonZ_wp (b:Big) (Z:Big→Prop):Prop:=
 (ordC_pre b)∧∀ r6:(List Int) × CoderV,r6=ordC b→(cloneZ_pre r6.2.edges)∧∀ r17:List Int,r17=cloneZ r6.2.edges→loopW (σ:=Int × (List Int)) (fun (v36,l37) K41=>∀ c42:Bool,c42=decide (v36<b.edges)→((c42=true→(l37.length≤1048576)∧∀ r45:Bool,r45=hasI l37 v36→((r45=true→(I64 (v36+1))∧∀ v61:Int,v61=v36+1→K41 (v61,l37))∧(r45=false→(l37.length+1≤1073741824)∧∀ l47:List Int,l47=l37++[v36]→(I64 (v36+1))∧∀ v58:Int,v58=v36+1→K41 (v58,l47))))∧(c42=false→(cloneS_pre b.outer)∧∀ r66:List Str,r66=cloneS b.outer→∀ len77:Int,len77=(r6.1.length:Int)→loopW (σ:=Int × (List GNode)) (fun (v101,l102) K110=>∀ c111:Bool,c111=decide (v101<len77)→((c111=true→(0≤v101∧v101<r6.1.length)∧∀ x114:Int,x114=at' r6.1 v101→(0≤x114∧x114<b.nodes.length)∧∀ x123:GNode,x123=at' b.nodes x114→(0≤x114∧x114<b.nodes.length)∧∀ x126:GNode,x126=at' b.nodes x114→(canF2_pre x123.parent r6.2)∧∀ r130:Int,r130=canF2 x123.parent r6.2→(0≤x114∧x114<b.nodes.length)∧∀ x144:GNode,x144=at' b.nodes x114→∀ len146:Int,len146=(x144.links.length:Int)→loopW (σ:=Int × (List Int)) (fun (v173,l174) K183=>∀ c184:Bool,c184=decide (v173<len146)→((c184=true→(0≤v173∧v173<x144.links.length)∧∀ x187:Int,x187=at' x144.links v173→(canF1_pre x187 b l37)∧∀ r190:Int,r190=canF1 x187 b l37→(l174.length+1≤1073741824)∧∀ l192:List Int,l192=l174++[r190]→(I64 (v173+1))∧∀ v208:Int,v208=v173+1→K183 (v208,l192))∧(c184=false→(l102.length+1≤1073741824)∧∀ l211:List GNode,l211=l102++[(GNode.mk x123.control r130 l174)]→(I64 (v101+1))∧∀ v226:Int,v226=v101+1→K110 (v226,l211)))) (0,([]:List Int)))∧(c111=false→∀ len228:Int,len228=(b.sites.length:Int)→loopW (σ:=Int × (List Int)) (fun (v245,l246) K254=>∀ c255:Bool,c255=decide (v245<len228)→((c255=true→(0≤v245∧v245<b.sites.length)∧∀ x258:Int,x258=at' b.sites v245→(canF2_pre x258 r6.2)∧∀ r261:Int,r261=canF2 x258 r6.2→(l246.length+1≤1073741824)∧∀ l263:List Int,l263=l246++[r261]→(I64 (v245+1))∧∀ v278:Int,v278=v245+1→K254 (v278,l263))∧(c255=false→∀ len280:Int,len280=(b.inner.length:Int)→loopW (σ:=Int × (List Wire)) (fun (v297,l298) K306=>∀ c307:Bool,c307=decide (v297<len280)→((c307=true→(0≤v297∧v297<b.inner.length)∧∀ x310:Wire,x310=at' b.inner v297→(canF1_pre x310.link b l37)∧∀ r320:Int,r320=canF1 x310.link b l37→(l298.length+1≤1073741824)∧∀ l322:List Wire,l322=l298++[(Wire.mk x310.name r320)]→(I64 (v297+1))∧∀ v337:Int,v337=v297+1→K306 (v337,l322))∧(c307=false→Z (Big.mk b.roots l102 l246 b.edges r66 l298)))) (0,([]:List Wire))))) (0,([]:List Int))))) (0,([]:List GNode))))) (0,r17)
theorem canonZ_vc (b:Big) (h:canonZ_pre b):canonZ_wp b (fun y=>y=canonZ b):=by
 unfold canonZ_wp
 obtain⟨sig,hv⟩:=h
 have hc:=canO hv
 have hn:=hv.len
 have he:=hv.edges
 have ho:=hv.outer
 have hi:=hv.inner
 have hs:=hv.slen
 have hel:(canonA b).s.es.length≤b.edges.toNat:=nums_len hc.es.nd fun x hx=>by have:=hc.es.rng x hx;omega
 have hal:∀ k≤b.edges.toNat,((canonA b).s.es++idleE (canonA b).s.es k).length≤16:=fun k hk=>by
  have:(idleE (canonA b).s.es k).length≤k:=numsP_len (fun l => !decide (l ∈ (canonA b).s.es)) k
  simp only[List.length_append];omega
 simp only[forall_eq,decide_eq_true_eq,decide_eq_false_iff_not]
 refine⟨⟨sig,hv⟩,by simp only[cloneZ_pre];omega,?_⟩
 refine loopW.upL b.edges.toNat (fun k t=>t=(canonA b).s.es++idleE (canonA b).s.es k) _ (by simp[numsP,cloneZ]) ?_
 rintro k _ K hk rfl IH
 dsimp only
 have hak:=hal k hk
 refine⟨fun hc1=>⟨by omega,fun hc2=>?_,fun hc2=>?_⟩,fun hc1=>?_⟩
 ·have hk2:k<b.edges.toNat:=by omega
  refine⟨by simp only[I64];omega,IH hk2 _ ?_⟩
  have h3:(k:Int) ∈ (canonA b).s.es:=by
   rcases List.mem_append.1 (hasI_true hc2) with h3 | h3
   ·exact h3
   ·have:=(mem_numsP _).1 h3;omega
  rw[idleE,idleE,numsP_no _ (by simpa using h3)]
 ·have hk2:k<b.edges.toNat:=by omega
  have h3:(k:Int) ∉ (canonA b).s.es:=fun h3=>by
   exact hasI_false hc2 (List.mem_append_left _ h3)
  refine⟨by omega,by simp only[I64];omega,IH hk2 _ ?_⟩
  rw[idleE,idleE,numsP_yes _ (by simpa using h3),List.append_assoc]
 ·obtain rfl:k=b.edges.toNat:=by omega
  have hE:(canonA b).s.es++idleE (canonA b).s.es b.edges.toNat=allE b:=rfl
  have hal2:(allE b).length≤16:=by rw[← hE];exact hak
  rw[hE]
  have hpl:=hc.pl
  refine⟨by simp only[cloneS_pre];omega,?_⟩
  refine loopW.upL (canonA b).order.length (fun k t=>t=((canonA b).order.take k).map (canNode b)) [] (by simp) ?_
  rintro k _ K2 hk2 rfl IH2
  dsimp only
  have hkl:(((canonA b).order.take k).map (canNode b)).length=k:=by simp;omega
  have hol:=hc.len
  refine⟨fun hc1=>?_,fun hc1=>?_⟩
  ·have hk3:k<(canonA b).order.length:=by omega
   rw[at_lt hk3]
   have hm:=List.getElem_mem hk3
   have hr:=hc.rng _ hm
   have hp:=hv.parAt hr
   have hl3:=hv.links3 hr
   have e0:((canonA b).order.take (k+1)).map (canNode b)=((canonA b).order.take k).map (canNode b)++[canNode b (canonA b).order[k]]:=by rw[List.take_succ_eq_append_getElem hk3,List.map_append];rfl
   refine⟨⟨by omega,by omega⟩,hr,hr,by simp only[canF2_pre];omega,hr,?_⟩
   refine loopW.upL (at' b.nodes (canonA b).order[k]).links.length (fun j t=>t=((at' b.nodes (canonA b).order[k]).links.take j).map fun l=>canF1 l b (allE b)) [] (by simp) ?_
   rintro j _ K3 hj rfl IH3
   dsimp only
   generalize hL:(at' b.nodes (canonA b).order[k]).links=L at *
   refine⟨fun hc3=>?_,fun hc3=>?_⟩
   ·have hj2:j<L.length:=by omega
    rw[at_lt hj2]
    have e:=List.take_succ_eq_append_getElem hj2
    refine⟨⟨by omega,by omega⟩,by simp only[canF1_pre];omega,by simp;omega,by simp only[I64];omega,IH3 hj2 _ ?_⟩
    rw[e,List.map_append];rfl
   ·refine⟨by omega,by simp only[I64];omega,IH2 hk3 _ ?_⟩
    rw[e0,canNode,hL,show j=L.length by omega,List.take_length]
  ·obtain rfl:k=(canonA b).order.length:=by omega
   rw[List.take_length]
   refine loopW.upL b.sites.length (fun k t=>t=(b.sites.take k).map fun p=>canF2 p (ordC b).2) [] (by simp) ?_
   rintro k _ K3 hk3 rfl IH3
   dsimp only
   have hsl:((b.sites.take k).map fun p=>canF2 p (ordC b).2).length=k:=by simp;omega
   refine⟨fun hc3=>?_,fun hc3=>?_⟩
   ·have hk4:k<b.sites.length:=by omega
    rw[at_lt hk4]
    have hp:=hv.sites _ (List.getElem_mem hk4)
    refine⟨⟨by omega,by omega⟩,by simp only[canF2_pre];omega,by simp;omega,by simp only[I64];omega,IH3 hk4 _ ?_⟩
    rw[List.take_succ_eq_append_getElem hk4,List.map_append];rfl
   ·obtain rfl:k=b.sites.length:=by omega
    rw[List.take_length]
    refine loopW.upL b.inner.length (fun k t=>t=(b.inner.take k).map fun w=>(⟨w.name,canF1 w.link b (allE b)⟩:Wire)) [] (by simp) ?_
    rintro k _ K4 hk4 rfl IH4
    dsimp only
    have hwl:((b.inner.take k).map fun w=>(⟨w.name,canF1 w.link b (allE b)⟩:Wire)).length=k:=by simp;omega
    refine⟨fun hc4=>?_,fun hc4=>?_⟩
    ·have hk5:k<b.inner.length:=by omega
     rw[at_lt hk5]
     refine⟨⟨by omega,by omega⟩,by simp only[canF1_pre];omega,by omega,by simp only[I64];omega,IH4 hk5 _ ?_⟩
     rw[List.take_succ_eq_append_getElem hk5,List.map_append];rfl
    ·obtain rfl:k=b.inner.length:=by omega
     rw[List.take_length]
     rfl
theorem cntP_hit {p:Int→Bool}:∀ {n:Nat} {m:Int},0≤m∧m<cntP p n→∃ j:Nat,j<n∧p j=true∧cntP p j=m
 | 0,m,h=>by simp[cntP,numsP] at h;omega
 | n+1,m,h=>by
  cases hp:p n
  ·rw[cntP_no p hp] at h
   obtain⟨j,h1,h2⟩:=cntP_hit h
   exact⟨j,by omega,h2⟩
  ·rw[cntP_yes p hp] at h
   by_cases he:m=cntP p n
   ·exact⟨n,by omega,hp,he.symm⟩
   ·obtain⟨j,h1,h2⟩:=cntP_hit (p:=p) (n:=n) (m:=m) (by omega)
    exact⟨j,by omega,h2⟩
abbrev negP (l:List Int) (i:Int):Bool:=decide (at' l i<0)
def fillV (l:List Int) (i:Int):Int:=if at' l i<0 then cntZ l+cntP (negP l) i.toNat else at' l i
def fillZ (l:List Int):List Int:=(List.range l.length).map fun i:Nat=>fillV l i
structure fillZ_pre (l:List Int):Prop where
 len:l.length≤8
 all:∀ v:Int,0≤v→(v ∈ l↔v<cntZ l)
def fillZ_wp (edges:List Int) (Z:(List Int)→Prop):Prop:=
 (ownZ_pre edges)∧∀ r3:List Int,r3=ownZ edges→loopW (σ:=Int × Int × (List Int)) (fun (nextV22,i23,l24) K28=>∀ len29:Int,len29=(l24.length:Int)→∀ c31:Bool,c31=decide (i23<len29)→((c31=true→(0≤i23∧i23<l24.length)∧∀ x38:Int,x38=at' l24 i23→∀ c41:Bool,c41=decide (x38<0)→((c41=true→loopW (σ:=Int) (fun nextV46 K50=>(l24.length≤1048576)∧∀ r52:Bool,r52=hasI l24 nextV46→((r52=true→(I64 (nextV46+1))∧∀ v54:Int,v54=nextV46+1→K50 (v54))∧(r52=false→(0≤i23∧i23<l24.length)∧∀ x61:Int,x61=at' l24 i23→∀ l64:List Int,l64=l24.set i23.toNat nextV46→(I64 (i23+1))∧∀ v71:Int,v71=i23+1→K28 (nextV46,v71,l64)))) (nextV22))∧(c41=false→(I64 (i23+1))∧∀ v74:Int,v74=i23+1→K28 (nextV22,v74,l24))))∧(c31=false→Z l24))) (0,0,r3)
theorem fillZ_vc (l:List Int) (h:fillZ_pre l):fillZ_wp l (fun y=>y=fillZ l):=by
 unfold fillZ_wp
 obtain⟨hl,ha⟩:=h
 simp only[forall_eq,decide_eq_true_eq,decide_eq_false_iff_not]
 have hc0:0≤cntZ l∧cntZ l≤l.length:=by
  have:=List.length_filter_le (fun x:Int=>decide (0≤x)) l
  rw[cntZ];omega
 refine⟨by simp only[ownZ_pre];omega,?_⟩
 refine loopW.up l.length (fun s=>s.2.1) (fun k (t:Int × List Int)=>(t.1,(k:Int),t.2)) (fun _ _=>rfl) (fun k t=>(0≤t.1∧t.1≤cntZ l+cntP (negP l) k)∧t.2=(List.range l.length).map fun j:Nat=>if j<k then fillV l j else at' l j) (0,l) rfl ⟨⟨by omega,by simp[cntP,numsP];omega⟩,?_⟩ ?_
 ·refine List.ext_getElem (by simp) fun i h1 h2=>?_
  simp only[List.getElem_map,List.getElem_range,Nat.not_lt_zero,if_false]
  rw[at_lt h1]
 rintro k ⟨nx,out⟩ K hk ⟨⟨n0,n1⟩,ho⟩ IH
 dsimp only at n0 n1 ho ⊢
 have hlen:out.length=l.length:=by rw[ho];simp
 have hcp:=cntP_le (negP l) k
 refine⟨fun hc1=>?_,fun hc1=>?_⟩
 ·have hk2:k<l.length:=by omega
  have hat:at' out (k:Int)=at' l k:=by rw[at_lt (by omega)];simp[ho]
  refine⟨⟨by omega,by omega⟩,?_⟩
  rw[hat]
  refine⟨fun hc2=>?_,fun hc2=>?_⟩
  ·have hmem:∀ v:Int,0≤v→(v ∈ out↔v<cntZ l+cntP (negP l) k):=fun v hv=>by
    rw[ho,List.mem_map]
    refine⟨fun ⟨j,hj,e⟩=>?_,fun hlt=>?_⟩
    ·rw[List.mem_range] at hj
     by_cases h1:j<k
     ·rw[if_pos h1,fillV] at e
      split at e
      ·rename_i h2
       have h3:=cntP_mono (p:=negP l) (show j+1≤k by omega)
       rw[cntP_yes _ (show negP l (j:Int)=true by simpa[negP] using h2)] at h3
       rw[Int.toNat_natCast] at e
       omega
      ·have:=(ha v hv).1 (by rw[← e];exact at_mem (by omega));omega
     ·rw[if_neg h1] at e
      have:=(ha v hv).1 (by rw[← e];exact at_mem (by omega));omega
    ·by_cases h1:v<cntZ l
     ·obtain⟨j,hj,e⟩:=List.getElem_of_mem ((ha v hv).2 h1)
      refine⟨j,List.mem_range.2 hj,?_⟩
      have e1:at' l (j:Int)=v:=by rw[at_lt hj,e]
      split
      ·rw[fillV,e1,if_neg (by omega)]
      ·exact e1
     ·obtain⟨j,j1,j2,j3⟩:=cntP_hit (p:=negP l) (n:=k) (m:=v - cntZ l) ⟨by omega,by omega⟩
      refine⟨j,List.mem_range.2 (by omega),?_⟩
      rw[if_pos j1,fillV,if_pos (by simpa[negP] using j2),Int.toNat_natCast,j3];omega
   refine loopW.byM (fun nx=>0≤nx∧nx≤cntZ l+cntP (negP l) k) (fun nx=>(cntZ l+cntP (negP l) k - nx).toNat) ⟨n0,n1⟩ ?_
   rintro nx ⟨n0,n1⟩
   refine⟨by omega,fun hb=>?_,fun hb=>?_⟩
   ·have h2:=(hmem nx n0).1 (hasI_true hb)
    exact⟨by simp only[I64];omega,⟨by omega,by omega⟩,by omega⟩
   ·have h2:¬ nx<cntZ l+cntP (negP l) k:=fun h2=>hasI_false hb ((hmem nx n0).2 h2)
    have h3:nx=cntZ l+cntP (negP l) k:=by omega
    have hneg:negP l (k:Int)=true:=by simpa[negP] using hc2
    refine⟨⟨by omega,by omega⟩,by simp only[I64];omega,IH hk2 (nx,out.set (k:Int).toNat nx) ⟨⟨n0,?_⟩,?_⟩⟩
    ·rw[cntP_yes _ hneg,h3];simp only;omega
    ·simp only[ho,Int.toNat_natCast]
     rw[set_range]
     refine List.map_congr_left fun i _=>?_
     by_cases h4:i=k
     ·subst h4
      rw[if_pos rfl,if_pos (by omega),fillV,if_pos hc2,Int.toNat_natCast,h3]
     ·rw[if_neg h4]
      by_cases h5:i<k
      ·rw[if_pos h5,if_pos (by omega)]
      ·rw[if_neg h5,if_neg (by omega)]
  ·have hneg:negP l (k:Int)=false:=by simpa[negP] using hc2
   refine⟨by simp only[I64];omega,IH hk2 (nx,out) ⟨⟨n0,by rw[cntP_no _ hneg];exact n1⟩,?_⟩⟩
   simp only[ho]
   refine List.map_congr_left fun i _=>?_
   by_cases h4:i=k
   ·subst h4
    rw[if_neg (by omega),if_pos (by omega),fillV,if_neg hc2]
   ·by_cases h5:i<k
    ·rw[if_pos h5,if_pos (by omega)]
    ·rw[if_neg h5,if_neg (by omega)]
 ·rw[ho,fillZ]
  refine List.map_congr_left fun i hi=>?_
  rw[if_pos (by have:=List.mem_range.1 hi;omega)]
theorem fill_nums_pre {b:Big} {es:List Int} (h:EsOk b es):fillZ_pre (numsE b es):=by
 have he:=h.ed
 refine⟨by simp[numsE];omega,fun v hv=>?_⟩
 rw[cnt_nums h]
 simp only[numsE,List.mem_map,List.mem_range]
 refine⟨fun ⟨l,hl,e⟩=>?_,fun hlt=>?_⟩
 ·split at e
  ·rename_i hm
   have:=List.idxOf_lt_length_of_mem hm
   omega
  ·omega
 ·have hlt2:v.toNat<es.length:=by omega
  have hm:=List.getElem_mem hlt2
  have hr:=h.rng _ hm
  refine⟨es[v.toNat].toNat,by omega,?_⟩
  rw[show ((es[v.toNat].toNat:Nat):Int)=es[v.toNat] by omega,if_pos hm,h.nd.idxOf_getElem]
  omega
theorem fill_nums {b:Big} {es:List Int} (h:EsOk b es) {l:Int} (hl:0≤l∧l<b.edges):at' (fillZ (numsE b es)) l=indexZ (es++idleE es b.edges.toNat) l:=by
 have he:=h.ed
 have hln:(numsE b es).length=b.edges.toNat:=by simp[numsE]
 have e0:at' (fillZ (numsE b es)) l=fillV (numsE b es) l:=by
  obtain⟨n,rfl⟩:∃ n:Nat,l=n:=⟨l.toNat,by omega⟩
  rw[at_lt (by simp[fillZ,hln];omega)]
  simp[fillZ]
 rw[e0,fillV,numsE_at hl,indexZ]
 by_cases hm:l ∈ es
 ·rw[if_pos hm,if_neg (by omega),if_pos (by simp[hm]),List.idxOf_append,if_pos hm]
 ·have hi:l ∈ idleE es b.edges.toNat:=(mem_numsP _).2 ⟨by omega,by simpa using hm⟩
  have e1:(((idleE es b.edges.toNat).idxOf l:Nat):Int)=cntP (fun l => !decide (l ∈ es)) l.toNat:=by
   have:=index_nums _ hi
   rwa [indexI,if_pos hi] at this
  rw[if_neg hm,if_pos (by omega),if_pos (by simp[hi]),List.idxOf_append,if_neg hm,cnt_nums h]
  have e2:cntP (negP (numsE b es)) l.toNat=cntP (fun l => !decide (l ∈ es)) l.toNat:=by
   rw[cntP,cntP,numsP_congr fun x h0 h1=>?_]
   rw[negP,numsE_at (by omega)]
   by_cases hx:x ∈ es
   ·rw[if_pos hx];simp[hx]
   ·rw[if_neg hx];simp[hx]
  rw[e2,← e1]
  omega
abbrev l2Tie_pre (b:Big) (l:Int) (es:List Int):Prop:=0≤l∧(l<b.edges→l<es.length)
abbrev l2Tie (b:Big) (l:Int) (es:List Int):Int:=if l ≥ b.edges then l else at' es l
def l2Tie_wp (b:Big) (link:Int) (edges:List Int) (Z:Int→Prop):Prop:=
 ∀ c4:Bool,c4=decide (b.edges≤link)→((c4=true→Z link)∧(c4=false→(0≤link∧link<edges.length)∧∀ x7:Int,x7=at' edges link→Z x7))
theorem l2Tie_vc (b:Big) (l:Int) (es:List Int) (h:l2Tie_pre b l es):l2Tie_wp b l es (fun y=>y=l2Tie b l es):=by
 unfold l2Tie_wp
 simp only[forall_eq,decide_eq_true_eq,decide_eq_false_iff_not]
 exact⟨fun h1=>by rw[l2Tie,if_pos h1],fun h1=>⟨⟨h.1,h.2 (by omega)⟩,by rw[l2Tie,if_neg h1]⟩⟩
abbrev l2Move_pre (p:Int) (to:List Int):Prop:=p<to.length
abbrev l2Move (p:Int) (to:List Int):Int:=if p<0 then p else at' to p
def l2Move_wp (parent:Int) (to_:List Int) (Z:Int→Prop):Prop:=
 ∀ c2:Bool,c2=decide (parent<0)→((c2=true→Z parent)∧(c2=false→(0≤parent∧parent<to_.length)∧∀ x5:Int,x5=at' to_ parent→Z x5))
theorem l2Move_vc (p:Int) (to:List Int) (h:l2Move_pre p to):l2Move_wp p to (fun y=>y=l2Move p to):=by
 unfold l2Move_wp
 simp only[forall_eq,decide_eq_true_eq,decide_eq_false_iff_not]
 exact⟨fun h1=>by rw[l2Move,if_pos h1],fun h1=>⟨⟨by omega,h⟩,by rw[l2Move,if_neg h1]⟩⟩
def renNode (b:Big) (to edges:List Int) (k:Int):GNode:=⟨(at' b.nodes k).control,l2Move (at' b.nodes k).parent to,(at' b.nodes k).links.map fun l=>l2Tie b l edges⟩
def renAt (b:Big) (to edges:List Int):Nat→List GNode
 | 0=>List.replicate b.nodes.length default
 | k+1=>(renAt b to edges k).set (at' to (k:Int)).toNat (renNode b to edges k)
theorem renAt_len (b:Big) (to edges:List Int):∀ k,(renAt b to edges k).length=b.nodes.length
 | 0=>by simp[renAt]
 | k+1=>by simp[renAt,renAt_len b to edges k]
def renumZ (b:Big) (to edges:List Int):Big:=⟨b.roots,renAt b to edges b.nodes.length,b.sites.map (fun p=>l2Move p to),b.edges,b.outer,b.inner.map fun w=>⟨w.name,l2Tie b w.link edges⟩⟩
structure renumZ_pre (b:Big) (to edges:List Int):Prop where
 v:∃ sig,ValidB sig b
 l:to.length=b.nodes.length
 r:∀ k ∈ to,0≤k∧k<b.nodes.length
 e:edges.length=b.edges.toNat
def renumZ_wp (b:Big) (to_:List Int) (edges:List Int) (Z:Big→Prop):Prop:=
 ∀ len6:Int,len6=(b.nodes.length:Int)→(0≤len6∧len6≤1073741824)∧∀ l9:List GNode,l9=List.replicate len6.toNat default→(([]:List Str).length+b.outer.length≤1073741824)∧∀ l13:List Str,l13=([]:List Str)++b.outer→loopW (σ:=Int × (List GNode)) (fun (i339,l340) K345=>∀ len346:Int,len346=(b.nodes.length:Int)→∀ c348:Bool,c348=decide (i339<len346)→((c348=true→loopW (σ:=Int × (List Int)) (fun (k366,l367) K373=>(0≤i339∧i339<b.nodes.length)∧∀ x375:GNode,x375=at' b.nodes i339→∀ len377:Int,len377=(x375.links.length:Int)→∀ c379:Bool,c379=decide (k366<len377)→((c379=true→(0≤i339∧i339<b.nodes.length)∧∀ x382:GNode,x382=at' b.nodes i339→(0≤k366∧k366<x375.links.length)∧∀ x386:Int,x386=at' x375.links k366→(l2Tie_pre b x386 edges)∧∀ r389:Int,r389=l2Tie b x386 edges→(l367.length+1≤1073741824)∧∀ l391:List Int,l391=l367++[r389]→(I64 (k366+1))∧∀ v403:Int,v403=k366+1→K373 (v403,l391))∧(c379=false→(0≤i339∧i339<to_.length)∧∀ x406:Int,x406=at' to_ i339→(0≤i339∧i339<b.nodes.length)∧∀ x409:GNode,x409=at' b.nodes i339→(0≤i339∧i339<b.nodes.length)∧∀ x413:GNode,x413=at' b.nodes i339→(l2Move_pre x375.parent to_)∧∀ r417:Int,r417=l2Move x375.parent to_→(0≤x406∧x406<l340.length)∧∀ x420:GNode,x420=at' l340 x406→∀ l439:List GNode,l439=l340.set x406.toNat (GNode.mk x375.control r417 l367)→(I64 (i339+1))∧∀ v447:Int,v447=i339+1→K345 (v447,l439)))) (0,([]:List Int)))∧(c348=false→loopW (σ:=Int × (List Int)) (fun (i468,l469) K476=>∀ len477:Int,len477=(b.sites.length:Int)→∀ c479:Bool,c479=decide (i468<len477)→((c479=true→(0≤i468∧i468<b.sites.length)∧∀ x482:Int,x482=at' b.sites i468→(l2Move_pre x482 to_)∧∀ r485:Int,r485=l2Move x482 to_→(l469.length+1≤1073741824)∧∀ l487:List Int,l487=l469++[r485]→(I64 (i468+1))∧∀ v501:Int,v501=i468+1→K476 (v501,l487))∧(c479=false→loopW (σ:=Int × (List Wire)) (fun (i516,l517) K524=>∀ len525:Int,len525=(b.inner.length:Int)→∀ c527:Bool,c527=decide (i516<len525)→((c527=true→(0≤i516∧i516<b.inner.length)∧∀ x530:Wire,x530=at' b.inner i516→(0≤i516∧i516<b.inner.length)∧∀ x533:Wire,x533=at' b.inner i516→(l2Tie_pre b x530.link edges)∧∀ r537:Int,r537=l2Tie b x530.link edges→(l517.length+1≤1073741824)∧∀ l539:List Wire,l539=l517++[(Wire.mk x530.name r537)]→(I64 (i516+1))∧∀ v553:Int,v553=i516+1→K524 (v553,l539))∧(c527=false→Z (Big.mk b.roots l340 l469 b.edges l13 l517)))) (0,([]:List Wire))))) (0,([]:List Int))))) (0,l9)
theorem renumZ_vc (b:Big) (to edges:List Int) (h:renumZ_pre b to edges):renumZ_wp b to edges (fun y=>y=renumZ b to edges):=by
 unfold renumZ_wp
 obtain⟨⟨sig,hv⟩,hl,hr,he⟩:=h
 have hn:=hv.len
 have hed:=hv.edges
 have ho:=hv.outer
 have hi:=hv.inner
 have hs:=hv.slen
 simp only[forall_eq,decide_eq_true_eq,decide_eq_false_iff_not]
 refine⟨by omega,by simp;omega,?_⟩
 refine loopW.upL b.nodes.length (fun k t=>t=renAt b to edges k) _ (by simp[renAt]) ?_
 rintro k _ K hk rfl IH
 dsimp only
 have hkl:=renAt_len b to edges k
 refine⟨fun hc1=>?_,fun hc1=>?_⟩
 ·have hk2:k<b.nodes.length:=by omega
  have hkr:0≤(k:Int)∧(k:Int)<b.nodes.length:=by omega
  have hl3:=hv.links3 hkr
  have hla:=hv.linksAt hkr
  have hp:=hv.parAt hkr
  have ht:=hr (at' to (k:Int)) (at_mem (by omega))
  refine loopW.upL (at' b.nodes (k:Int)).links.length (fun j t=>t=((at' b.nodes (k:Int)).links.take j).map fun l=>l2Tie b l edges) [] (by simp) ?_
  rintro j _ K3 hj rfl IH3
  dsimp only
  refine⟨hkr,fun hc3=>?_,fun hc3=>?_⟩
  ·have hj2:j<(at' b.nodes (k:Int)).links.length:=by omega
   rw[at_lt hj2]
   have e:=List.take_succ_eq_append_getElem hj2
   have hm:=hla _ (List.getElem_mem hj2)
   refine⟨hkr,⟨by omega,by omega⟩,⟨by omega,fun _=>by omega⟩,by simp;omega,by simp only[I64];omega,IH3 hj2 _ ?_⟩
   rw[e,List.map_append];rfl
  ·obtain rfl:j=(at' b.nodes (k:Int)).links.length:=by omega
   rw[List.take_length]
   refine⟨by omega,hkr,hkr,by simp only[l2Move_pre];omega,by omega,by simp only[I64];omega,IH hk2 _ ?_⟩
   rfl
 ·obtain rfl:k=b.nodes.length:=by omega
  refine loopW.upL b.sites.length (fun k t=>t=(b.sites.take k).map fun p=>l2Move p to) [] (by simp) ?_
  rintro k _ K3 hk3 rfl IH3
  dsimp only
  refine⟨fun hc3=>?_,fun hc3=>?_⟩
  ·have hk4:k<b.sites.length:=by omega
   rw[at_lt hk4]
   have hp:=hv.sites _ (List.getElem_mem hk4)
   refine⟨⟨by omega,by omega⟩,by simp only[l2Move_pre];omega,by simp;omega,by simp only[I64];omega,IH3 hk4 _ ?_⟩
   rw[List.take_succ_eq_append_getElem hk4,List.map_append];rfl
  ·obtain rfl:k=b.sites.length:=by omega
   rw[List.take_length]
   refine loopW.upL b.inner.length (fun k t=>t=(b.inner.take k).map fun w=>(⟨w.name,l2Tie b w.link edges⟩:Wire)) [] (by simp) ?_
   rintro k _ K4 hk4 rfl IH4
   dsimp only
   refine⟨fun hc4=>?_,fun hc4=>?_⟩
   ·have hk5:k<b.inner.length:=by omega
    rw[at_lt hk5]
    have hw:=hv.wires _ (List.getElem_mem hk5)
    refine⟨⟨by omega,by omega⟩,⟨by omega,by omega⟩,⟨by omega,fun _=>by omega⟩,by simp;omega,by simp only[I64];omega,IH4 hk5 _ ?_⟩
    rw[List.take_succ_eq_append_getElem hk5,List.map_append];rfl
   ·obtain rfl:k=b.inner.length:=by omega
    rw[List.take_length]
    rfl
theorem at_map {α β:Type} [Inhabited α] [Inhabited β] {l:List α} (f:α→β) {k:Int} (h:0≤k∧k<l.length):at' (l.map f) k=f (at' l k):=by
 obtain⟨n,rfl⟩:∃ n:Nat,k=n:=⟨k.toNat,by omega⟩
 rw[at_lt (by simp;omega),at_lt (show n<l.length by omega),List.getElem_map]
theorem at_setG {α:Type} [Inhabited α] {l:List α} {v:α} {i j:Int} (hj:0≤j) (hi:0≤i∧i<l.length):at' (l.set i.toNat v) j=if j=i then v else at' l j:=by
 obtain⟨n,rfl⟩:∃ n:Nat,j=n:=⟨j.toNat,by omega⟩
 simp only[at',Int.toNat_natCast,List.getElem?_set,List.getD_eq_getElem?_getD]
 by_cases h:(n:Int)=i
 ·subst h;rw[Int.toNat_natCast,if_pos rfl,if_pos rfl,if_pos (by omega)];rfl
 ·rw[if_neg h,if_neg (by omega)]
theorem ext_at {α:Type} [Inhabited α] {l m:List α} (hl:l.length=m.length) (h:∀ k:Nat,k<l.length→at' l (k:Int)=at' m (k:Int)):l=m:=by
 refine List.ext_getElem hl fun i h1 h2=>?_
 have:=h i h1
 rwa [at_lt h1,at_lt h2] at this
theorem renAt_order {b:Big} {to edges order:List Int} (hn:order.length=b.nodes.length) (hr:∀ k ∈ order,0≤k∧k<b.nodes.length) (ht:∀ k:Int,0≤k∧k<b.nodes.length→(0≤at' to k∧at' to k<b.nodes.length)∧at' order (at' to k)=k) (hp:∀ i:Nat,i<b.nodes.length→at' to (at' order (i:Int))=i) :
  renAt b to edges b.nodes.length=order.map (renNode b to edges):=by
 have h:∀ m≤b.nodes.length,∀ i:Nat,i<b.nodes.length→at' (renAt b to edges m) (i:Int)=if at' order (i:Int)<m then renNode b to edges (at' order (i:Int)) else default:=by
  intro m
  induction m with
  | zero=>
   intro _ i hi
   have h1:=hr _ (at_mem (l:=order) (i:=(i:Int)) (by omega))
   rw[if_neg (by omega),renAt,at_lt (by simpa using hi),List.getElem_replicate]
  | succ m ih=>
   intro hm i hi
   have h1:=hr _ (at_mem (l:=order) (i:=(i:Int)) (by omega))
   have h2:=ht (m:Int) (by omega)
   have h3:=hp i hi
   rw[renAt,at_setG (by omega) (by rw[renAt_len];exact h2.1),ih (by omega) i hi]
   by_cases he:(i:Int)=at' to (m:Int)
   ·have h4:at' order (i:Int)=m:=by rw[he];exact h2.2
    rw[if_pos he,h4,if_pos (by omega)]
   ·have h4:at' order (i:Int) ≠ m:=fun h4=>he (by rw[← h4];exact h3.symm)
    rw[if_neg he]
    by_cases h5:at' order (i:Int)<m
    ·rw[if_pos h5,if_pos (by omega)]
    ·rw[if_neg h5,if_neg (by omega)]
 refine ext_at (by rw[renAt_len,List.length_map,hn]) fun k hk=>?_
 rw[renAt_len] at hk
 have h1:=hr _ (at_mem (l:=order) (i:=(k:Int)) (by omega))
 rw[h _ (Nat.le_refl _) k hk,if_pos h1.2,at_map _ (by omega)]
def toO (order:List Int) (n:Nat):Nat→List Int
 | 0=>List.replicate n 0
 | i+1=>(toO order n i).set (at' order (i:Int)).toNat (i:Int)
theorem toO_len (order:List Int) (n:Nat):∀ i,(toO order n i).length=n
 | 0=>by simp[toO]
 | i+1=>by simp[toO,toO_len order n i]
theorem toO_at {order:List Int} {n:Nat} (hd:order.Nodup) (hr:∀ k ∈ order,0≤k∧k<n):∀ m≤order.length,∀ i:Nat,i<m→at' (toO order n m) (at' order (i:Int))=i
 | m+1,hm,i,hi=>by
  have h1:=hr _ (at_mem (l:=order) (i:=(m:Int)) (by omega))
  have h2:=hr _ (at_mem (l:=order) (i:=(i:Int)) (by omega))
  rw[toO,at'_set h2.1 (by rw[toO_len];exact h1)]
  by_cases he:i=m
  ·subst he;rw[if_pos rfl]
  ·rw[if_neg fun e=>he ?_]
   ·exact toO_at hd hr m (by omega) i (by omega)
   ·rw[at_lt (show i<order.length by omega),at_lt (show m<order.length by omega)] at e
    exact (List.getElem_inj hd).1 e
abbrev canonS (b:Big):Big:=canonZ b
abbrev canonS_pre (b:Big):Prop:=∃ sig,ValidB sig b
def canonS_wp (b:Big) (Z:Big→Prop):Prop:=
 (l5Order_pre b)∧∀ r6:List Int,r6=l5Order b→∀ len7:Int,len7=(r6.length:Int)→(0≤len7∧len7≤1073741824)∧∀ l10:List Int,l10=List.replicate len7.toNat default→loopW (σ:=Int × (List Int)) (fun (i21,l22) K26=>∀ len27:Int,len27=(r6.length:Int)→∀ c29:Bool,c29=decide (i21<len27)→((c29=true→(0≤i21∧i21<r6.length)∧∀ x32:Int,x32=at' r6 i21→(0≤x32∧x32<l22.length)∧∀ x39:Int,x39=at' l22 x32→∀ l42:List Int,l42=l22.set x32.toNat i21→(I64 (i21+1))∧∀ v49:Int,v49=i21+1→K26 (v49,l42))∧(c29=false→(l5Code_pre b r6)∧∀ r52:(List Int) × (List Int),r52=l5Code b r6→(fillZ_pre r52.2)∧∀ r69:List Int,r69=fillZ r52.2→(renumZ_pre b l22 r69)∧∀ r71:Big,r71=renumZ b l22 r69→Z r71))) (0,l10)
theorem canonS_eq {sig:Sig} {b:Big} (hv:ValidB sig b):renumZ b (toO (canonA b).order (canonA b).order.length (canonA b).order.length) (fillZ (numsE b (canonA b).s.es))=canonZ b:=by
 have hc:=canO hv
 have hn:=hc.len
 rw[hn]
 have hp:∀ i:Nat,i<b.nodes.length→at' (toO (canonA b).order b.nodes.length b.nodes.length) (at' (canonA b).order (i:Int))=i:=fun i hi=>toO_at hc.nd hc.rng _ (by omega) i hi
 have hat:∀ k:Int,0≤k∧k<b.nodes.length→at' (toO (canonA b).order b.nodes.length b.nodes.length) k=(((canonA b).order.idxOf k:Nat):Int):=fun k hk=>by
  have hm:=hc.mem hk
  have hi:=List.idxOf_lt_length_of_mem hm
  have:=hp _ (by rw[← hn];exact hi)
  rwa [at_lt hi,List.getElem_idxOf] at this
 have hpar:∀ p:Int,p<b.nodes.length→l2Move p (toO (canonA b).order b.nodes.length b.nodes.length)=canF2 p (ordC b).2:=fun p hp2=>by
  by_cases h0:0≤p
  ·rw[l2Move,if_neg (by omega),canF2,if_pos h0,hat p ⟨h0,hp2⟩]
   exact (hc.at ⟨h0,hp2⟩).symm
  ·rw[l2Move,if_pos (by omega),canF2,if_neg h0]
 have htie:∀ l:Int,0≤l→l2Tie b l (fillZ (numsE b (canonA b).s.es))=canF1 l b (allE b):=fun l h0=>by
  by_cases h1:l ≥ b.edges
  ·rw[l2Tie,if_pos h1,canF1,if_pos h1]
  ·rw[l2Tie,if_neg h1,canF1,if_neg h1,fill_nums hc.es ⟨h0,by omega⟩];rfl
 rw[renumZ,canonZ,renAt_order hn hc.rng (fun k hk=>?_) hp]
 ·congr 1
  ·refine List.map_congr_left fun k hk=>?_
   have hr:=hc.rng k hk
   rw[renNode,canNode,hpar _ (by have:=hv.parAt hr;omega)]
   congr 1
   exact List.map_congr_left fun l hl=>htie l (hv.linksAt hr l hl).1
  ·exact List.map_congr_left fun p hp2=>hpar p (hv.sites p hp2).2
  ·refine List.map_congr_left fun w hw=>?_
   rw[htie _ (hv.wires w hw).1]
 ·rw[hat k hk]
  have hm:=hc.mem hk
  have hi:=List.idxOf_lt_length_of_mem hm
  refine⟨by omega,?_⟩
  rw[at_lt hi,List.getElem_idxOf]
theorem canonS_vc (b:Big) (h:canonS_pre b):canonS_wp b (fun y=>y=canonS b):=by
 unfold canonS_wp
 obtain⟨sig,hv⟩:=h
 have hc:=canO hv
 have hn:=hv.len
 have hed:=hv.edges
 have hcl:=hc.len
 simp only[forall_eq,decide_eq_true_eq,decide_eq_false_iff_not,l5Order]
 refine⟨⟨sig,hv⟩,by omega,?_⟩
 refine loopW.upL (canonA b).order.length (fun k t=>t=toO (canonA b).order (canonA b).order.length k) _ (by simp[toO]) ?_
 rintro k _ K hk rfl IH
 dsimp only
 refine⟨fun hc1=>?_,fun hc1=>?_⟩
 ·have hk2:k<(canonA b).order.length:=by omega
  have hr:=hc.rng _ (at_mem (l:=(canonA b).order) (i:=(k:Int)) (by omega))
  exact⟨by omega,by rw[toO_len];omega,by simp only[I64];omega,IH hk2 _ rfl⟩
 ·obtain rfl:k=(canonA b).order.length:=by omega
  have hnl:(numsE b (canonA b).s.es).length=b.edges.toNat:=by simp[numsE]
  refine⟨⟨⟨sig,hv⟩,by omega,hc.rng⟩,?_⟩
  rw[hc.code]
  refine⟨fill_nums_pre hc.es,⟨⟨sig,hv⟩,by rw[toO_len,hcl],fun k hk=>?_,by simp[fillZ,hnl]⟩,canonS_eq hv⟩
  obtain⟨i,hi,rfl⟩:=List.getElem_of_mem hk
  rw[toO_len] at hi
  have hm:=hc.mem (k:=(i:Int)) (by omega)
  have hx:=List.idxOf_lt_length_of_mem hm
  have:=toO_at hc.nd (n:=(canonA b).order.length) (fun k hk=>by have:=hc.rng k hk;omega) _ (Nat.le_refl _) _ hx
  rw[at_lt hx,List.getElem_idxOf,at_lt (by rw[toO_len];exact hi)] at this
  omega
end Go.Ab.Vg
/- When two structs or arrays of plain cells are equal: for this program's types. -/
namespace Go.Ab.Vg
set_option linter.unusedSimpArgs false
set_option linter.unusedVariables false
end Go.Ab.Vg
