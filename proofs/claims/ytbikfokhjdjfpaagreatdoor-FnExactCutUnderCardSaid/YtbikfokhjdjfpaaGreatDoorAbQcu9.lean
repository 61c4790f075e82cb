/- Merged texts (9 of 18) of the proof that ends in Cuy: Rp Rb Md St Mu Yb Co Mp Em Se Sd Sg Na Nc. -/
import Derived.Test.YtbikfokhjdjfpaaGreatDoorAbQcu8
/- Readers of the laws' arguments: processes. -/
namespace Go.Proofs.YtbikfokhjdjfpaaGreatDoor
open Go.ChangeShapes Go.WideShapes Go.ChangeAt Go.RowKit Go.Ab
set_option maxRecDepth 100000
theorem own:ownKnob Tryz.prog.godebug=none:=by kernel_rfl
theorem laidOut:laidOutB Tryz.prog=true:=by kernel_rfl
theorem underBool:Tryz.prog.underlying 4=some .bool:=Tryz.underlying4
end Go.Proofs.YtbikfokhjdjfpaaGreatDoor
/- Readers of the laws' arguments: signatures and bigraphs. -/
namespace Go.Proofs.YtbikfokhjdjfpaaGreatDoor
open Go.ChangeShapes Go.WideShapes Go.ChangeAt Go.RowKit Go.Ab
set_option maxRecDepth 100000
theorem rControl:Reader Tryz.prog 63 Control.cells (fun x=>x.name.length≤9223372036854775807):=by
  have h:=Reader.struct Tryz.underlying63 (n:=3) (by kernel_rfl) (FReader.cons (n:=1) rfl (by kernel_rfl) (Reader.str Tryz.underlying9) (FReader.cons (n:=1) rfl (by kernel_rfl) (Reader.int Tryz.underlying3) (FReader.cons (n:=1) rfl (by kernel_rfl) (Reader.int Tryz.underlying3) (FReader.nil 3))))
  exact h.map (fun p=>⟨p.1,p.2.1,p.2.2.1⟩) (fun p=>rfl) (fun p hp=>hp.1)
theorem rWire:Reader Tryz.prog 115 Wire.cells (fun x=>x.name.length≤9223372036854775807):=by
  have h:=Reader.struct Tryz.underlying115 (n:=2) (by kernel_rfl) (FReader.cons (n:=1) rfl (by kernel_rfl) (Reader.str Tryz.underlying9) (FReader.cons (n:=1) rfl (by kernel_rfl) (Reader.int Tryz.underlying3) (FReader.nil 2)))
  exact h.map (fun p=>⟨p.1,p.2.1⟩) (fun p=>rfl) (fun p hp=>hp.1)
theorem rInts:Reader Tryz.prog 24 (fun l:List Int=>[Ab.encI false l]) (fun l=>l.length≤9223372036854775807∧∀ p ∈ l,I64 p):=
  Reader.slice Tryz.underlying24 (of_decide_eq_true (by kernel_rfl)) (Reader.int Tryz.underlying3)
theorem rStrs:Reader Tryz.prog 25 (fun l:List Str=>[Ab.encS false l]) (fun l=>l.length≤9223372036854775807∧∀ s ∈ l,s.length≤9223372036854775807):=
  Reader.slice Tryz.underlying25 (of_decide_eq_true (by kernel_rfl)) (Reader.str Tryz.underlying9)
theorem rGNode:Reader Tryz.prog 113 (GNode.cells false) (fun x=>x.links.length≤9223372036854775807∧I64 x.parent):=by
  have h:=Reader.struct Tryz.underlying113 (n:=3) (by kernel_rfl) (FReader.cons (n:=1) rfl (by kernel_rfl) (Reader.int Tryz.underlying3) (FReader.cons (n:=1) rfl (by kernel_rfl) (Reader.int Tryz.underlying3) (FReader.cons (n:=1) rfl (by kernel_rfl) rInts (FReader.nil 3))))
  exact h.map (fun p=>⟨p.1,p.2.1,p.2.2.1⟩) (fun p=>rfl) (fun p hp=>⟨hp.2.2.1.1,hp.2.1⟩)
theorem rNodes:Reader Tryz.prog 23 (fun l:List GNode=>[Ab.encN false l]) (fun l=>l.length≤9223372036854775807∧∀ x ∈ l,x.links.length≤9223372036854775807∧I64 x.parent):=
  Reader.slice Tryz.underlying23 (of_decide_eq_true (by kernel_rfl)) rGNode
theorem rWires:Reader Tryz.prog 26 (fun l:List Wire=>[Ab.encW false l]) (fun l=>l.length≤9223372036854775807∧∀ x ∈ l,x.name.length≤9223372036854775807):=
  Reader.slice Tryz.underlying26 (of_decide_eq_true (by kernel_rfl)) rWire
theorem rSig:ArgR Tryz.prog 22 (encSig false) HugeS:=by
  refine ArgR.cell (cell_slice Tryz.underlying22) ?_
  have h:=Reader.slice Tryz.underlying22 (of_decide_eq_true (by kernel_rfl)) rControl
  exact h.map (fun p=>p) (fun p=>rfl) (fun p hp=>⟨hp.1,hp.2⟩)
theorem rBigF:Reader Tryz.prog 28 (Big.cells false) HugeB:=by
  have h:=Reader.struct Tryz.underlying28 (n:=6) (by kernel_rfl) (FReader.cons (n:=1) rfl (by kernel_rfl) (Reader.int Tryz.underlying3) (FReader.cons (n:=1) rfl (by kernel_rfl) rNodes (FReader.cons (n:=1) rfl (by kernel_rfl) rInts
    (FReader.cons (n:=1) rfl (by kernel_rfl) (Reader.int Tryz.underlying3) (FReader.cons (n:=1) rfl (by kernel_rfl) rStrs (FReader.cons (n:=1) rfl (by kernel_rfl) rWires (FReader.nil 6)))))))
  exact h.map (e':=Big.cells false) (ok':=HugeB) (fun p=>⟨p.1,p.2.1,p.2.2.1,p.2.2.2.1,p.2.2.2.2.1,p.2.2.2.2.2.1⟩) (fun p=>rfl) (fun p hp=>by
    obtain⟨_,h1,h2,_,h3,h4,_⟩:=hp
    exact⟨h1.1,fun x hx=>(h1.2 x hx).1,h2.1,h3.1,h3.2,h4.1,h4.2,fun x hx=>(h1.2 x hx).2,h2.2⟩)
theorem rBig:ArgR Tryz.prog 28 (encB false) HugeB:=ArgR.struct Tryz.underlying28 rBigF
theorem rInt:ArgR Tryz.prog 3 (fun n:Int=>Ab.int n) I64:=by
  refine ArgR.cell ?_ ?_
  · exact cell_int Tryz.underlying3
  · exact Reader.int Tryz.underlying3
end Go.Proofs.YtbikfokhjdjfpaaGreatDoor
/- IsMatch, IsActiveMatch, MatchLinks (statements 12, 14, 16): the laws' own functions on matches, and the laws. -/
namespace Go.Ab.Vg
set_option linter.unusedSimpArgs false
set_option linter.unusedVariables false
abbrev EqB (x:Big):Prop:=x.nodes.length≤1048576∧(∀ z ∈ x.nodes,z.links.length≤1048576)∧x.sites.length≤1048576∧x.outer.length≤1048576∧x.inner.length≤1048576
theorem eqOf {sig:Sig} {b:Big} (h:SmallB sig b):EqB b:=⟨h.nodesLen,h.linksLen,h.sitesLen,h.outerLen,h.innerLen⟩
theorem toOf {sig:Sig} {b:Big} (h:SmallB sig b):toBigraph_pre b:=⟨⟨h.nodesLen,h.linksLen⟩,h.sitesLen,h.outerLen,h.innerLen⟩
theorem sumN_le:∀ {l:List GNode},(∀ x ∈ l,x.links.length≤1048576)→(l.map nodeSize).sum≤1048578 * l.length
  | [],_=>by simp
  | x::l,h=>by
    have h1:=sumN_le (l:=l) fun y hy=>h y (by simp[hy])
    have h2:=h x (by simp)
    simp only[List.map_cons,List.sum_cons,List.length_cons,nodeSize] at h1 ⊢
    omega
theorem markB {b:Big} (h:EqB b) (k:Int) (h0:0≤k) (hk:k≤1125899906842624):markBig_pre b k∧(k≤(markBig b k).2∧(markBig b k).2≤k+2199027449856):=by
  obtain⟨h1,h2,h3,h4,h5⟩:=h
  have hs:=sumN_le h2
  have hb:bigSize b=(b.nodes.map nodeSize).sum+b.sites.length+b.outer.length+2 * b.inner.length:=rfl
  refine⟨⟨h0,h1,h2,h3,h4,h5,by omega⟩,?_⟩
  have p1:=markNodeS_size b.nodes k
  simp only[markBig,markIntS,markStringS,markWireS,markL,p1]
  omega
end Go.Ab.Vg
/- The abstract machine, part St: rules, guards, systems. -/
namespace Go.Ab
structure Rule where
  redex:Big
  reactum:Big
  copies:List Int
  deriving Inhabited,DecidableEq
def Rule.cells (t:Bool) (r:Rule):List AVal:=[int r.redex.roots,.list t (r.redex.nodes.map (GNode.cells t)),.list t (r.redex.sites.map intC),int r.redex.edges,.list t (r.redex.outer.map strC),.list t (r.redex.inner.map Wire.cells),
  int r.reactum.roots,.list t (r.reactum.nodes.map (GNode.cells t)),.list t (r.reactum.sites.map intC),int r.reactum.edges,.list t (r.reactum.outer.map strC),.list t (r.reactum.inner.map Wire.cells),.list t (r.copies.map intC)]
structure Guard where
  zone:Int
  neg:Bool
  pattern:Big
  deriving Inhabited,DecidableEq
def Guard.cells (t:Bool) (g:Guard):List AVal:=[int g.zone,bool g.neg,int g.pattern.roots,.list t (g.pattern.nodes.map (GNode.cells t)),.list t (g.pattern.sites.map intC),int g.pattern.edges,.list t (g.pattern.outer.map strC),.list t (g.pattern.inner.map Wire.cells)]
structure Sys where
  states:List Big
  steps:List (Int × Int × Int)
  deriving Inhabited,DecidableEq
def Sys.cells (t:Bool) (x:Sys):List AVal:=[.list t (x.states.map (Big.cells t)),.list t (x.steps.map intC3)]
section
variable {H:Heap} {n:Nat}
end
end Go.Ab
/- Rules and guards: what makes them valid, and when a guard holds. -/
namespace Go.Ab.Vg
set_option linter.unusedSimpArgs false
set_option linter.unusedVariables false
def mayB (zone:Int) (agent:Big) (m:Match) (x:Int):Bool:=if zone=2 then !(underB agent m.nodes x) else if zone=3 then underB agent m.nodes x && !(hasI m.nodes x) else true
noncomputable def holdsB (g:Guard) (agent:Big) (m:Match):Bool:=((matchesB g.pattern agent).any fun o=>o.nodes.all (mayB g.zone agent m)) != g.neg
noncomputable abbrev holds (g:Guard) (agent:Big) (m:Match):Bool:=holdsB g agent m
end Go.Ab.Vg
/- Contracts of laws.toAmbNode, laws.toProcess, laws.eqAmbNode and laws.eqProcess. -/
namespace Go.Ab
open Go.Proofs
set_option linter.unusedSimpArgs false
end Go.Ab
/- Congruence of processes (statement 9): pure conditions of the functions that sort texts. -/
namespace Go.Ab.Vg
set_option linter.unusedSimpArgs false
set_option linter.unusedVariables false
abbrev sortT (l:List Str):List Str × Unit:=(l.mergeSort fun x y=>decide (x≤y),())
theorem str_total (a b:Str):a≤b∨b≤a:=List.le_total a b
end Go.Ab.Vg
/- Marks on processes: what the laws' own functions on processes do. -/
namespace Go.Ab.Vg
set_option linter.unusedSimpArgs false
set_option linter.unusedVariables false
end Go.Ab.Vg
/- Encodings of processes (statement 11). -/
namespace Go.Ab.Vg
set_option linter.unusedSimpArgs false
set_option linter.unusedVariables false
theorem str_lt_of {a b:Str} (h:a≤b) (hn:a ≠ b):a<b:=by
  by_cases hl:a<b
  · exact hl
  · exact absurd (List.le_antisymm h hl) hn
theorem str_ne {a b:Str} (h:a<b):a ≠ b:=by rintro rfl;exact List.lt_irrefl a h
theorem str_lt_trans {a b c:Str} (h:a<b) (h':b<c):a<c:=List.lt_trans h h'
theorem strict_eq {l m:List Str} (hl:l.Pairwise (·<·)) (hm:m.Pairwise (·<·)) (h:∀ x,x ∈ l↔x ∈ m):l=m:=by
  have n1:l.Nodup:=hl.imp fun h=>str_ne h
  have n2:m.Nodup:=hm.imp fun h=>str_ne h
  exact ((List.perm_ext_iff_of_nodup n1 n2).2 h).eq_of_pairwise (fun a b _ _ h h'=>absurd (str_lt_trans h h') (List.lt_irrefl a)) hl hm
theorem get_bang {d:List Str} {j:Nat} (h:j<d.length):d.toArray[j]! = d[j]:=by simp[h]
theorem compactUpTo_strict {d:List Str} (hd:d.Pairwise (·≤·)):∀ m,m≤d.length→(Go.Lib.compactUpTo d.toArray m).Pairwise (·<·)∧∀ x,x ∈ Go.Lib.compactUpTo d.toArray m↔x ∈ d.take m
  | 0,_=>by simp[Go.Lib.compactUpTo]
  | m+1,hm=>by
    obtain⟨h1,h2⟩:=compactUpTo_strict hd m (by omega)
    have hm1:m<d.length:=by omega
    have htk:d.take (m+1)=d.take m++[d[m]]:=List.take_succ_eq_append_getElem hm1
    rw[Go.Lib.compactUpTo_succ,htk]
    by_cases hk:Go.Lib.keeps d.toArray m=true
    · rw[if_pos hk]
      have hlt:∀ a ∈ d.take m,a<d[m]:=fun a ha=>by
        obtain⟨j,hj,rfl⟩:=List.getElem_of_mem ha
        have hjm:j<m:=by simp at hj;omega
        rw[List.getElem_take]
        simp only[Go.Lib.keeps,decide_eq_true_eq] at hk
        have hne:d[m] ≠ d[m - 1]:=by
          rcases hk with h | h
          · omega
          · rwa [get_bang hm1,get_bang (show m - 1<d.length by omega)] at h
        have hp:=List.pairwise_iff_getElem.1 hd
        have h3:d[m - 1]≤d[m]:=hp (m - 1) m (by omega) hm1 (by omega)
        have h4:d[m - 1]<d[m]:=str_lt_of h3 (Ne.symm hne)
        rcases Nat.lt_or_ge j (m - 1) with h5 | h5
        · exact List.lt_of_le_of_lt (hp j (m - 1) (by omega) (by omega) h5) h4
        · have:j=m - 1:=by omega
          subst this;exact h4
      refine⟨List.pairwise_append.2 ⟨h1,by simp,fun a ha b hb=>?_⟩,fun x=>?_⟩
      · simp only[List.mem_singleton,get_bang hm1] at hb
        subst hb
        exact hlt a ((h2 a).1 ha)
      · simp only[List.mem_append,h2,get_bang hm1]
    · rw[if_neg hk,List.append_nil]
      refine⟨h1,fun x=>?_⟩
      rw[h2,List.mem_append]
      refine⟨.inl,fun h=>h.elim id fun h=>?_⟩
      simp only[Go.Lib.keeps,decide_eq_true_eq,not_or,Decidable.not_not] at hk
      obtain⟨k0,k1⟩:=hk
      rw[get_bang hm1,get_bang (show m - 1<d.length by omega)] at k1
      simp only[List.mem_singleton] at h
      subst h
      rw[k1]
      exact List.mem_iff_getElem.2 ⟨m - 1,by simp;omega,by simp⟩
abbrev cloneS_pre (l:List Str):Prop:=l.length≤1048576
abbrev cloneS (l:List Str):List Str:=l
def cloneS_wp (s:List Str) (Z:(List Str)→Prop):Prop:=
  ∀ c2:Bool,(c2=true→s=[])→((c2=true→Z [])∧(c2=false→(([]:List Str).length+s.length≤1073741824)∧∀ l7:List Str,l7=([]:List Str)++s→Z l7))
theorem cloneS_vc (l:List Str) (h:cloneS_pre l):cloneS_wp l (fun y=>y=cloneS l):=by
  unfold cloneS_wp
  intro c hc
  refine⟨fun h1=>(hc h1).symm,fun _=>⟨by simp;omega,?_⟩⟩
  rintro _ rfl
  simp
abbrev compactT (l:List Str):List Str:=Go.Lib.compact l
theorem compact_le (l:List Str):(compactT l).length≤l.length:=by
  have h:(compactT l).length≤(List.range l.length).length:=by
    simp only[compactT,Go.Lib.compact,Go.Lib.compactUpTo,List.length_map]
    exact List.length_filter_le _ _
  simpa using h
abbrev sortedNames_pre (l:List Str):Prop:=l.length≤1048576
def sortedNames (l:List Str):List Str:=compactT (sortT l).1
def sortedNames_wp (l:List Str) (Z:(List Str)→Prop):Prop:=
  (cloneS_pre l)∧∀ r3:List Str,r3=cloneS l→(r3.length≤1073741824)∧∀ r14:(List Str) × Unit,r14=sortT r3→(r14.1.length≤1073741824)∧∀ r24:List Str,r24=compactT r14.1→Z r24
theorem sortedNames_vc (l:List Str) (h:sortedNames_pre l):sortedNames_wp l (fun y=>y=sortedNames l):=by
  unfold sortedNames_wp
  simp only[forall_eq,sortT,List.length_mergeSort,cloneS]
  exact⟨h,by omega,by omega,rfl⟩
theorem sortedNames_spec (l:List Str):(sortedNames l).Pairwise (·<·)∧∀ x,x ∈ sortedNames l↔x ∈ l:=by
  have h3:(sortT l).1.Pairwise (·≤·):=by
    have:=List.pairwise_mergeSort (le:=fun x y:Str=>decide (x≤y)) (fun a b c h1 h2=>by simp only[decide_eq_true_eq] at *;exact List.le_trans h1 h2) (fun a b=>by simpa using str_total a b) l
    simpa[sortT] using this
  obtain⟨h1,h2⟩:=compactUpTo_strict h3 (sortT l).1.length (Nat.le_refl _)
  refine⟨h1,fun x=>(h2 x).trans ?_⟩
  rw[List.take_length]
  exact List.mem_mergeSort
theorem sortedNames_len (l:List Str):(sortedNames l).length≤l.length:=by
  have:=compact_le (sortT l).1
  simpa[sortT,sortedNames] using this
abbrev indexS_pre (l:List Str) (_:Str):Prop:=l.length≤1048576
def indexS (l:List Str) (s:Str):Int:=if s ∈ l then (l.idxOf s:Int) else -1
theorem indexS_no {l:List Str} {s:Str} (h:∀ j<l.length,at' l (j:Int) ≠ s):indexS l s = -1:=by
  rw[indexS,if_neg]
  intro hm
  obtain⟨j,hj,he⟩:=List.getElem_of_mem hm
  exact h j hj (by rw[at_lt hj];exact he)
theorem indexS_yes {l:List Str} {s:Str} {k:Nat} (hk:k<l.length) (h:∀ j<k,at' l (j:Int) ≠ s) (he:at' l (k:Int)=s):indexS l s=k:=by
  rw[at_lt hk] at he
  have hm:s ∈ l:=he ▸ List.getElem_mem hk
  rw[indexS,if_pos hm]
  have h1:l.idxOf s<l.length:=List.idxOf_lt_length_iff.2 hm
  have h2:l[l.idxOf s]=s:=List.getElem_idxOf h1
  have h3:¬ l.idxOf s<k:=fun hlt=>h _ hlt (by rw[at_lt h1];exact h2)
  have h4:¬ k<l.idxOf s:=fun hlt=>by
    have:=List.not_of_lt_findIdx (p:=(· == s)) (xs:=l) hlt
    simp[he] at this
  omega
def indexS_wp (s:List Str) (v_:Str) (Z:Int→Prop):Prop:=
  ∀ len2:Int,len2=(s.length:Int)→loopW (σ:=Int) (fun v6 K9=>∀ c10:Bool,c10=decide (v6<len2)→((c10=true→(0≤v6∧v6<s.length)∧∀ x13:Str,x13=at' s v6→∀ c15:Bool,c15=decide (v_=x13)→((c15=true→Z v6)∧(c15=false→(I64 (v6+1))∧∀ v18:Int,v18=v6+1→K9 (v18))))∧(c10=false→Z (-1)))) (0)
theorem indexS_vc (l:List Str) (s:Str) (h:indexS_pre l s):indexS_wp l s (fun y=>y=indexS l s):=by
  unfold indexS_wp
  rintro _ rfl
  refine loopW.up1 l.length (fun k=>∀ j<k,at' l (j:Int) ≠ s) (by simp) ?_
  rintro k K hk hI IH
  simp only[forall_eq,decide_eq_true_eq,decide_eq_false_iff_not,I64]
  refine⟨fun h1=>⟨by omega,fun h2=>(indexS_yes (by omega) hI h2.symm).symm,fun h2=>⟨by omega,IH (by omega) fun j hj=>?_⟩⟩,fun h1=>?_⟩
  · rcases Nat.lt_or_ge j k with h3 | h3
    · exact hI j h3
    · rw[show j=k by omega];exact fun h=>h2 h.symm
  · rw[indexS_no fun j hj=>hI j (by omega)]
abbrev l2At_pre (l:List Str) (_:Str):Prop:=l.length≤1048576
abbrev l2At (l:List Str) (s:Str):Int:=indexS l s
def l2At_wp (list:List Str) (name:Str) (Z:Int→Prop):Prop:=
  loopW (σ:=Int) (fun i4 K7=>∀ len8:Int,len8=(list.length:Int)→∀ c10:Bool,c10=decide (i4<len8)→((c10=true→(0≤i4∧i4<list.length)∧∀ x13:Str,x13=at' list i4→∀ c15:Bool,c15=decide (x13=name)→((c15=true→Z i4)∧(c15=false→(I64 (i4+1))∧∀ v18:Int,v18=i4+1→K7 (v18))))∧(c10=false→Z (-1)))) (0)
theorem l2At_vc (l:List Str) (s:Str) (h:l2At_pre l s):l2At_wp l s (fun y=>y=l2At l s):=by
  unfold l2At_wp
  refine loopW.up1 l.length (fun k=>∀ j<k,at' l (j:Int) ≠ s) (by simp) ?_
  rintro k K hk hI IH
  simp only[forall_eq,decide_eq_true_eq,decide_eq_false_iff_not,I64]
  refine⟨fun h1=>⟨by omega,fun h2=>(indexS_yes (by omega) hI h2).symm,fun h2=>⟨by omega,IH (by omega) fun j hj=>?_⟩⟩,fun h1=>?_⟩
  · rcases Nat.lt_or_ge j k with h3 | h3
    · exact hI j h3
    · rw[show j=k by omega];exact h2
  · rw[l2At,indexS_no fun j hj=>hI j (by omega)]
end Go.Ab.Vg
/- The abstract machine, part Se: what is lent to a call by a pointer to a variable, or by a function value. -/
namespace Go.Ab
def EffT (P:Program) (f:FuncId) (args:List AVal) {σ:Type} (W:List Id) (I:σ→Heap→List OwnE→Prop) (s:σ) (M:List OwnE) (Y:σ→AVal→Prop):Prop:=
  ∀ (H:Heap) (n:Nat) (K:List OwnE) (ids:List Id) (E:List OwnE),I s H E→(∀ w ∈ W,w ∉ ids)→Sep H n (M++(E++K)) (W++ids)→CallsA P f args H n fun r H1 n1=>∃ s' E',Y s' r∧I s' H1 E'∧Sep H1 n1 (E'++K) (W++ids)∧(∀ i ∈ ids,H1 i=H i)∧n≤n1
def FrameI {σ:Type} (W:List Id) (I:σ→Heap→List OwnE→Prop):Prop:=∀ s H H' E,I s H E→(∀ w ∈ W,H' w=H w)→I s H' E
def VarI {σ:Type} (sz:Nat) (C:σ→List AVal→List AVal) (E:σ→List AVal→List OwnE) (X:Id) (s:σ) (H:Heap) (L:List OwnE):Prop:=∃ vs,L=E s vs∧H X=some ⟨sz,[C s vs]⟩
theorem VarI.frame {σ:Type} {sz:Nat} {C:σ→List AVal→List AVal} {E:σ→List AVal→List OwnE} {X:Id}:FrameI [X] (VarI sz C E X):=fun _ _ _ _ ⟨vs,h1,h2⟩ h=>⟨vs,h1,(h X (by simp)).trans h2⟩
def PtrS (P:Program) (f:FuncId) (args:AVal→List AVal) {σ:Type} (sz:Nat) (C:σ→List AVal→List AVal) (E:σ→List AVal→List OwnE) (s:σ) (M:List OwnE) (Y:σ→AVal→Prop):Prop:=
  ∀ X:Id,EffT P f (args (.ptr X 1 0 0)) [X] (VarI sz C E X) s M Y
theorem EffT.mono {P:Program} {f:FuncId} {args:List AVal} {σ:Type} {W:List Id} {I:σ→Heap→List OwnE→Prop} {s:σ} {M:List OwnE} {Y Y':σ→AVal→Prop} (hc:EffT P f args W I s M Y) (hy:∀ s' r,Y s' r→Y' s' r):EffT P f args W I s M Y':=fun H n K ids E hi hw hs=>
  CallsA.mono (hc H n K ids E hi hw hs) fun _ _ _ ⟨s',E',h1,h2⟩=>⟨s',E',hy _ _ h1,h2⟩
theorem PtrS.mono {P:Program} {f:FuncId} {args:AVal→List AVal} {σ:Type} {sz:Nat} {C:σ→List AVal→List AVal} {E:σ→List AVal→List OwnE} {s:σ} {M:List OwnE} {Y Y':σ→AVal→Prop} (hc:PtrS P f args sz C E s M Y) (hy:∀ s' r,Y s' r→Y' s' r):PtrS P f args sz C E s M Y':=fun X=>(hc X).mono hy
theorem EffT.of {P:Program} {f:FuncId} {fn:Func} {body:Code} {args:List AVal} {σ:Type} {W:List Id} {I:σ→Heap→List OwnE→Prop} {s:σ} {M:List OwnE} {Y:σ→AVal→Prop} {N:Nat} (hfn:P.funcs[f]?=some fn) (hb:fn.body=some body) (hn:fn.ntmps=N) (hN:args.length≤N)
    (hq:∀ (H0:Heap) (n0:Nat) (K0:List OwnE) (ids0:List Id) (E0:List OwnE),I s H0 E0→(∀ w ∈ W,w ∉ ids0)→Sep H0 n0 (M++(E0++K0)) (W++ids0)→∀ Q:AVal→Heap→Nat→Prop,(∀ r H1 n1 s' E',I s' H1 E'→Sep H1 n1 (E'++K0) (W++ids0)→(∀ i ∈ ids0,H1 i=H0 i)→n0≤n1→Y s' r→Q r H1 n1)→Runs P f N [.code body] (argEnv args) H0 n0 Q) :
    EffT P f args W I s M Y:=fun H n K ids E hi hw hs=>
  CallsA.of hfn hb hn hN fun Q hQ=>hq H n K ids E hi hw hs Q fun r H1 n1 s' E' h1 h2 h3 h4 h5=>hQ r H1 n1 ⟨s',E',h5,h1,h2,h3,h4⟩
theorem PtrS.of {P:Program} {f:FuncId} {fn:Func} {body:Code} {args:AVal→List AVal} {σ:Type} {sz:Nat} {C:σ→List AVal→List AVal} {E:σ→List AVal→List OwnE} {s:σ} {M:List OwnE} {Y:σ→AVal→Prop} {N:Nat} (hfn:P.funcs[f]?=some fn) (hb:fn.body=some body) (hn:fn.ntmps=N) (hN:∀ v,(args v).length≤N)
    (hq:∀ (X:Id) (H0:Heap) (n0:Nat) (vs:List AVal) (K0:List OwnE) (ids0:List Id),H0 X=some ⟨sz,[C s vs]⟩→X ∉ ids0→Sep H0 n0 (M++(E s vs++K0)) (X::ids0)→∀ Q:AVal→Heap→Nat→Prop,(∀ r H1 n1 s' vs',H1 X=some ⟨sz,[C s' vs']⟩→Sep H1 n1 (E s' vs'++K0) (X::ids0)→(∀ i ∈ ids0,H1 i=H0 i)→n0≤n1→Y s' r→Q r H1 n1)→Runs P f N [.code body] (argEnv (args (.ptr X 1 0 0))) H0 n0 Q) :
    PtrS P f args sz C E s M Y:=fun X=>EffT.of hfn hb hn (hN _) fun H0 n0 K0 ids0 E0 hi hw hs Q hQ=>by
  obtain⟨vs,rfl,hm⟩:=hi
  exact hq X H0 n0 vs K0 ids0 hm (hw X (by simp)) hs Q fun r H1 n1 s' vs' h1 h2 h3 h4 h5=>hQ r H1 n1 s' _ ⟨vs',rfl,h1⟩ h2 h3 h4 h5
section
variable {H:Heap} {n:Nat} {K K':List OwnE} {ids:List Id}
theorem Sep.permA (h:K.Perm K'):∀ A:List OwnE,Sep H n (A++K) ids→Sep H n (A++K') ids:=by
  induction h with
  | nil=>exact fun _ h=>h
  | cons x _ ih=>
    intro A h
    have:=ih (A++[x]) (by simpa using h)
    simpa using this
  | swap x y l=>
    intro A h
    have h1:=Sep.front (K1:=A++[y]) (x:=x) (K2:=l) (by simpa using h)
    exact Sep.unfront (K1:=A) (K2:=y::l) (by simpa using h1)
  | trans _ _ ih1 ih2=>exact fun A h=>ih2 A (ih1 A h)
theorem Sep.mid {A B C D:List OwnE} (h:Sep H n (A++(B++(C++D))) ids):Sep H n (A++(C++(B++D))) ids:=Sep.permA (List.perm_append_comm_assoc B C D) A h
theorem Sep.idm {A B C:List Id} (h:Sep H n K (A++(B++C))):Sep H n K (B++(A++C)):=Sep.sub h fun i hi=>by
  simp only[List.mem_append] at hi ⊢
  rcases hi with h | h | h
  · exact .inr (.inl h)
  · exact .inl h
  · exact .inr (.inr h)
end
section
variable {P:Program} {f:FuncId} {N:Nat} {k:List Item} {Q:AVal→Heap→Nat→Prop} {Ty:Types} {l:List Oper} {ρ:Env} {H:Heap} {n:Nat}
theorem SubL.append {as1 bs cs ds:List AVal} (h:SubL as1 bs) (h':SubL cs ds):SubL (as1++cs) (bs++ds):=by
  induction h with
  | nil=>exact h'
  | cons h _ ih=>exact .cons h ih
theorem RunK.callEff (hT:TypesOk P Ty) {d:Option Tmp} {g:Operand} {args:Array Operand} {ats:Array TypeId} {ty:TypeId} {pos:String} {af:Array Edge} {f':FuncId} {ops:List Oper} {xsA ysA caps:List AVal} {σ:Type} {I:σ→Heap→List OwnE→Prop} {s:σ} {Y:σ→AVal→Prop} {M R E K0:List OwnE} {A W B:List Id}
    (h:EffT P f' (ysA++caps) W I s M Y) (hsub:SubL xsA ysA) (hent:Ent P f') (hi:I s H E) (hw:∀ w ∈ W,w ∉ A++B) (hs:Sep H n (M++(R++(E++K0))) (A++(W++B)))
    (hN:ops.all (fun o=>dok N o.dst)=true) (hl:(⟨d,.call ⟨.value g,args,ats⟩,ty,pos,af,none⟩::l:List Oper).all (fun o=>dok N o.dst)=true) (hg:ρ.ev g = .fn (.func f') [] caps) (has:args.toList.map ρ.ev=xsA)
    (hk:∀ r H1 n1 s' E',Y s' r→I s' H1 E'→Sep H1 n1 (R++(E'++K0)) (A++(W++B))→n≤n1→(∀ i ∈ A++B,H1 i=H i)→evalK P f N k Q Ty ops.toArray l (ρ.put d r) H1 n1) :
    RunK P f N k Q ops.toArray (⟨d,.call ⟨.value g,args,ats⟩,ty,pos,af,none⟩::l) ρ H n:=
  RunK.op hT hN hl rfl (OpSem.call (first:=[]) (captured:=caps) (post:=fun r H1 n1=>∃ s' E',Y s' r∧I s' H1 E'∧Sep H1 n1 (E'++(R++K0)) (W++(A++B))∧(∀ i ∈ A++B,H1 i=H i)∧n≤n1) hg hent (by
    rw[has,List.nil_append]
    exact CallsA.sub (hsub.append (.refl caps)) (h H n (R++K0) (A++B) E hi hw (Sep.idm (Sep.mid hs))))) fun r H' n' ⟨s',E',h1,h2,h3,h4,h5⟩=>hk r H' n' s' E' h1 h2 (Sep.idm (Sep.mid (A:=[]) h3)) h5 h4
theorem RunK.callP (hT:TypesOk P Ty) {d:Option Tmp} {g:Operand} {args:Array Operand} {ats:Array TypeId} {ty:TypeId} {pos:String} {af:Array Edge} {f':FuncId} {ops:List Oper} {argf:AVal→List AVal} {as1:List AVal} {σ:Type} {sz:Nat} {C:σ→List AVal→List AVal} {E:σ→List AVal→List OwnE} {s:σ} {M K0:List OwnE} {Y:σ→AVal→Prop} {X:Id} {vs:List AVal} {A B:List Id}
    (h:PtrS P f' argf sz C E s M Y) (hsub:SubL as1 (argf (.ptr X 1 0 0))) (hent:Ent P f') (hm:H X=some ⟨sz,[C s vs]⟩) (hw:X ∉ A++B) (hs:Sep H n (M++(E s vs++K0)) (A++([X]++B)))
    (hN:ops.all (fun o=>dok N o.dst)=true) (hl:(⟨d,.call ⟨.value g,args,ats⟩,ty,pos,af,none⟩::l:List Oper).all (fun o=>dok N o.dst)=true) (hg:ρ.ev g = .fn (.func f') [] []) (has:args.toList.map ρ.ev=as1)
    (hk:∀ r H1 n1 s' vs',Y s' r→H1 X=some ⟨sz,[C s' vs']⟩→Sep H1 n1 (E s' vs'++K0) (A++([X]++B))→n≤n1→(∀ i ∈ A++B,H1 i=H i)→evalK P f N k Q Ty ops.toArray l (ρ.put d r) H1 n1) :
    RunK P f N k Q ops.toArray (⟨d,.call ⟨.value g,args,ats⟩,ty,pos,af,none⟩::l) ρ H n:=
  RunK.callEff (xsA:=as1) (ysA:=argf (.ptr X 1 0 0)) (caps:=[]) (I:=VarI sz C E X) (s:=s) (M:=M) (R:=[]) (E:=E s vs) (K0:=K0) (A:=A) (W:=[X]) (B:=B) (Y:=Y) hT (by simpa using h X) hsub hent ⟨vs,rfl,hm⟩ (by simpa using hw) hs hN hl hg has fun r H1 n1 s' E' h1 h2 h4 h5 h6=>by
    obtain⟨vs',rfl,h3⟩:=h2
    exact hk r H1 n1 s' vs' h1 h3 h4 h5 h6
end
end Go.Ab
/- The abstract machine, part Sd: regions that draw their order, with a chain of operations that turn the heap; all other operations give the same whenever they come. -/
namespace Go.Ab
set_option linter.unusedSectionVars false
set_option linter.unusedVariables false
section
variable (P:Program) (N:Nat) (ops:Array Oper) (Stab:Heap→Nat→Prop) (hard:List Nat)
def lateC (j:Nat):Bool:=(List.range ops.size).all fun k=>hard.contains k || (behind ops k).contains j
def StepF (o:Oper) (s s':AS):Prop:=∃ v,s'=(s.1.put o.dst v,s.2)∧((gok ops o s.1=some true∧∀ H n,Stab H n→OpSem P N o (loc o.op s.1) H n (isV v H n))∨(gok ops o s.1=some false∧v=skv))
def AnyC (R:AS→Prop):Nat→Array Bool→AS→Prop
  | 0,listed,s=>Region.ready .any ops listed=[]∧R s
  | fuel+1,listed,s=>(Region.ready .any ops listed=[]→R s)∧∀ i ∈ Region.ready .any ops listed,∃ o,ops[i]?=some o ∧
      ((i ∉ hard∧Stab s.2.1 s.2.2∧∃ s',StepF P N ops Stab o s s'∧AnyC R fuel (listed.setIfInBounds i true) s') ∨
       (i ∈ hard∧gok ops o s.1=some true∧∃ post:AVal→Heap→Nat→Prop,OpSem P N o (loc o.op s.1) s.2.1 s.2.2 post∧∀ v H' n',post v H' n'→(lateC ops hard i=false→Stab H' n')∧AnyC R fuel (listed.setIfInBounds i true) (s.1.put o.dst v,H',n')))
inductive OrdT where
  | fin
  | stop
  | free (i:Nat) (t:OrdT)
  | hard (i:Nat) (t a:OrdT)
def OrdT.alts:OrdT→List Nat
  | .hard i _ a=>i::a.alts
  | _=>[]
def OrdT.depth:OrdT→Nat
  | .free _ t=>t.depth+1
  | .hard _ t a=>max (t.depth+1) a.depth
  | _=>0
def headT (t:OrdT) (listed:Array Bool):Bool:=match t with
  | .hard _ _ _ => !(Region.ready .any ops listed).isEmpty && (Region.ready .any ops listed).all fun i=>t.alts.contains i
  | .stop=>false
  | _=>true
def lexT:OrdT→Array Bool→Bool
  | .fin,listed=>(Region.ready .any ops listed).isEmpty
  | .stop,_=>true
  | .free i t,listed => !hard.contains i && (Region.ready .any ops listed).contains i && freeD (fun _=>0) ops listed i && headT ops t (listed.setIfInBounds i true) && lexT t (listed.setIfInBounds i true)
  | .hard i t a,listed=>hard.contains i && headT ops t (listed.setIfInBounds i true) && lexT t (listed.setIfInBounds i true) && lexT a listed
def HardT (R':AS→Prop) (i:Nat) (s:AS):Prop:=∃ o,ops[i]?=some o∧gok ops o s.1=some true∧∃ post:AVal→Heap→Nat→Prop,OpSem P N o (loc o.op s.1) s.2.1 s.2.2 post∧∀ v H' n',post v H' n'→(lateC ops hard i=false→Stab H' n')∧R' (s.1.put o.dst v,H',n')
def RunT (R:AS→Prop):OrdT→AS→Prop
  | .fin,s=>R s
  | .stop,_=>True
  | .free i t,s=>∃ o,ops[i]?=some o∧Stab s.2.1 s.2.2∧∃ s',StepF P N ops Stab o s s'∧RunT R t s'
  | .hard i t a,s=>HardT P N ops Stab hard (RunT R t) i s∧RunT R a s
def drawT (t:OrdT):Bool:=headT ops t (Array.replicate ops.size false) && lexT ops hard t (Array.replicate ops.size false) && decide (t.depth≤ops.size)
end
section
variable {P:Program} {N:Nat} {ops:Array Oper} {Stab:Heap→Nat→Prop} {hard:List Nat}
theorem AnyC.first {R:AS→Prop} {i:Nat} {oi:Oper} (hi:ops[i]?=some oi) (hih:i ∉ hard) (hD:∀ j oj,ops[j]?=some oj→j ∈ behind ops i→j ≠ i→∃ e ∈ oj.after,Region.binds .any e=true∧e.on ∈ behind ops i):∀ (fuel:Nat) (listed:Array Bool) (s s':AS),
    (∀ j ∈ behind ops i,listed.getD j true=false)→(∀ j oj,ops[j]?=some oj→j ≠ i→listed.getD j true=false→j ∉ behind ops i→oi.apart ops oj=true) →
    i ∈ Region.ready .any ops listed→Stab s.2.1 s.2.2→StepF P N ops Stab oi s s'→AnyC P N ops Stab hard R fuel (listed.setIfInBounds i true) s'→AnyC P N ops Stab hard R (fuel+1) listed s:=by
  intro fuel
  induction fuel with
  | zero=>
    intro listed s s' _ _ hr hS hst H
    refine⟨fun h=>(by rw[h] at hr;cases hr),fun j hj=>?_⟩
    by_cases hji:j=i
    · subst hji;exact⟨oi,hi,.inl ⟨hih,hS,s',hst,H⟩⟩
    · have:=ready_mono hj hji
      rw[H.1] at this
      cases this
  | succ fuel ih=>
    intro listed s s' hinv hfree hr hS hst H
    refine⟨fun h=>(by rw[h] at hr;cases hr),fun j hj=>?_⟩
    by_cases hji:j=i
    · subst hji;exact⟨oi,hi,.inl ⟨hih,hS,s',hst,H⟩⟩
    · obtain⟨oj,hoj,hbr⟩:=H.2 j (ready_mono hj hji)
      obtain⟨hjun,oj',hoj',hall⟩:=mem_ready.1 hj
      rw[hoj] at hoj'
      cases hoj'
      have hnot:j ∉ behind ops i:=fun hd=>by
        obtain⟨e,he,hb,hed⟩:=hD j oj hoj hd hji
        have h1:=hall e he hb
        have h0:=hinv e.on hed
        rcases Nat.lt_or_ge e.on listed.size with h' | h'
        · simp[h'] at h0 h1;rw[h0] at h1;cases h1
        · simp[Array.getElem?_eq_none h'] at h1
      obtain⟨h1,h2,h3⟩:=Oper.apart_spec (hfree j oj hoj hji hjun hnot)
      have hinv':∀ k ∈ behind ops i,(listed.setIfInBounds j true).getD k true=false:=fun k hk=>by
        have hjk:j ≠ k:=fun he=>hnot (he ▸ hk)
        rw[getD_set_ne true hjk]
        exact hinv k hk
      have hfree':∀ k ok,ops[k]?=some ok→k ≠ i→(listed.setIfInBounds j true).getD k true=false→k ∉ behind ops i→oi.apart ops ok=true:=fun k ok hk hki hun hno=>by
        refine hfree k ok hk hki ?_ hno
        by_cases hjk:j=k
        · subst hjk;exact hjun
        · rw[getD_set_ne true hjk] at hun;exact hun
      obtain⟨v,rfl,hv⟩:=hst
      have lj:∀ v,loc oj.op (s.1.put oi.dst v)=loc oj.op s.1:=fun v=>loc_put (looks_tmps h1)
      have li:∀ v,loc oi.op (s.1.put oj.dst v)=loc oi.op s.1:=fun v=>loc_put (looks_tmps h3)
      have gj:∀ v,gok ops oj (s.1.put oi.dst v)=gok ops oj s.1:=fun v=>gok_put h1
      have gi:∀ v,gok ops oi (s.1.put oj.dst v)=gok ops oi s.1:=fun v=>gok_put h3
      have hvi:∀ u,(gok ops oi (s.1.put oj.dst u)=some true∧∀ H n,Stab H n→OpSem P N oi (loc oi.op (s.1.put oj.dst u)) H n (isV v H n))∨(gok ops oi (s.1.put oj.dst u)=some false∧v=skv):=fun u=>by
        rw[gi,li]
        exact hv
      rcases hbr with ⟨hjh,_,s'',⟨u,rfl,hu⟩,hrest⟩ | ⟨hjh,hgj,post,hoq,hrest⟩
      · simp only[lj,gj] at hu
        refine⟨oj,hoj,.inl ⟨hjh,hS,_,⟨u,rfl,hu⟩,ih (listed.setIfInBounds j true) (s.1.put oj.dst u,s.2) ((s.1.put oj.dst u).put oi.dst v,s.2) hinv' hfree' (ready_mono hr (Ne.symm hji)) hS ⟨v,rfl,hvi u⟩ ?_⟩⟩
        rw[Array.setIfInBounds_comm _ _ hji,← put_comm v u h2]
        exact hrest
      · simp only[lj,gj] at hoq hgj
        refine⟨oj,hoj,.inr ⟨hjh,hgj,post,hoq,fun u H' n' hp=>?_⟩⟩
        obtain⟨hS',hrest'⟩:=hrest u H' n' hp
        refine⟨hS',?_⟩
        have hlate:lateC ops hard j=false:=by
          rw[Bool.eq_false_iff]
          intro hl
          have:=List.all_eq_true.1 hl i (List.mem_range.2 (Array.getElem?_eq_some_iff.1 hi).1)
          simp only[Bool.or_eq_true,List.contains_iff_mem] at this
          exact this.elim hih hnot
        refine ih (listed.setIfInBounds j true) (s.1.put oj.dst u,H',n') ((s.1.put oj.dst u).put oi.dst v,H',n') hinv' hfree' (ready_mono hr (Ne.symm hji)) (hS' hlate) ⟨v,rfl,hvi u⟩ ?_
        rw[Array.setIfInBounds_comm _ _ hji,← put_comm v u h2]
        exact hrest'
theorem RunT.alt {R:AS→Prop} {s:AS} {listed:Array Bool} {j:Nat}:∀ {t:OrdT},RunT P N ops Stab hard R t s→lexT ops hard t listed=true→j ∈ t.alts→j ∈ hard∧∃ t',t'.depth+1≤t.depth∧headT ops t' (listed.setIfInBounds j true)=true∧lexT ops hard t' (listed.setIfInBounds j true)=true∧HardT P N ops Stab hard (RunT P N ops Stab hard R t') j s
  | .hard i t a,h,hl,hj=>by
    simp only[lexT,Bool.and_eq_true,List.contains_iff_mem] at hl
    rcases List.mem_cons.1 hj with rfl | hj
    · exact⟨hl.1.1.1,t,by simp only[OrdT.depth];omega,hl.1.1.2,hl.1.2,h.1⟩
    · obtain⟨h1,t',h2,h3⟩:=RunT.alt (t:=a) h.2 hl.2 hj
      exact⟨h1,t',by simp only[OrdT.depth];omega,h3⟩
  | .fin,_,_,hj=>by cases hj
  | .stop,_,_,hj=>by cases hj
  | .free _ _,_,_,hj=>by cases hj
theorem AnyC.none {R:AS→Prop} {fuel:Nat} {listed:Array Bool} {s:AS} (h:Region.ready .any ops listed=[]) (hR:R s):AnyC P N ops Stab hard R fuel listed s:=by
  cases fuel with
  | zero=>exact⟨h,hR⟩
  | succ fuel=>exact⟨fun _=>hR,fun i hi=>by rw[h] at hi;cases hi⟩
theorem AnyC.lex {R:AS→Prop}:∀ (fuel:Nat) (t:OrdT) (listed:Array Bool) (s:AS),t.depth≤fuel→headT ops t listed=true→lexT ops hard t listed=true→RunT P N ops Stab hard R t s→AnyC P N ops Stab hard R fuel listed s
  | _,.fin,listed,s,_,_,hB,h=>AnyC.none (by simpa[lexT] using hB) h
  | _,.stop,_,_,_,hh,_,_=>by cases hh
  | 0,.free i t,_,_,hd,_,_,_=>by simp[OrdT.depth] at hd
  | fuel+1,.free i t,listed,s,hd,_,hB,⟨o,ho,hS,s',hst,hrest⟩=>by
    simp only[lexT,Bool.and_eq_true,Bool.not_eq_true',List.contains_iff_mem] at hB
    obtain⟨⟨⟨⟨h1,h2⟩,h3⟩,h4⟩,h5⟩:=hB
    obtain⟨f1,f2,f3⟩:=freeD_spec ho h3
    exact AnyC.first ho (by simpa using h1) f1 fuel listed s s' f2 (fun j oj h1 h2 h3 h4=>(f3 j oj h1 h2 h3 h4).1) h2 hS hst (AnyC.lex fuel t _ _ (by simp only[OrdT.depth] at hd;omega) h4 h5 hrest)
  | 0,.hard i t a,_,_,hd,_,_,_=>by simp only[OrdT.depth] at hd;omega
  | fuel+1,.hard i t a,listed,s,hd,hh,hB,h=>by
    simp only[headT,Bool.and_eq_true,Bool.not_eq_true',List.isEmpty_eq_false_iff] at hh
    refine⟨fun h=>absurd h hh.1,fun j hj=>?_⟩
    have hja:j ∈ (OrdT.hard i t a).alts:=by
      have:=List.all_eq_true.1 hh.2 j hj
      simpa using this
    obtain⟨hjh,t',hd',h1,h2,o,ho,hg,post,hop,hrest⟩:=RunT.alt h hB hja
    exact⟨o,ho,.inr ⟨hjh,hg,post,hop,fun v H' n' hp=>⟨(hrest v H' n' hp).1,AnyC.lex fuel t' _ _ (by omega) h1 h2 (hrest v H' n' hp).2⟩⟩⟩
theorem AnyC.sound {R:AS→Prop} (hN:ops.toList.all (fun o=>dok N o.dst)=true) {Q:Exit→Act→World→Prop} {c0:Ctx} (hQ:∀ a c ρ,Keeps c0 c→Good c→RelE N c ρ a→R (ρ,c.H,c.n)→Q .normal a c.w) :
    ∀ (fuel:Nat) (listed:Array Bool) (ρ:Env) (c:Ctx) (a:Act),Keeps c0 c→Good c→RelE N c ρ a→AnyC P N ops Stab hard R fuel listed (ρ,c.H,c.n)→wpAny P .any ops Q fuel listed a c.w
  | 0,_,_,_,_,hk,g,r,h=>⟨h.1,hQ _ _ _ hk g r h.2⟩
  | fuel+1,listed,ρ,c,a,hk,g,r,h=>by
    refine⟨fun h0=>hQ _ _ _ hk g r (h.1 h0),fun i hi=>?_⟩
    obtain⟨o,ho,hbr⟩:=h.2 i hi
    have hd:dok N o.dst=true:=List.all_eq_true.1 hN o (by rw[← Array.getElem?_toList] at ho;exact List.mem_of_getElem? ho)
    unfold wpOp
    simp only[ho]
    rcases hbr with ⟨_,hS,s',⟨v,rfl,⟨hg,hop⟩ | ⟨hg,rfl⟩⟩,hrest⟩ | ⟨_,hg,post,hop,hrest⟩
    · rw[if_pos (wanted_of_gok r hN hg)]
      refine .inl (hop c.H c.n hS c a rfl rfl g (r.loc o.op) _ _ ?_)
      rintro v1 x c' ⟨rfl,hH,hn⟩ hrep hgood hkeep
      exact AnyC.sound hN hQ fuel _ _ c' _ (hk.trans hkeep) hgood ((r.keeps hkeep).put hd hrep) (by rw[hH,hn];exact hrest)
    · rw[if_neg (by rw[wanted_of_gok r hN hg];simp)]
      exact AnyC.sound hN hQ fuel _ _ c _ hk g (r.put hd (.v _)) hrest
    · rw[if_pos (wanted_of_gok r hN hg)]
      refine .inl (hop c a rfl rfl g (r.loc o.op) _ _ ?_)
      rintro v1 x c' hpost hrep hgood hkeep
      exact AnyC.sound hN hQ fuel _ _ c' _ (hk.trans hkeep) hgood ((r.keeps hkeep).put hd hrep) (hrest v1 c'.H c'.n hpost).2
end
section
variable {P:Program} {f:FuncId} {N:Nat} {k:List Item} {ρ:Env} {H:Heap} {n:Nat} {Q:AVal→Heap→Nat→Prop}
def atS (J:Env→Heap→Nat→Prop):AS→Prop:=fun s=>J s.1 s.2.1 s.2.2
theorem Runs.drawC (Stab:Heap→Nat→Prop) (hard:List Nat) (t:OrdT) (J:Env→Heap→Nat→Prop) {id:Nat} {ops:List Oper} (hm:P.follows .mixedOrders=true) (hN:ops.all (fun o=>dok N o.dst)=true) (hB:Ab.drawT ops.toArray hard t=true)
    (h:RunT P N ops.toArray Stab hard (atS J) t (ρ,H,n)) (hR:∀ ρ H n,J ρ H n→Runs P f N k ρ H n Q):Runs P f N (.code (.region id ops.toArray true)::k) ρ H n Q:=by
  intro c a hH hn g r b cs hf hk
  subst hH
  subst hn
  obtain⟨d1,d2⟩:=draw_keeps g
  simp only[Ab.drawT,Bool.and_eq_true,decide_eq_true_eq] at hB
  have hany:=AnyC.lex (P:=P) (N:=N) (Stab:=Stab) (hard:=hard) (ops:=ops.toArray) ops.toArray.size t (Array.replicate ops.toArray.size false) (ρ,c.H,c.n) hB.2 hB.1.1 hB.1.2 h
  have hw:(Code.region id ops.toArray true).wp P (fun e a' w'=>e = .normal∧∃ c' ρ',c'.w=w'∧Keeps c c'∧Good c'∧RelE N c' ρ' a'∧Runs P f N k ρ' c'.H c'.n Q) a c.w:=by
    refine wp_region_any hm ?_
    have:=AnyC.sound (P:=P) (N:=N) (Stab:=Stab) (hard:=hard) (ops:=ops.toArray) (c0:=c) (by simpa using hN) (Q:=fun e a' w'=>e = .normal∧∃ c' ρ',c'.w=w'∧Keeps c c'∧Good c'∧RelE N c' ρ' a'∧Runs P f N k ρ' c'.H c'.n Q)
      (R:=atS J) (fun a' c' ρ' hk' hg' hr' hR'=>⟨rfl,c',ρ',rfl,hk',hg',hr',hR _ _ _ hR'⟩) ops.toArray.size (Array.replicate ops.toArray.size false) ρ { c with w:={ c.w with drawn:=c.w.drawn+1 } } a d1 d2 (r.keeps d1) hany
    simpa using this
  obtain⟨e,a',w',⟨rfl,c',ρ',rfl,hk',hg',hr',hR⟩,harr⟩:=hw b k cs
  obtain⟨x,v,c'',fr,q,hr,hg,hke,hst,rest⟩:=hR c' a' rfl rfl hg' hr' b cs hf hk
  exact⟨x,v,c'',fr,q,hr,hg,hk'.trans hke,Steps.trans harr hst,rest⟩
theorem Runs.seqC (Stab:Heap→Nat→Prop) (hard:List Nat) (t:OrdT) (J:Env→Heap→Nat→Prop) {id:Nat} {ops:List Oper} {y:Code} (hm:P.follows .mixedOrders=true) (hN:ops.all (fun o=>dok N o.dst)=true) (hB:Ab.drawT ops.toArray hard t=true)
    (h:RunT P N ops.toArray Stab hard (atS J) t (ρ,H,n)) (hR:∀ ρ H n,J ρ H n→Runs P f N (.code y::k) ρ H n Q):Runs P f N (.code (.seq (.region id ops.toArray true) y)::k) ρ H n Q:=
  Runs.seq (Runs.drawC Stab hard t J hm hN hB h hR)
end
section
variable {P:Program} {N:Nat} {ops:Array Oper} {Stab:Heap→Nat→Prop} {hard:List Nat} {R:AS→Prop} {ρ:Env} {H:Heap} {n:Nat} {i:Nat} {l:OrdT} {Ty:Types}
theorem RunT.fin {J:Env→Heap→Nat→Prop} (h:J ρ H n):RunT P N ops Stab hard (atS J) .fin (ρ,H,n):=h
theorem RunT.free {o:Oper} (v:AVal) (ho:ops.toList[i]?=some o) (hg:gok ops o ρ=some true) (hS:Stab H n) (hop:∀ H n,Stab H n→OpSem P N o (loc o.op ρ) H n (isV v H n)) (h:RunT P N ops Stab hard R l (ρ.put o.dst v,H,n)):RunT P N ops Stab hard R (.free i l) (ρ,H,n):=
  ⟨o,by rw[← Array.getElem?_toList];exact ho,hS,_,⟨v,rfl,.inl ⟨hg,hop⟩⟩,h⟩
theorem RunT.skip {o:Oper} (ho:ops.toList[i]?=some o) (hg:gok ops o ρ=some false) (hS:Stab H n) (h:RunT P N ops Stab hard R l (ρ.put o.dst skv,H,n)):RunT P N ops Stab hard R (.free i l) (ρ,H,n):=
  ⟨o,by rw[← Array.getElem?_toList];exact ho,hS,_,⟨skv,rfl,.inr ⟨hg,rfl⟩⟩,h⟩
theorem RunT.heavy {o:Oper} (post:AVal→Heap→Nat→Prop) (ho:ops.toList[i]?=some o) (hg:gok ops o ρ=some true) (hop:OpSem P N o (loc o.op ρ) H n post) (h:∀ v H' n',post v H' n'→(lateC ops hard i=false→Stab H' n')∧RunT P N ops Stab hard R l (ρ.put o.dst v,H',n')):HardT P N ops Stab hard (RunT P N ops Stab hard R l) i (ρ,H,n):=
  ⟨o,by rw[← Array.getElem?_toList];exact ho,hg,post,hop,h⟩
theorem RunT.step (hT:TypesOk P Ty) {o:Oper} {v:AVal} {H':Heap} {n':Nat} (ho:ops.toList[i]?=some o) (hg:gok ops o ρ=some true) (hs:stepF Ty o.dst o.op ρ H n=some (v,H',n')) (hS:lateC ops hard i=false→Stab H' n') (h:RunT P N ops Stab hard R l (ρ.put o.dst v,H',n')):HardT P N ops Stab hard (RunT P N ops Stab hard R l) i (ρ,H,n):=
  RunT.heavy (isV v H' n') ho hg (stepF_ok hT (by rw[stepF_loc];exact hs)) (by rintro _ _ _ ⟨rfl,rfl,rfl⟩;exact⟨hS,h⟩)
theorem RunT.same (hT:TypesOk P Ty) {o:Oper} {v:AVal} (ho:ops.toList[i]?=some o) (hg:gok ops o ρ=some true) (hs:stepF Ty o.dst o.op ρ H n=some (v,H,n)) (hS:lateC ops hard i=false→Stab H n) (h:RunT P N ops Stab hard R l (ρ.put o.dst v,H,n)):HardT P N ops Stab hard (RunT P N ops Stab hard R l) i (ρ,H,n):=
  RunT.step hT ho hg hs hS h
theorem loc_argsC {d:Operand} {args:Array Operand} {ats:Array TypeId}:args.toList.map (loc (.call ⟨.value d,args,ats⟩) ρ).ev=args.toList.map ρ.ev∧(loc (.call ⟨.value d,args,ats⟩) ρ).ev d=ρ.ev d:=
  ⟨List.map_congr_left fun x hx=>loc_ev (by simp[Op.operands,Call.operands];exact .inr (by simpa using hx)),loc_ev (by simp[Op.operands,Call.operands])⟩
theorem RunT.callEff {d:Option Tmp} {g:Operand} {args:Array Operand} {ats:Array TypeId} {ty:TypeId} {pos:String} {af:Array Edge} {gu:Option (Nat × Bool)} {f':FuncId} {xsA ysA caps:List AVal} {σ:Type} {I:σ→Heap→List OwnE→Prop} {s:σ} {Y:σ→AVal→Prop} {M R' E K0:List OwnE} {A W B:List Id}
    (ho:ops.toList[i]?=some ⟨d,.call ⟨.value g,args,ats⟩,ty,pos,af,gu⟩) (hgu:gok ops ⟨d,.call ⟨.value g,args,ats⟩,ty,pos,af,gu⟩ ρ=some true) (h:EffT P f' (ysA++caps) W I s M Y) (hsub:SubL xsA ysA) (hent:Ent P f') (hi:I s H E) (hw:∀ w ∈ W,w ∉ A++B) (hs:Sep H n (M++(R'++(E++K0))) (A++(W++B)))
    (hg:ρ.ev g = .fn (.func f') [] caps) (has:args.toList.map ρ.ev=xsA)
    (hk:∀ r H1 n1 s' E',Y s' r→I s' H1 E'→Sep H1 n1 (R'++(E'++K0)) (A++(W++B))→n≤n1→(∀ i ∈ A++B,H1 i=H i)→(lateC ops hard i=false→Stab H1 n1)∧RunT P N ops Stab hard R l (ρ.put d r,H1,n1)) :
    HardT P N ops Stab hard (RunT P N ops Stab hard R l) i (ρ,H,n):=
  RunT.heavy _ ho hgu (OpSem.call (first:=[]) (captured:=caps) (post:=fun r H1 n1=>∃ s' E',Y s' r∧I s' H1 E'∧Sep H1 n1 (E'++(R'++K0)) (W++(A++B))∧(∀ i ∈ A++B,H1 i=H i)∧n≤n1) (by rw[loc_argsC.2];exact hg) hent (by
    rw[loc_argsC.1,has,List.nil_append]
    exact CallsA.sub (hsub.append (.refl caps)) (h H n (R'++K0) (A++B) E hi hw (Sep.idm (Sep.mid hs))))) fun r H' n' ⟨s',E',h1,h2,h3,h4,h5⟩=>hk r H' n' s' E' h1 h2 (Sep.idm (Sep.mid (A:=[]) h3)) h5 h4
theorem RunT.callW {K:List OwnE} {ids:List Id} {d:Option Tmp} {g:Operand} {args:Array Operand} {ats:Array TypeId} {ty:TypeId} {pos:String} {af:Array Edge} {gu:Option (Nat × Bool)} {R':AVal→Prop} {f':FuncId} {as1 args':List AVal} {sh:Sh}
    (ho:ops.toList[i]?=some ⟨d,.call ⟨.value g,args,ats⟩,ty,pos,af,gu⟩) (hgu:gok ops ⟨d,.call ⟨.value g,args,ats⟩,ty,pos,af,gu⟩ ρ=some true) (h:OwnS P f' args' sh R') (hent:Ent P f') (ha:ArgsOk H n as1 args') (hs:Sep H n K ids) (hg:ρ.ev g = .fn (.func f') [] []) (has:args.toList.map ρ.ev=as1)
    (hk:∀ v H1 n1 r,Sep H1 n1 ((sh,v,r)::K) ids→R' r→n≤n1→(∀ i ∈ ids,H1 i=H i)→(lateC ops hard i=false→Stab H1 n1)∧RunT P N ops Stab hard R l (ρ.put d v,H1,n1)) :
    HardT P N ops Stab hard (RunT P N ops Stab hard R l) i (ρ,H,n):=
  RunT.heavy _ ho hgu (OpSem.callW (by rw[loc_argsC.2];exact hg) hent (by rw[loc_argsC.1,has];exact ha) h hs) fun v H' n' ⟨r,h1,h2,h3,h4⟩=>hk v H' n' r h1 h2 h3 h4
theorem RunT.callA {d:Option Tmp} {g:Operand} {args:Array Operand} {ats:Array TypeId} {ty:TypeId} {pos:String} {af:Array Edge} {gu:Option (Nat × Bool)} {v:AVal} {f':FuncId} {as1 args':List AVal}
    (ho:ops.toList[i]?=some ⟨d,.call ⟨.value g,args,ats⟩,ty,pos,af,gu⟩) (hgu:gok ops ⟨d,.call ⟨.value g,args,ats⟩,ty,pos,af,gu⟩ ρ=some true) (h:PureC P f' args' (fun r=>r=v)) (hent:Ent P f') (ha:ArgsOk H n as1 args') (hg:ρ.ev g = .fn (.func f') [] []) (has:args.toList.map ρ.ev=as1)
    (hS:lateC ops hard i=false→Stab H n) (hk:RunT P N ops Stab hard R l (ρ.put d v,H,n)):HardT P N ops Stab hard (RunT P N ops Stab hard R l) i (ρ,H,n):=
  RunT.heavy (isV v H n) ho hgu (OpSem.callD hg hent (has ▸ ha) h) (by rintro _ _ _ ⟨rfl,rfl,rfl⟩;exact⟨hS,hk⟩)
theorem RunT.append (hT:TypesOk P Ty) {d:Nat} {t:TypeId} {j:TI} {s x:Operand} {ty:TypeId} {pos:String} {af:Array Edge} {gu:Option (Nat × Bool)} {v xv:AVal} {l':List Sh} {es:List (List AVal)} {ids:List Id} (K1 K2:List OwnE) (add adds:List (List AVal))
    (ho:ops.toList[i]?=some ⟨some d,.call ⟨.builtin .append,#[s,x],#[t,t]⟩,ty,pos,af,gu⟩) (hgu:gok ops ⟨some d,.call ⟨.builtin .append,#[s,x],#[t,t]⟩,ty,pos,af,gu⟩ ρ=some true) (hsv:ρ.ev s=v) (hxv:ρ.ev x=xv) (h:Sep H n ((.s l',v,.list true es)::(K1++K2)) ids) (hk:kd Ty t = .slice j) (hj:j.size=l'.length) (hz:j.zero.length=j.size∧j.bytes≤131072)
    (hx:srcOf H xv=some add) (ho1:add.all (fun e=>e.all Ab.one1)=true) (hadd:∀ S,Row H (K1.map (·.1)) (K1.map (·.2.1)) (K1.map (·.2.2)) S→rowsP (Row H l') add adds S) (hne:adds ≠ []) (hlen:es.length+adds.length≤1073741824)
    (hc:∀ v' H' n',Sep H' n' ((.s l',v',.list true (es++adds))::K2) ids→(∀ i ∈ ids,H' i=H i)→n≤n'→(lateC ops hard i=false→Stab H' n')∧RunT P N ops Stab hard R l (ρ.put (some d) v',H',n')):HardT P N ops Stab hard (RunT P N ops Stab hard R l) i (ρ,H,n):=by
  obtain⟨v',H',n',h1,h2,h3,h4⟩:=Sep.append (d:=d) h hk hj hz hx ho1 hadd hne hlen
  obtain⟨q1,q2⟩:=hc v' H' n' h2 h3 h4
  refine RunT.step hT ho hgu ?_ q1 q2
  show (if t=t then appendF Ty (some d) t (ρ.ev s) (ρ.ev x) H n else none)=_
  rw[if_pos rfl,hsv,hxv,h1]
theorem RunT.append0 (hT:TypesOk P Ty) {d:Nat} {t:TypeId} {j:TI} {s x:Operand} {ty:TypeId} {pos:String} {af:Array Edge} {gu:Option (Nat × Bool)} {v xv:AVal} {l':List Sh} {es:List (List AVal)} {K:List OwnE} {ids:List Id} (add:List (List AVal))
    (ho:ops.toList[i]?=some ⟨some d,.call ⟨.builtin .append,#[s,x],#[t,t]⟩,ty,pos,af,gu⟩) (hgu:gok ops ⟨some d,.call ⟨.builtin .append,#[s,x],#[t,t]⟩,ty,pos,af,gu⟩ ρ=some true) (hsv:ρ.ev s=v) (hxv:ρ.ev x=xv) (h:Sep H n ((.s l',v,.list true es)::K) ids) (hf:∀ t ∈ l',t = .c) (hk:kd Ty t = .slice j) (hj:j.size=l'.length) (hz:j.zero.length=j.size∧j.bytes≤131072)
    (hx:srcOf H xv=some add) (ho1:∀ e ∈ add,e.length=l'.length∧∀ a ∈ e,Fresh a∧Ab.one1 a=true) (hlen:es.length+add.length≤1073741824)
    (hc:∀ v' H' n',Sep H' n' ((.s l',v',.list true (es++add))::K) ids→(∀ i ∈ ids,H' i=H i)→n≤n'→(lateC ops hard i=false→Stab H' n')∧RunT P N ops Stab hard R l (ρ.put (some d) v',H',n')):HardT P N ops Stab hard (RunT P N ops Stab hard R l) i (ρ,H,n):=by
  obtain⟨v',H',n',h1,h2,h3,h4⟩:=Sep.append0 (d:=d) h hf hk hj hz hx ho1 hlen
  obtain⟨q1,q2⟩:=hc v' H' n' h2 h3 h4
  refine RunT.step hT ho hgu ?_ q1 q2
  show (if t=t then appendF Ty (some d) t (ρ.ev s) (ρ.ev x) H n else none)=_
  rw[if_pos rfl,hsv,hxv,h1]
end
end Go.Ab
/- The abstract machine, part Sg: the library's sort and Compact of numbers, of a slice of the caller's own. -/
namespace Go.Ab
open Go.Proofs Go.RowKit
set_option linter.unusedSectionVars false
def boolC (b:Bool):List AVal:=[Ab.bool b]
theorem flatB (l:List Bool):∀ e ∈ l.map boolC,∀ a ∈ e,flat a=true:=by
  intro e he a ha
  obtain⟨x,_,rfl⟩:=List.mem_map.1 he
  simp only[boolC,List.mem_cons,List.not_mem_nil,or_false] at ha
  subst ha
  rfl
def runeS (n:Int):Str:=(Utf8.encode n).data.toList
theorem runeS_str (n:Int):str (runeS n) = .v (.string (Utf8.encode n)):=by
  unfold runeS str
  congr 2
section
variable {P:Program} {f:FuncId} {N:Nat} {k:List Item} {Q:AVal→Heap→Nat→Prop} {Ty:Types} {l:List Oper} {ρ:Env} {H:Heap} {n:Nat} {d:Option Tmp} {ty:TypeId} {pos:String} {af:Array Edge} {gu:Option (Nat × Bool)}
theorem OpSem.runeS (hT:TypesOk P Ty) {s t:TypeId} {i:TI} {x:Operand} {k1:IntKind} {a:Int} (hi:Ty s=some i) (hk:kd Ty t = .string) (hx:ρ.ev x = .v (.int k1 a)) :
    OpSem P N ⟨d,.convert s t x,ty,pos,af,gu⟩ ρ H n (isV (str (Ab.runeS a)) H n):=
  OpSem.pure fun c e _ _ r=>by
    have rx:=r.ev x
    rw[hx] at rx
    obtain⟨j,hj,hd⟩:=kd_string hk
    have d1:=(hT s i hi).run_desc c.w
    have d2:=(hT t j hj).run_desc c.w
    rw[hd] at d2
    rw[runeS_str]
    exact⟨_,by simp[execOp,rx.v_inv,convert,d1,d2,Conv.intToString],.v _⟩
theorem RunK.runeS (hT:TypesOk P Ty) {ops:List Oper} {s t:TypeId} {i:TI} {x:Operand} {k1:IntKind} {a:Int} (hN:ops.all (fun o=>dok N o.dst)=true) (hl:(⟨d,.convert s t x,ty,pos,af,none⟩::l:List Oper).all (fun o=>dok N o.dst)=true) (hi:Ty s=some i) (hk:kd Ty t = .string) (hx:ρ.ev x = .v (.int k1 a))
    (h:evalK P f N k Q Ty ops.toArray l (ρ.put d (str (Ab.runeS a))) H n):RunK P f N k Q ops.toArray (⟨d,.convert s t x,ty,pos,af,none⟩::l) ρ H n:=
  RunK.op hT hN hl rfl (OpSem.runeS hT hi hk hx) fun _ _ _ ⟨e1,e2,e3⟩=>by subst e1 e2 e3;exact h
end
end Go.Ab
/- PassedLinks (statement 33): pure conditions of the functions of program and reference. -/
namespace Go.Ab.Vg
set_option linter.unusedSimpArgs false
set_option linter.unusedVariables false
def zName (k:Nat):Str:=122::runeS (97+k)
def freeN (outer:List Str) (k:Nat):List Str:=((List.range k).map zName).filter fun s=>decide (s ∉ outer)
def someL (b:Big) (l:Int) (kind:List Bool) (is:Bool) (k:Nat):Int:=((((portsB b l).take k).filter fun p=>at' kind p.1 == is).length:Int)
theorem someL_succ {b:Big} {l:Int} {kind:List Bool} {is:Bool} {k:Nat} (h:k<(portsB b l).length):someL b l kind is (k+1)=someL b l kind is k+if (at' kind (portsB b l)[k].1 == is)=true then 1 else 0:=by
  rw[someL,List.take_succ_eq_append_getElem h,List.filter_append,List.length_append,someL]
  by_cases hc:(at' kind (portsB b l)[k].1 == is)=true<;>simp[hc]
theorem someL_le (b:Big) (l:Int) (kind:List Bool) (is:Bool) (k:Nat):0≤someL b l kind is k∧someL b l kind is k≤k:=by
  have h1:=List.length_filter_le (fun p:Int × Int=>at' kind p.1 == is) ((portsB b l).take k)
  have h2:((portsB b l).take k).length≤k:=by simp;omega
  rw[someL]
  omega
theorem portsB_le {b:Big} (h:LinkSz b) (l:Int):(portsB b l).length≤1048576:=by
  have:=portsTo_len h.2.1 l b.nodes.length (Nat.le_refl _)
  have h1:=h.1
  rw[portsB]
  omega
abbrev l4Some_pre (b:Big) (_:Int) (kind:List Bool) (_:Bool):Prop:=LinkSz b∧kind.length=b.nodes.length
abbrev l4Some (b:Big) (l:Int) (kind:List Bool) (is:Bool):Int:=someL b l kind is (portsB b l).length
def l4Some_wp (b:Big) (link:Int) (kind:List Bool) (is:Bool) (Z:Int→Prop):Prop:=
  (l2Ports_pre b link)∧∀ r5:List (Int × Int),r5=l2Ports b link→loopW (σ:=Int × Int) (fun (count9,i10) K13=>∀ len14:Int,len14=(r5.length:Int)→∀ c16:Bool,c16=decide (i10<len14)→((c16=true→(0≤i10∧i10<r5.length)∧∀ x19:Int × Int,x19=at' r5 i10→(0≤x19.1∧x19.1<kind.length)∧∀ x23:Bool,x23=at' kind x19.1→∀ c25:Bool,c25=(x23 == is)→((c25=true→(I64 (count9+1))∧∀ v28:Int,v28=count9+1→(I64 (i10+1))∧∀ v32:Int,v32=i10+1→K13 (v28,v32))∧(c25=false→(I64 (i10+1))∧∀ v35:Int,v35=i10+1→K13 (count9,v35))))∧(c16=false→Z count9))) (0,0)
theorem l4Some_vc (b:Big) (l:Int) (kind:List Bool) (is:Bool) (h:l4Some_pre b l kind is):l4Some_wp b l kind is (fun y=>y=l4Some b l kind is):=by
  unfold l4Some_wp
  obtain⟨h1,h2⟩:=h
  have hp:=portsB_le h1 l
  simp only[forall_eq,decide_eq_true_eq,decide_eq_false_iff_not,l2Ports]
  refine⟨h1,loopW.upR (portsB b l).length (fun k c=>c=someL b l kind is k) 0 rfl ?_⟩
  rintro k _ K hk rfl IH
  dsimp only
  have hc:=someL_le b l kind is k
  refine⟨fun h3=>?_,fun h3=>?_⟩
  · have hk2:k<(portsB b l).length:=by omega
    rw[at_lt hk2]
    obtain⟨j,j1,j2,_⟩:=mem_portsTo.1 (List.getElem_mem hk2)
    refine⟨⟨by omega,by omega⟩,⟨by omega,by omega⟩,fun h4=>⟨by simp only[I64];omega,by simp only[I64];omega,IH hk2 _ ?_⟩,fun h4=>⟨by simp only[I64];omega,IH hk2 _ ?_⟩⟩
    · rw[someL_succ hk2,if_pos h4]
    · rw[someL_succ hk2,if_neg (by rw[h4];simp)];omega
  · rw[l4Some,show (portsB b l).length=k by omega]
theorem letters:∀ n:Fin 26,(fun i:Nat=>(([97,98,99,100,101,102,103,104,105,106,107,108,109,110,111,112,113,114,115,116,117,118,119,120,121,122]:Str).take (i+1)).drop i=runeS (97+(i:Int))) n.val:=by
  simp only
  decide
abbrev l4Letter_pre (k:Int):Prop:=0≤k∧k<26
abbrev l4Letter (k:Int):Str:=runeS (97+k)
def l4Letter_wp (link:Int) (Z:Str→Prop):Prop:=
  (I64 (link+1))∧∀ v3:Int,v3=link+1→(0≤link∧link≤v3∧v3≤[97,98,99,100,101,102,103,104,105,106,107,108,109,110,111,112,113,114,115,116,117,118,119,120,121,122].length)∧∀ s6:Str,s6=([97,98,99,100,101,102,103,104,105,106,107,108,109,110,111,112,113,114,115,116,117,118,119,120,121,122].take v3.toNat).drop link.toNat→Z s6
theorem l4Letter_vc (k:Int) (h:l4Letter_pre k):l4Letter_wp k (fun y=>y=l4Letter k):=by
  unfold l4Letter_wp
  obtain⟨h1,h2⟩:=h
  obtain⟨n,rfl⟩:∃ n:Nat,k=n:=⟨k.toNat,by omega⟩
  simp only[forall_eq,List.length_cons,List.length_nil]
  refine⟨by simp only[I64];omega,⟨by omega,by omega,by omega⟩,?_⟩
  rw[show ((n:Int)+1).toNat=n+1 by omega,Int.toNat_natCast]
  exact letters ⟨n,by omega⟩
end Go.Ab.Vg
/- Parts of agents: pure conditions of the functions of program and reference. -/
namespace Go.Ab.Vg
set_option linter.unusedSimpArgs false
set_option linter.unusedVariables false
abbrev indexI_pre (l:List Int) (_:Int):Prop:=l.length≤1048576
def indexI (l:List Int) (s:Int):Int:=if s ∈ l then (l.idxOf s:Int) else -1
theorem indexI_no {l:List Int} {s:Int} (h:∀ j<l.length,at' l (j:Int) ≠ s):indexI l s = -1:=by
  rw[indexI,if_neg]
  intro hm
  obtain⟨j,hj,he⟩:=List.getElem_of_mem hm
  exact h j hj (by rw[at_lt hj];exact he)
theorem indexI_yes {l:List Int} {s:Int} {k:Nat} (hk:k<l.length) (h:∀ j<k,at' l (j:Int) ≠ s) (he:at' l (k:Int)=s):indexI l s=k:=by
  rw[at_lt hk] at he
  have hm:s ∈ l:=he ▸ List.getElem_mem hk
  rw[indexI,if_pos hm]
  have h1:l.idxOf s<l.length:=List.idxOf_lt_length_iff.2 hm
  have h2:l[l.idxOf s]=s:=List.getElem_idxOf h1
  have h3:¬ l.idxOf s<k:=fun hlt=>h _ hlt (by rw[at_lt h1];exact h2)
  have h4:¬ k<l.idxOf s:=fun hlt=>by
    have:=List.not_of_lt_findIdx (p:=(· == s)) (xs:=l) hlt
    simp[he] at this
  omega
theorem indexI_lt (l:List Int) (s:Int) : -1≤indexI l s∧indexI l s<l.length∧(0≤indexI l s↔s ∈ l):=by
  rw[indexI]
  split
  · rename_i h
    have h1:l.idxOf s<l.length:=List.idxOf_lt_length_iff.2 h
    exact⟨by omega,by omega,fun _=>h,fun _=>by omega⟩
  · rename_i h
    exact⟨by omega,by omega,fun h2=>by omega,fun h2=>absurd h2 h⟩
theorem indexI_at {l:List Int} {s:Int} (h:s ∈ l):at' l (indexI l s)=s:=by
  rw[indexI,if_pos h,at_lt (List.idxOf_lt_length_iff.2 h)]
  exact List.getElem_idxOf _
theorem indexS_lt (l:List Str) (s:Str) : -1≤indexS l s∧indexS l s<l.length:=by
  rw[indexS]
  split
  · rename_i h
    have h1:l.idxOf s<l.length:=List.idxOf_lt_length_iff.2 h
    omega
  · omega
def indexI_wp (s:List Int) (v_:Int) (Z:Int→Prop):Prop:=
  ∀ len2:Int,len2=(s.length:Int)→loopW (σ:=Int) (fun v6 K9=>∀ c10:Bool,c10=decide (v6<len2)→((c10=true→(0≤v6∧v6<s.length)∧∀ x13:Int,x13=at' s v6→∀ c15:Bool,c15=decide (v_=x13)→((c15=true→Z v6)∧(c15=false→(I64 (v6+1))∧∀ v18:Int,v18=v6+1→K9 (v18))))∧(c10=false→Z (-1)))) (0)
theorem indexI_vc (l:List Int) (s:Int) (h:indexI_pre l s):indexI_wp l s (fun y=>y=indexI l s):=by
  unfold indexI_wp
  rintro _ rfl
  refine loopW.up1 l.length (fun k=>∀ j<k,at' l (j:Int) ≠ s) (by simp) ?_
  rintro k K hk hI IH
  simp only[forall_eq,decide_eq_true_eq,decide_eq_false_iff_not,I64]
  refine⟨fun h1=>⟨by omega,fun h2=>(indexI_yes (by omega) hI h2.symm).symm,fun h2=>⟨by omega,IH (by omega) fun j hj=>?_⟩⟩,fun h1=>?_⟩
  · rcases Nat.lt_or_ge j k with h3 | h3
    · exact hI j h3
    · rw[show j=k by omega];exact fun h=>h2 h.symm
  · rw[indexI_no fun j hj=>hI j (by omega)]
def numsP (p:Int→Bool) (n:Nat):List Int:=((List.range n).map fun i:Nat=>(i:Int)).filter p
def cntP (p:Int→Bool) (n:Nat):Int:=((numsP p n).length:Int)
section
variable (p:Int→Bool)
theorem numsP_yes {n:Nat} (h:p n=true):numsP p (n+1)=numsP p n++[(n:Int)]:=by simp[numsP,List.range_succ,h]
theorem numsP_no {n:Nat} (h:p n=false):numsP p (n+1)=numsP p n:=by simp[numsP,List.range_succ,h]
theorem cntP_yes {n:Nat} (h:p n=true):cntP p (n+1)=cntP p n+1:=by rw[cntP,numsP_yes p h,cntP];simp
theorem cntP_no {n:Nat} (h:p n=false):cntP p (n+1)=cntP p n:=by rw[cntP,numsP_no p h,cntP]
theorem mem_numsP {n:Nat} {x:Int}:x ∈ numsP p n↔(0≤x∧x<n)∧p x=true:=by
  simp only[numsP,List.mem_filter,List.mem_map,List.mem_range]
  exact⟨fun ⟨⟨i,h1,h2⟩,h3⟩=>⟨by omega,h3⟩,fun ⟨h1,h2⟩=>⟨⟨x.toNat,by omega,by omega⟩,h2⟩⟩
theorem numsP_len (n:Nat):(numsP p n).length≤n:=by
  have:=List.length_filter_le p ((List.range n).map fun i:Nat=>(i:Int))
  simpa[numsP] using this
theorem cntP_le (n:Nat):0≤cntP p n∧cntP p n≤n:=by
  have:=numsP_len p n
  rw[cntP];omega
theorem numsP_lt (n:Nat):(numsP p n).Pairwise (·<·):=by
  refine List.Pairwise.sublist List.filter_sublist ?_
  rw[List.pairwise_map]
  exact List.pairwise_lt_range.imp fun h=>by omega
theorem index_nums {n:Nat} {x:Int} (h:x ∈ numsP p n):indexI (numsP p n) x=cntP p x.toNat:=by
  induction n with
  | zero=>simp[numsP] at h
  | succ n ih=>
    cases hp:p n
    · rw[numsP_no p hp] at h ⊢;exact ih h
    · rw[numsP_yes p hp] at h ⊢
      by_cases hm:x ∈ numsP p n
      · rw[← ih hm,indexI,indexI,if_pos h,if_pos hm,List.idxOf_append,if_pos hm]
      · have hx:x=n:=by simpa[hm] using h
        subst hx
        rw[indexI,if_pos h,List.idxOf_append,if_neg hm]
        simp[cntP]
theorem index_nums_not {n:Nat} {x:Int} (h:x ∉ numsP p n):indexI (numsP p n) x = -1:=if_neg h
theorem numsP_congr {p q:Int→Bool} {n:Nat} (h:∀ x:Int,0≤x→x<n→p x=q x):numsP p n=numsP q n:=by
  refine List.filter_congr fun x hx=>?_
  simp only[List.mem_map,List.mem_range] at hx
  obtain⟨i,h1,rfl⟩:=hx
  exact h _ (by omega) (by omega)
end
def partNode (b:Big) (edges:List Int) (outer:List Str) (place:Int→Int) (name:Int→Str) (k:Int):GNode:=
  ⟨(at' b.nodes k).control,place (at' b.nodes k).parent,(at' b.nodes k).links.map fun l=>if 0≤indexI edges l then indexI edges l else edges.length+indexS outer (name l)⟩
def partB (b:Big) (nodes edges:List Int) (outer:List Str) (place:Int→Int) (_:Int→Prop) (name:Int→Str) (_:Int→Prop):Big:=
  ⟨b.roots,nodes.map (partNode b edges (sortedNames outer) place name),[],edges.length,sortedNames outer,[]⟩
structure partB_pre (b:Big) (nodes edges:List Int) (outer:List Str) (place:Int→Int) (Dp:Int→Prop) (name:Int→Str) (Dn:Int→Prop):Prop where
  n:nodes.length≤1048576
  e:edges.length≤1048576
  o:outer.length≤1048576
  i:∀ k ∈ nodes,0≤k∧k<b.nodes.length
  p:∀ k ∈ nodes,Dp (at' b.nodes k).parent
  l:∀ k ∈ nodes,(at' b.nodes k).links.length≤1048576
  d:∀ k ∈ nodes,∀ l ∈ (at' b.nodes k).links,l ∉ edges→Dn l
def partB_wp (b:Big) (nodes:List Int) (edges:List Int) (outer:List Str) (f4:Int→Int) (D4:Int→Prop) (f5:Int→Str) (D5:Int→Prop) (Z:Big→Prop):Prop:=
  ∀ len6:Int,len6=(edges.length:Int)→(sortedNames_pre outer)∧∀ r9:List Str,r9=sortedNames outer→∀ len19:Int,len19=(nodes.length:Int)→loopW (σ:=Int × (List GNode)) (fun (v40,l41) K48=>∀ c49:Bool,c49=decide (v40<len19)→((c49=true→(0≤v40∧v40<nodes.length)∧∀ x52:Int,x52=at' nodes v40→(0≤x52∧x52<b.nodes.length)∧∀ x60:GNode,x60=at' b.nodes x52→(0≤x52∧x52<b.nodes.length)∧∀ x63:GNode,x63=at' b.nodes x52→(D4 x60.parent)∧∀ r67:Int,r67=f4 x60.parent→(0≤x52∧x52<b.nodes.length)∧∀ x80:GNode,x80=at' b.nodes x52→∀ len82:Int,len82=(x80.links.length:Int)→loopW (σ:=Int × (List Int)) (fun (v106,l107) K115=>∀ c116:Bool,c116=decide (v106<len82)→((c116=true→(0≤v106∧v106<x80.links.length)∧∀ x119:Int,x119=at' x80.links v106→(indexI_pre edges x119)∧∀ r122:Int,r122=indexI edges x119→∀ c123:Bool,c123=decide (0≤r122)→((c123=true→(l107.length+1≤1073741824)∧∀ l126:List Int,l126=l107++[r122]→(I64 (v106+1))∧∀ v141:Int,v141=v106+1→K115 (v141,l126))∧(c123=false→(D5 x119)∧∀ r144:Str,r144=f5 x119→(indexS_pre r9 r144)∧∀ r146:Int,r146=indexS r9 r144→(I64 (len6+r146))∧∀ v148:Int,v148=len6+r146→(l107.length+1≤1073741824)∧∀ l151:List Int,l151=l107++[v148]→(I64 (v106+1))∧∀ v166:Int,v166=v106+1→K115 (v166,l151))))∧(c116=false→(l41.length+1≤1073741824)∧∀ l169:List GNode,l169=l41++[(GNode.mk x60.control r67 l107)]→(I64 (v40+1))∧∀ v183:Int,v183=v40+1→K48 (v183,l169)))) (0,([]:List Int)))∧(c49=false→Z (Big.mk b.roots l41 ([]:List Int) len6 r9 ([]:List Wire))))) (0,([]:List GNode))
theorem partB_vc (b:Big) (nodes edges:List Int) (outer:List Str) (f4:Int→Int) (D4:Int→Prop) (f5:Int→Str) (D5:Int→Prop) (h:partB_pre b nodes edges outer f4 D4 f5 D5):partB_wp b nodes edges outer f4 D4 f5 D5 (fun y=>y=partB b nodes edges outer f4 D4 f5 D5):=by
  unfold partB_wp
  obtain⟨h1,h2,h3,h4,h5,h6,h7⟩:=h
  have hs:=sortedNames_len outer
  simp only[forall_eq,decide_eq_true_eq,decide_eq_false_iff_not]
  refine⟨by omega,?_⟩
  refine loopW.upL nodes.length (fun k t=>t=(nodes.take k).map (partNode b edges (sortedNames outer) f4 f5)) [] (by simp) ?_
  rintro k _ K hk rfl IH
  dsimp only
  have hkl:((nodes.take k).map (partNode b edges (sortedNames outer) f4 f5)).length=k:=by simp;omega
  refine⟨fun hc=>?_,fun hc=>?_⟩
  · have hk2:k<nodes.length:=by omega
    rw[at_lt hk2]
    have hm:=List.getElem_mem hk2
    have e0:(nodes.take (k+1)).map (partNode b edges (sortedNames outer) f4 f5)=(nodes.take k).map (partNode b edges (sortedNames outer) f4 f5)++[partNode b edges (sortedNames outer) f4 f5 nodes[k]]:=by rw[List.take_succ_eq_append_getElem hk2,List.map_append];rfl
    have hi:=h4 _ hm
    have hl6:=h6 _ hm
    have hd:=h7 _ hm
    refine⟨⟨by omega,by omega⟩,hi,hi,h5 _ hm,hi,?_⟩
    refine loopW.upL (at' b.nodes nodes[k]).links.length (fun j t=>t=((at' b.nodes nodes[k]).links.take j).map (fun l=>if 0≤indexI edges l then indexI edges l else edges.length+indexS (sortedNames outer) (f5 l))) [] (by simp) ?_
    rintro j _ K2 hj rfl IH2
    dsimp only
    generalize hL:(at' b.nodes nodes[k]).links=L at *
    refine⟨fun hc2=>?_,fun hc2=>?_⟩
    · have hj2:j<L.length:=by omega
      rw[at_lt hj2]
      have e:=List.take_succ_eq_append_getElem hj2
      have hb:=indexI_lt edges L[j]
      have hsl:=indexS_lt (sortedNames outer) (f5 L[j])
      refine⟨⟨by omega,by omega⟩,by simpa using h2,fun h8=>⟨by simp;omega,by simp only[I64];omega,IH2 hj2 _ ?_⟩,fun h8=>⟨hd _ (List.getElem_mem hj2) (fun hmem=>h8 (hb.2.2.2 hmem)),by simp only[indexS_pre];omega,by simp only[I64];omega,by simp;omega,by simp only[I64];omega,IH2 hj2 _ ?_⟩⟩
      · rw[e,List.map_append];simp[h8]
      · rw[e,List.map_append];simp[h8]
    · refine⟨by omega,by simp only[I64];omega,IH hk2 _ ?_⟩
      rw[e0,partNode,hL,show j=L.length by omega,List.take_length]
  · rw[partB,show k=nodes.length by omega,List.take_length]
abbrev linkName_pre (l:Int):Prop:=0≤l∧l<26
abbrev linkName (l:Int):Str:=runeS (97+l)
def linkName_wp (l:Int) (Z:Str→Prop):Prop:=
  (I64 (97+l))∧∀ v3:Int,v3=97+l→(-2147483648≤v3∧v3≤2147483647)∧∀ v7:Str,v7=runeS v3→Z v7
theorem linkName_vc (l:Int) (h:linkName_pre l):linkName_wp l (fun y=>y=linkName l):=by
  unfold linkName_wp
  simp only[forall_eq]
  exact⟨by simp only[I64];omega,by omega,trivial⟩
abbrev cutP1_pre (_ _:Int) (below:List Int):Prop:=below.length≤1048576
abbrev cutP1 (p node:Int) (below:List Int):Int:=if p=node then -1 else indexI below p
def cutP1_wp (p:Int) (v_:Int) (v_':List Int) (Z:Int→Prop):Prop:=
  ∀ c2:Bool,c2=decide (p=v_)→((c2=true→Z (-1))∧(c2=false→(indexI_pre v_' p)∧∀ r5:Int,r5=indexI v_' p→Z r5))
theorem cutP1_vc (p node:Int) (below:List Int) (h:cutP1_pre p node below):cutP1_wp p node below (fun y=>y=cutP1 p node below):=by
  unfold cutP1_wp
  simp only[forall_eq,decide_eq_true_eq,decide_eq_false_iff_not]
  exact⟨fun h1=>by rw[cutP1,if_pos h1],fun h1=>⟨h,by rw[cutP1,if_neg h1]⟩⟩
abbrev cutP2_pre (_:Int) (above:List Int):Prop:=above.length≤1048576
abbrev cutP2 (p:Int) (above:List Int):Int:=if p<0 then p else indexI above p
def cutP2_wp (p:Int) (v_:List Int) (Z:Int→Prop):Prop:=
  ∀ c2:Bool,c2=decide (p<0)→((c2=true→Z p)∧(c2=false→(indexI_pre v_ p)∧∀ r5:Int,r5=indexI v_ p→Z r5))
theorem cutP2_vc (p:Int) (above:List Int) (h:cutP2_pre p above):cutP2_wp p above (fun y=>y=cutP2 p above):=by
  unfold cutP2_wp
  simp only[forall_eq,decide_eq_true_eq,decide_eq_false_iff_not]
  exact⟨fun h1=>by rw[cutP2,if_pos h1],fun h1=>⟨h,by rw[cutP2,if_neg h1]⟩⟩
abbrev cutP3_pre (l:Int) (b:Big):Prop:=I64 (l - b.edges)∧0≤l - b.edges∧l - b.edges<b.outer.length
abbrev cutP3 (l:Int) (b:Big):Str:=at' b.outer (l - b.edges)
def cutP3_wp (l:Int) (v_:Big) (Z:Str→Prop):Prop:=
  (I64 (l - v_.edges))∧∀ v3:Int,v3=l - v_.edges→(0≤v3∧v3<v_.outer.length)∧∀ x6:Str,x6=at' v_.outer v3→Z x6
theorem cutP3_vc (l:Int) (b:Big) (h:cutP3_pre l b):cutP3_wp l b (fun y=>y=cutP3 l b):=by
  unfold cutP3_wp
  simp only[forall_eq]
  exact⟨h.1,h.2,trivial⟩
abbrev cloneW_pre (l:List Wire):Prop:=l.length≤1048576
abbrev cloneW (l:List Wire):List Wire:=l
def cloneW_wp (s:List Wire) (Z:(List Wire)→Prop):Prop:=
  ∀ c2:Bool,(c2=true→s=[])→((c2=true→Z [])∧(c2=false→(([]:List Wire).length+s.length≤1073741824)∧∀ l7:List Wire,l7=([]:List Wire)++s→Z l7))
theorem cloneW_vc (l:List Wire) (h:cloneW_pre l):cloneW_wp l (fun y=>y=cloneW l):=by
  unfold cloneW_wp
  intro c hc
  refine⟨fun h1=>(hc h1).symm,fun _=>⟨by simp;omega,?_⟩⟩
  rintro _ rfl
  simp
theorem take_succ_at {α:Type} [Inhabited α] {l:List α} {k:Nat} (h:k<l.length):l.take (k+1)=l.take k++[at' l (k:Int)]:=by rw[at_lt h];exact List.take_succ_eq_append_getElem h
structure ownB_pre (b:Big):Prop where
  n:b.nodes.length≤1048576
  s:b.sites.length≤1048576
  o:b.outer.length≤1048576
  i:b.inner.length≤1048576
  l:∀ k,k<b.nodes.length→(at' b.nodes (k:Int)).links.length≤1048576
abbrev ownB (b:Big):Big:=b
def ownB_wp (b:Big) (Z:Big→Prop):Prop:=
  (cloneI_pre b.sites)∧∀ r7:List Int,r7=cloneI b.sites→(cloneS_pre b.outer)∧∀ r10:List Str,r10=cloneS b.outer→(cloneW_pre b.inner)∧∀ r13:List Wire,r13=cloneW b.inner→∀ len204:Int,len204=(b.nodes.length:Int)→loopW (σ:=Int × (List GNode)) (fun (v237,l238) K249=>∀ c250:Bool,c250=decide (v237<len204)→((c250=true→(0≤v237∧v237<b.nodes.length)∧∀ x253:GNode,x253=at' b.nodes v237→(cloneI_pre x253.links)∧∀ r275:List Int,r275=cloneI x253.links→(l238.length+1≤1073741824)∧∀ l278:List GNode,l278=l238++[(GNode.mk x253.control x253.parent r275)]→(I64 (v237+1))∧∀ v329:Int,v329=v237+1→K249 (v329,l278))∧(c250=false→Z (Big.mk b.roots l238 r7 b.edges r10 r13)))) (0,([]:List GNode))
theorem ownB_vc (b:Big) (h:ownB_pre b):ownB_wp b (fun y=>y=ownB b):=by
  unfold ownB_wp
  obtain⟨h1,h2,h3,h4,h5⟩:=h
  simp only[forall_eq,decide_eq_true_eq,decide_eq_false_iff_not,cloneI,cloneS,cloneW]
  refine⟨h2,h3,h4,?_⟩
  refine loopW.upL b.nodes.length (fun k t=>t=b.nodes.take k) [] (by simp) ?_
  rintro k _ K hk rfl IH
  dsimp only
  refine⟨fun hc=>?_,fun hc=>?_⟩
  · have hk2:k<b.nodes.length:=by omega
    exact⟨⟨by omega,by omega⟩,h5 k hk2,by simp;omega,by simp only[I64];omega,IH hk2 _ (take_succ_at hk2).symm⟩
  · rw[show k=b.nodes.length by omega,List.take_length]
theorem ValidB.ownPre {sig:Sig} {b:Big} (h:ValidB sig b):ownB_pre b:=
  ⟨by have:=h.len;omega,by have:=h.slen;omega,by have:=h.outer;omega,by have:=h.inner;omega,fun k hk=>by have:=h.portsLe (i:=k) (by omega);omega⟩
def validB (sig:Sig) (b:Big):Big × Bool:=if goodB sig b then (b,true) else (⟨0,[],[],0,[],[]⟩,false)
abbrev validI:=validB
abbrev validI_pre (sig:Sig) (b:Big):Prop:=SmallB sig b
def validI_wp (sig:List Control) (b:Big) (Z:(Big × Bool)→Prop):Prop:=
  (SmallB sig b)∧∀ r6:Bool,r6=goodB sig b→((r6=true→(ownB_pre b)∧∀ r15:Big,r15=ownB b→Z (r15,true))∧(r6=false→Z ((Big.mk 0 [] [] 0 [] []),false)))
theorem validI_vc (sig:Sig) (b:Big) (h:validI_pre sig b):validI_wp sig b (fun y=>y=validI sig b):=by
  unfold validI_wp
  simp only[forall_eq,ownB]
  refine⟨h,fun h1=>⟨(goodB_valid h1).ownPre,?_⟩,fun h1=>?_⟩
  · rw[validI,validB,if_pos h1]
  · rw[validI,validB,if_neg (by rw[h1];simp)]
abbrev ancestorsOf_pre (b:Big) (node:Int):Prop:=Down b∧node<b.nodes.length
abbrev ancestorsOf (b:Big) (node:Int):=above b node
def ancestorsOf_wp (b:Big) (node:Int) (Z:(List Int)→Prop):Prop:=
  loopW (σ:=Int × (List Int)) (fun (node14,l15) K19=>∀ c20:Bool,c20=decide (0≤node14)→((c20=true→(0≤node14∧node14<b.nodes.length)∧∀ x23:GNode,x23=at' b.nodes node14→(l15.length+1≤1073741824)∧∀ l26:List Int,l26=l15++[x23.parent]→K19 (x23.parent,l26))∧(c20=false→Z l15))) (node,([]:List Int))
theorem ancestorsOf_vc (b:Big) (node:Int) (h:ancestorsOf_pre b node):ancestorsOf_wp b node (fun y=>y=ancestorsOf b node):=by
  unfold ancestorsOf_wp
  obtain⟨⟨hd8,hd⟩,hn⟩:=h
  refine loopW.byM (fun s=>∃ m:Nat,s.1+1≤m∧s.1<b.nodes.length∧s.2++aboveF b m s.1=above b node∧s.2.length+m≤b.nodes.length+1) (fun s=>(s.1+1).toNat) ⟨b.nodes.length+1,by simp only;omega,hn,by simp[above],by simp⟩ ?_
  rintro⟨cur,acc⟩ ⟨m,h1,h2,h3,h4⟩
  simp only at h1 h2 h3 h4
  simp only[forall_eq,decide_eq_true_eq,decide_eq_false_iff_not]
  refine⟨fun h5=>⟨by omega,by omega,?_⟩,fun h5=>?_⟩
  · obtain⟨q,rfl⟩:∃ q:Nat,cur=q:=⟨cur.toNat,by omega⟩
    obtain⟨m',rfl⟩:∃ m',m=m'+1:=⟨m - 1,by omega⟩
    have hp:(at' b.nodes (q:Int)).parent=parentB b q:=by simp[at',parentB]
    have:=hd q (by omega)
    rw[hp]
    refine⟨⟨m',by omega,by omega,?_,by simp;omega⟩,by omega⟩
    rw[← h3,aboveF,if_neg (by omega),Int.toNat_natCast]
    simp
  · rw[ancestorsOf,← h3]
    cases m with
    | zero=>simp[aboveF]
    | succ m=>rw[aboveF,if_pos (by omega)];simp
abbrev l2Above_pre (b:Big) (node:Int):Prop:=Down b∧node<b.nodes.length
abbrev l2Above (b:Big) (node:Int):=above b node
def l2Above_wp (b:Big) (node:Int) (Z:(List Int)→Prop):Prop:=
  loopW (σ:=Int × (List Int)) (fun (node14,l15) K19=>∀ c20:Bool,c20=decide (0≤node14)→((c20=true→(0≤node14∧node14<b.nodes.length)∧∀ x23:GNode,x23=at' b.nodes node14→(l15.length+1≤1073741824)∧∀ l26:List Int,l26=l15++[x23.parent]→K19 (x23.parent,l26))∧(c20=false→Z l15))) (node,([]:List Int))
theorem l2Above_vc (b:Big) (node:Int) (h:l2Above_pre b node):l2Above_wp b node (fun y=>y=l2Above b node):=ancestorsOf_vc b node h
theorem aboveF_fuel {b:Big} (hd:Down b):∀ (m m':Nat) (p:Int),p<b.nodes.length→p+1≤m→p+1≤m'→aboveF b m p=aboveF b m' p
  | 0,0,_,_,_,_=>rfl
  | 0,m'+1,p,_,h,_=>by rw[aboveF,aboveF,if_pos (by omega)]
  | m+1,0,p,_,_,h=>by rw[aboveF,aboveF,if_pos (by omega)]
  | m+1,m'+1,p,h,h1,h2=>by
    rw[aboveF,aboveF]
    split
    · rfl
    · have:=hd.2 p.toNat (by omega)
      rw[aboveF_fuel hd m m' _ (by omega) (by omega) (by omega)]
theorem above_neg {b:Big} {p:Int} (h:p<0):above b p=[]:=by rw[above,aboveF,if_pos h]
theorem above_step {b:Big} (hd:Down b) {k:Int} (h0:0≤k) (h:k<b.nodes.length):above b k=(at' b.nodes k).parent::above b (at' b.nodes k).parent∧(at' b.nodes k).parent<k:=by
  have hp:(at' b.nodes k).parent=parentB b k.toNat:=by simp[at',parentB]
  have:=hd.2 k.toNat (by omega)
  rw[hp,above,aboveF,if_neg (by omega),above,aboveF_fuel hd b.nodes.length (b.nodes.length+1) _ (by omega) (by omega) (by omega)]
  exact⟨rfl,by omega⟩
theorem above_lt {b:Big} (hd:Down b):∀ (m:Nat) (k:Int),k.toNat≤m→k<b.nodes.length→∀ x ∈ above b k,x<k
  | m,k,hm,hk,x,hx=>by
    rcases Int.lt_or_le k 0 with h | h
    · rw[above_neg h] at hx;cases hx
    · obtain⟨h1,h2⟩:=above_step hd h hk
      rw[h1] at hx
      rcases List.mem_cons.1 hx with rfl | hx
      · exact h2
      · rcases Int.lt_or_le (at' b.nodes k).parent 0 with h3 | h3
        · rw[above_neg h3] at hx;cases hx
        · match m with
          | 0=>omega
          | m+1=>have:=above_lt hd m _ (by omega) (by omega) x hx;omega
theorem ValidB.down {sig:Sig} {b:Big} (h:ValidB sig b):Down b:=⟨h.len,fun i hi=>by
  have:=(h.par i hi).2
  simpa[parentB,hi] using this⟩
theorem goodNames_lt {l:List Str} (h:goodNames l=true):l.Pairwise (·<·):=by
  simp only[goodNames,Bool.and_eq_true,decide_eq_true_eq,List.all_eq_true,List.mem_range,ascends,Bool.or_eq_true,Go.Proofs.bytesLess_eq] at h
  have h1:∀ i,(hi:i+1<l.length)→l[i]<l[i+1]:=fun i hi=>by
    have:=(h.2 (i+1) hi).2
    simpa[hi,show i<l.length by omega] using this
  rw[List.pairwise_iff_getElem]
  intro i j hi hj hij
  obtain⟨d,rfl⟩:∃ d,j=i+1+d:=⟨j - i - 1,by omega⟩
  induction d with
  | zero=>exact h1 i hj
  | succ d ih=>exact str_lt_trans (ih (by omega) (by omega)) (h1 (i+1+d) hj)
theorem sortedNames_of {l:List Str} (h:l.Pairwise (·<·)):sortedNames l=l:=strict_eq (sortedNames_spec l).1 h (sortedNames_spec l).2
theorem goodB_outer {sig:Sig} {b:Big} (h:goodB sig b=true):b.outer.Pairwise (·<·):=by
  simp only[goodB,Bool.and_eq_true] at h
  exact goodNames_lt h.1.1.1.1.2
abbrev l4Below_pre (b:Big) (_:Int):Prop:=Down b
def l4Below (b:Big) (node:Int):List Bool:=(List.range b.nodes.length).map fun i:Nat=>decide (node ∈ above b i)
def l4Below_wp (b:Big) (node:Int) (Z:(List Bool)→Prop):Prop:=
  loopW (σ:=Int × (List Bool)) (fun (i14,l15) K19=>∀ len20:Int,len20=(b.nodes.length:Int)→∀ c22:Bool,c22=decide (i14<len20)→((c22=true→(l2Above_pre b i14)∧∀ r25:List Int,r25=l2Above b i14→(r25.length≤1048576)∧∀ r34:Bool,r34=hasI r25 node→(l15.length+1≤1073741824)∧∀ l36:List Bool,l36=l15++[r34]→(I64 (i14+1))∧∀ v46:Int,v46=i14+1→K19 (v46,l36))∧(c22=false→Z l15))) (0,([]:List Bool))
theorem l4Below_vc (b:Big) (node:Int) (h:l4Below_pre b node):l4Below_wp b node (fun y=>y=l4Below b node):=by
  unfold l4Below_wp
  have h8:=h.1
  simp only[forall_eq,decide_eq_true_eq,decide_eq_false_iff_not]
  refine loopW.upL b.nodes.length (fun k t=>t=(List.range k).map fun i:Nat=>decide (node ∈ above b i)) [] rfl ?_
  rintro k _ K hk rfl IH
  dsimp only
  refine⟨fun hc=>⟨⟨h,by omega⟩,?_,by simp;omega,by simp only[I64];omega,IH (by omega) _ ?_⟩,fun hc=>?_⟩
  · have:=aboveF_len b (b.nodes.length+1) (k:Int)
    simp only[l2Above,above];omega
  · rw[List.range_succ,List.map_append]
    congr 1
    simp only[List.map_cons,List.map_nil]
    congr 1
    rw[Bool.eq_iff_iff,hasI_iff,decide_eq_true_eq]
  · rw[l4Below,show k=b.nodes.length by omega]
theorem at_below {b:Big} {node k:Int} (h0:0≤k) (h:k<b.nodes.length):at' (l4Below b node) k=decide (node ∈ above b k):=by
  obtain⟨n,rfl⟩:∃ n:Nat,k=n:=⟨k.toNat,by omega⟩
  rw[at_lt (by simp[l4Below];omega)]
  simp[l4Below]
def takeNode (kind:Int→Bool) (links:Int→Int) (one:Bool) (b:Big) (k:Int):GNode:=
  ⟨(at' b.nodes k).control,if 0≤(at' b.nodes k).parent∧kind (at' b.nodes k).parent=true then cntP kind (at' b.nodes k).parent.toNat else if one=true then -1 else (at' b.nodes k).parent,(at' b.nodes k).links.map links⟩
def takeB (b:Big) (kind:Int→Bool) (links:Int→Int) (one:Bool):List GNode:=(numsP kind b.nodes.length).map (takeNode kind links one b)
abbrev l4Take (b:Big) (kind:List Bool) (is:Bool) (links:List Int) (one:Bool):List GNode:=takeB b (fun k=>at' kind k == is) (fun l=>at' links l) one
structure l4Take_pre (b:Big) (kind:List Bool) (is:Bool) (links:List Int) (_:Bool):Prop where
  d:DownB b
  k:kind.length=b.nodes.length
  l:∀ k:Int,0≤k→k<b.nodes.length→(at' b.nodes k).links.length≤1048576
  r:∀ k:Int,0≤k→k<b.nodes.length→(at' kind k == is)=true→∀ l ∈ (at' b.nodes k).links,0≤l∧l<links.length
def l4Take_wp (b:Big) (kind:List Bool) (is:Bool) (links:List Int) (one:Bool) (Z:(List GNode)→Prop):Prop:=
  loopW (σ:=Int × (List Int) × (List GNode)) (fun (i19,l20,l21) K26=>∀ len27:Int,len27=(b.nodes.length:Int)→∀ c29:Bool,c29=decide (i19<len27)→((c29=true→∀ len31:Int,len31=(l21.length:Int)→(l20.length+1≤1073741824)∧∀ l34:List Int,l34=l20++[len31]→(0≤i19∧i19<kind.length)∧∀ x45:Bool,x45=at' kind i19→∀ c47:Bool,c47 = !(x45 == is)→((c47=true→(I64 (i19+1))∧∀ v50:Int,v50=i19+1→K26 (v50,l34,l21))∧(c47=false→(0≤i19∧i19<b.nodes.length)∧∀ x53:GNode,x53=at' b.nodes i19→joinW (fun (J55:Bool→Prop)=>∀ c296:Bool,c296=decide (0≤x53.parent)→((c296=true→(0≤x53.parent∧x53.parent<kind.length)∧∀ x299:Bool,x299=at' kind x53.parent→∀ c301:Bool,c301=(x299 == is)→J55 (c301))∧(c296=false→J55 (false)))) (fun b58=>((b58=true→(0≤x53.parent∧x53.parent<l34.length)∧∀ x68:Int,x68=at' l34 x53.parent→loopW (σ:=Int × (List Int)) (fun (k87,l88) K94=>(0≤i19∧i19<b.nodes.length)∧∀ x96:GNode,x96=at' b.nodes i19→∀ len98:Int,len98=(x96.links.length:Int)→∀ c100:Bool,c100=decide (k87<len98)→((c100=true→(0≤i19∧i19<b.nodes.length)∧∀ x103:GNode,x103=at' b.nodes i19→(0≤k87∧k87<x96.links.length)∧∀ x107:Int,x107=at' x96.links k87→(0≤x107∧x107<links.length)∧∀ x110:Int,x110=at' links x107→(l88.length+1≤1073741824)∧∀ l113:List Int,l113=l88++[x110]→(I64 (k87+1))∧∀ v125:Int,v125=k87+1→K94 (v125,l113))∧(c100=false→(0≤i19∧i19<b.nodes.length)∧∀ x128:GNode,x128=at' b.nodes i19→(l21.length+1≤1073741824)∧∀ l133:List GNode,l133=l21++[(GNode.mk x96.control x68 l88)]→(I64 (i19+1))∧∀ v144:Int,v144=i19+1→K26 (v144,l34,l133)))) (0,([]:List Int)))∧(b58=false→((one=true→loopW (σ:=Int × (List Int)) (fun (k162,l163) K169=>(0≤i19∧i19<b.nodes.length)∧∀ x171:GNode,x171=at' b.nodes i19→∀ len173:Int,len173=(x171.links.length:Int)→∀ c175:Bool,c175=decide (k162<len173)→((c175=true→(0≤i19∧i19<b.nodes.length)∧∀ x178:GNode,x178=at' b.nodes i19→(0≤k162∧k162<x171.links.length)∧∀ x182:Int,x182=at' x171.links k162→(0≤x182∧x182<links.length)∧∀ x185:Int,x185=at' links x182→(l163.length+1≤1073741824)∧∀ l188:List Int,l188=l163++[x185]→(I64 (k162+1))∧∀ v200:Int,v200=k162+1→K169 (v200,l188))∧(c175=false→(0≤i19∧i19<b.nodes.length)∧∀ x203:GNode,x203=at' b.nodes i19→(l21.length+1≤1073741824)∧∀ l208:List GNode,l208=l21++[(GNode.mk x171.control (-1) l163)]→(I64 (i19+1))∧∀ v219:Int,v219=i19+1→K26 (v219,l34,l208)))) (0,([]:List Int)))∧(one=false→loopW (σ:=Int × (List Int)) (fun (k237,l238) K244=>(0≤i19∧i19<b.nodes.length)∧∀ x246:GNode,x246=at' b.nodes i19→∀ len248:Int,len248=(x246.links.length:Int)→∀ c250:Bool,c250=decide (k237<len248)→((c250=true→(0≤i19∧i19<b.nodes.length)∧∀ x253:GNode,x253=at' b.nodes i19→(0≤k237∧k237<x246.links.length)∧∀ x257:Int,x257=at' x246.links k237→(0≤x257∧x257<links.length)∧∀ x260:Int,x260=at' links x257→(l238.length+1≤1073741824)∧∀ l263:List Int,l263=l238++[x260]→(I64 (k237+1))∧∀ v275:Int,v275=k237+1→K244 (v275,l263))∧(c250=false→(0≤i19∧i19<b.nodes.length)∧∀ x278:GNode,x278=at' b.nodes i19→(l21.length+1≤1073741824)∧∀ l283:List GNode,l283=l21++[(GNode.mk x246.control x53.parent l238)]→(I64 (i19+1))∧∀ v294:Int,v294=i19+1→K26 (v294,l34,l283)))) (0,([]:List Int))))))))))∧(c29=false→Z l21))) (0,([]:List Int),([]:List GNode))
theorem l4Take_vc (b:Big) (kind:List Bool) (is:Bool) (links:List Int) (one:Bool) (h:l4Take_pre b kind is links one):l4Take_wp b kind is links one (fun y=>y=l4Take b kind is links one):=by
  unfold l4Take_wp
  obtain⟨⟨hn,hd⟩,hk0,hl,hr⟩:=h
  simp only[forall_eq,decide_eq_true_eq,decide_eq_false_iff_not]
  refine loopW.up b.nodes.length (fun s=>s.1) (fun k (t:List Int × List GNode)=>((k:Int),t)) (fun _ _=>rfl) (fun k t=>t.1=(List.range k).map (fun i=>cntP (fun k=>at' kind k == is) i)∧t.2=(numsP (fun k=>at' kind k == is) k).map (takeNode (fun k=>at' kind k == is) (fun l=>at' links l) one b)) ([],[]) rfl ⟨rfl,rfl⟩ ?_
  rintro k ⟨_,_⟩ K hk ⟨rfl,rfl⟩ IH
  dsimp only
  have hle:=numsP_len (fun k=>at' kind k == is) k
  have hlen:((numsP (fun k=>at' kind k == is) k).map (takeNode (fun k=>at' kind k == is) (fun l=>at' links l) one b)).length=(numsP (fun k=>at' kind k == is) k).length:=List.length_map _
  have hto:(List.range k).map (fun i=>cntP (fun k=>at' kind k == is) i)++[((((numsP (fun k=>at' kind k == is) k).map (takeNode (fun k=>at' kind k == is) (fun l=>at' links l) one b)).length:Nat):Int)]=(List.range (k+1)).map (fun i=>cntP (fun k=>at' kind k == is) i):=by
    rw[hlen,List.range_succ,List.map_append];rfl
  refine⟨fun hc=>⟨by simp;omega,⟨by omega,by omega⟩,?_,?_⟩,fun hc=>?_⟩
  · intro h1
    refine⟨by simp only[I64];omega,?_⟩
    rw[show (k:Int)+1=((k+1:Nat):Int) by omega]
    refine IH (by omega) (_,_) ⟨hto,?_⟩
    rw[numsP_no _ (by simpa using h1)]
  · intro h1
    have h1':(at' kind (k:Int) == is)=true:=by simpa using h1
    have hk1:(0:Int)≤k∧(k:Int)<b.nodes.length:=⟨by omega,by omega⟩
    have hpar:=hd k hk1.1 hk1.2
    have hll:=hl k hk1.1 hk1.2
    have hrr:=hr k hk1.1 hk1.2 h1'
    have inner:∀ (q:Int),q=(takeNode (fun k=>at' kind k == is) (fun l=>at' links l) one b k).parent→loopW (σ:=Int × List Int) (fun s K94=>(0≤(k:Int)∧(k:Int)<b.nodes.length)∧(s.1<((at' b.nodes (k:Int)).links.length:Int)→(0≤(k:Int)∧(k:Int)<b.nodes.length)∧(0≤s.1∧s.1<(at' b.nodes (k:Int)).links.length)∧(0≤at' (at' b.nodes (k:Int)).links s.1∧at' (at' b.nodes (k:Int)).links s.1<links.length)∧s.2.length+1≤1073741824∧I64 (s.1+1)∧K94 (s.1+1,s.2++[at' links (at' (at' b.nodes (k:Int)).links s.1)]))∧(¬ s.1<((at' b.nodes (k:Int)).links.length:Int)→(0≤(k:Int)∧(k:Int)<b.nodes.length)∧((numsP (fun k=>at' kind k == is) k).map (takeNode (fun k=>at' kind k == is) (fun l=>at' links l) one b)).length+1≤1073741824∧I64 ((k:Int)+1) ∧
        K ((k:Int)+1,(List.range k).map (fun i=>cntP (fun k=>at' kind k == is) i)++[((((numsP (fun k=>at' kind k == is) k).map (takeNode (fun k=>at' kind k == is) (fun l=>at' links l) one b)).length:Nat):Int)],(numsP (fun k=>at' kind k == is) k).map (takeNode (fun k=>at' kind k == is) (fun l=>at' links l) one b)++[GNode.mk (at' b.nodes (k:Int)).control q s.2]))) (0,[]):=by
      rintro q rfl
      refine loopW.upL (at' b.nodes (k:Int)).links.length (fun j t=>t=((at' b.nodes (k:Int)).links.take j).map fun l=>at' links l) [] (by simp) ?_
      rintro j _ K2 hj rfl IH2
      dsimp only
      refine⟨hk1,fun h2=>⟨hk1,⟨by omega,h2⟩,?_,by simp;omega,by simp only[I64];omega,IH2 (by omega) _ ?_⟩,fun h2=>⟨hk1,by omega,by simp only[I64];omega,?_⟩⟩
      · exact hrr _ (at_mem ⟨by omega,h2⟩)
      · rw[take_succ_at (by omega),List.map_append];rfl
      · rw[show (k:Int)+1=((k+1:Nat):Int) by omega]
        refine IH (by omega) (_,_) ⟨hto,?_⟩
        rw[numsP_yes _ h1',List.map_append,show j=(at' b.nodes (k:Int)).links.length by omega,List.take_length]
        rfl
    refine⟨hk1,fun c=>c=(decide (0≤(at' b.nodes (k:Int)).parent) && (at' kind (at' b.nodes (k:Int)).parent == is)),⟨fun h2=>⟨⟨h2,by omega⟩,?_⟩,fun h2=>?_⟩,?_⟩
    · rw[decide_eq_true h2,Bool.true_and]
    · rw[decide_eq_false h2,Bool.false_and]
    · rintro _ rfl
      refine⟨fun h2=>?_,fun h2=>⟨fun h3=>?_,fun h3=>?_⟩⟩
      · simp only[Bool.and_eq_true,decide_eq_true_eq] at h2
        rw[hto]
        have e:at' ((List.range (k+1)).map (fun i=>cntP (fun k=>at' kind k == is) i)) (at' b.nodes (k:Int)).parent=cntP (fun k=>at' kind k == is) (at' b.nodes (k:Int)).parent.toNat:=by
          obtain⟨n,hn⟩:∃ n:Nat,(at' b.nodes (k:Int)).parent=n:=⟨(at' b.nodes (k:Int)).parent.toNat,by omega⟩
          rw[hn,at_lt (by simp;omega)]
          simp
        refine⟨⟨h2.1,by simp;omega⟩,?_⟩
        rw[e,← hto]
        exact inner _ (by rw[takeNode];simp only[h2,and_self,if_true])
      · exact inner _ (by
          rw[takeNode]
          simp only[Bool.and_eq_false_iff,decide_eq_false_iff_not] at h2
          simp only
          rw[if_neg (fun h4=>by rcases h2 with h2 | h2;exact h2 h4.1;exact absurd (h2.symm.trans h4.2) (by decide)),if_pos h3])
      · exact inner _ (by
          rw[takeNode]
          simp only[Bool.and_eq_false_iff,decide_eq_false_iff_not] at h2
          simp only
          rw[if_neg (fun h4=>by rcases h2 with h2 | h2;exact h2 h4.1;exact absurd (h2.symm.trans h4.2) (by decide)),if_neg (by rw[h3];simp)])
  · rw[l4Take,takeB,show k=b.nodes.length by omega]
end Go.Ab.Vg
