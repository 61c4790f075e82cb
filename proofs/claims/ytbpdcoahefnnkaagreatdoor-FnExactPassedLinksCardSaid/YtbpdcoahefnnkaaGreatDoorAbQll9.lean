/- Merged texts (9 of 15) of the proof that ends in Lly: Rp Rb Md St Mu Yb Co Mp Em Se Sd Sg Na Nb. -/
import Derived.Test.YtbpdcoahefnnkaaGreatDoorAbQll8
/- Readers of the laws' arguments: processes. -/
namespace Go.Proofs.YtbpdcoahefnnkaaGreatDoor
open Go.ChangeShapes Go.WideShapes Go.ChangeAt Go.RowKit Go.Ab
set_option maxRecDepth 100000
theorem own:ownKnob Tryz.prog.godebug=none:=by kernel_rfl
theorem laidOut:laidOutB Tryz.prog=true:=by kernel_rfl
theorem underBool:Tryz.prog.underlying 4=some .bool:=Tryz.underlying4
end Go.Proofs.YtbpdcoahefnnkaaGreatDoor
/- Readers of the laws' arguments: signatures and bigraphs. -/
namespace Go.Proofs.YtbpdcoahefnnkaaGreatDoor
open Go.ChangeShapes Go.WideShapes Go.ChangeAt Go.RowKit Go.Ab
set_option maxRecDepth 100000
theorem rControl:Reader Tryz.prog 89 Control.cells (fun x=>x.name.length≤9223372036854775807):=by
 have h:=Reader.struct Tryz.underlying89 (n:=3) (by kernel_rfl) (FReader.cons (n:=1) rfl (by kernel_rfl) (Reader.str Tryz.underlying9) (FReader.cons (n:=1) rfl (by kernel_rfl) (Reader.int Tryz.underlying3) (FReader.cons (n:=1) rfl (by kernel_rfl) (Reader.int Tryz.underlying3) (FReader.nil 3))))
 exact h.map (fun p=>⟨p.1,p.2.1,p.2.2.1⟩) (fun p=>rfl) (fun p hp=>hp.1)
theorem rWire:Reader Tryz.prog 130 Wire.cells (fun x=>x.name.length≤9223372036854775807):=by
 have h:=Reader.struct Tryz.underlying130 (n:=2) (by kernel_rfl) (FReader.cons (n:=1) rfl (by kernel_rfl) (Reader.str Tryz.underlying9) (FReader.cons (n:=1) rfl (by kernel_rfl) (Reader.int Tryz.underlying3) (FReader.nil 2)))
 exact h.map (fun p=>⟨p.1,p.2.1⟩) (fun p=>rfl) (fun p hp=>hp.1)
theorem rInts:Reader Tryz.prog 24 (fun l:List Int=>[Ab.encI false l]) (fun l=>l.length≤9223372036854775807∧∀ p ∈ l,I64 p):=
 Reader.slice Tryz.underlying24 (of_decide_eq_true (by kernel_rfl)) (Reader.int Tryz.underlying3)
theorem rStrs:Reader Tryz.prog 25 (fun l:List Str=>[Ab.encS false l]) (fun l=>l.length≤9223372036854775807∧∀ s ∈ l,s.length≤9223372036854775807):=
 Reader.slice Tryz.underlying25 (of_decide_eq_true (by kernel_rfl)) (Reader.str Tryz.underlying9)
theorem rGNode:Reader Tryz.prog 127 (GNode.cells false) (fun x=>x.links.length≤9223372036854775807∧I64 x.parent):=by
 have h:=Reader.struct Tryz.underlying127 (n:=3) (by kernel_rfl) (FReader.cons (n:=1) rfl (by kernel_rfl) (Reader.int Tryz.underlying3) (FReader.cons (n:=1) rfl (by kernel_rfl) (Reader.int Tryz.underlying3) (FReader.cons (n:=1) rfl (by kernel_rfl) rInts (FReader.nil 3))))
 exact h.map (fun p=>⟨p.1,p.2.1,p.2.2.1⟩) (fun p=>rfl) (fun p hp=>⟨hp.2.2.1.1,hp.2.1⟩)
theorem rNodes:Reader Tryz.prog 23 (fun l:List GNode=>[Ab.encN false l]) (fun l=>l.length≤9223372036854775807∧∀ x ∈ l,x.links.length≤9223372036854775807∧I64 x.parent):=
 Reader.slice Tryz.underlying23 (of_decide_eq_true (by kernel_rfl)) rGNode
theorem rWires:Reader Tryz.prog 26 (fun l:List Wire=>[Ab.encW false l]) (fun l=>l.length≤9223372036854775807∧∀ x ∈ l,x.name.length≤9223372036854775807):=
 Reader.slice Tryz.underlying26 (of_decide_eq_true (by kernel_rfl)) rWire
theorem rSig:ArgR Tryz.prog 22 (encSig false) HugeS:=by
 refine ArgR.cell (cell_slice Tryz.underlying22) ?_
 have h:=Reader.slice Tryz.underlying22 (of_decide_eq_true (by kernel_rfl)) rControl
 exact h.map (fun p=>p) (fun p=>rfl) (fun p hp=>⟨hp.1,hp.2⟩)
theorem rBigF:Reader Tryz.prog 28 (Big.cells false) HugeB:=by
 have h:=Reader.struct Tryz.underlying28 (n:=6) (by kernel_rfl) (FReader.cons (n:=1) rfl (by kernel_rfl) (Reader.int Tryz.underlying3) (FReader.cons (n:=1) rfl (by kernel_rfl) rNodes (FReader.cons (n:=1) rfl (by kernel_rfl) rInts
  (FReader.cons (n:=1) rfl (by kernel_rfl) (Reader.int Tryz.underlying3) (FReader.cons (n:=1) rfl (by kernel_rfl) rStrs (FReader.cons (n:=1) rfl (by kernel_rfl) rWires (FReader.nil 6)))))))
 exact h.map (e':=Big.cells false) (ok':=HugeB) (fun p=>⟨p.1,p.2.1,p.2.2.1,p.2.2.2.1,p.2.2.2.2.1,p.2.2.2.2.2.1⟩) (fun p=>rfl) (fun p hp=>by
  obtain⟨_,h1,h2,_,h3,h4,_⟩:=hp
  exact⟨h1.1,fun x hx=>(h1.2 x hx).1,h2.1,h3.1,h3.2,h4.1,h4.2,fun x hx=>(h1.2 x hx).2,h2.2⟩)
theorem rBig:ArgR Tryz.prog 28 (encB false) HugeB:=ArgR.struct Tryz.underlying28 rBigF
end Go.Proofs.YtbpdcoahefnnkaaGreatDoor
/- IsMatch, IsActiveMatch, MatchLinks (statements 12, 14, 16): the laws' own functions on matches, and the laws. -/
namespace Go.Ab.Vg
set_option linter.unusedSimpArgs false
set_option linter.unusedVariables false
abbrev HugeM (m:Match):Prop:=m.nodes.length≤9223372036854775807∧m.roots.length≤9223372036854775807
abbrev toMatch (m:Match):Match:=m
abbrev toMatch_pre (m:Match):Prop:=MSz m
def toMatch_wp (a:Match) (Z:Match→Prop):Prop:=
 (toIntS_pre a.nodes)∧∀ r8:List Int,r8=toIntS a.nodes→(toIntS_pre a.roots)∧∀ r20:List Int,r20=toIntS a.roots→Z (Match.mk r8 r20)
theorem toMatch_vc (m:Match) (h:toMatch_pre m):toMatch_wp m (fun y=>y=toMatch m):=by
 unfold toMatch_wp
 simp only[forall_eq]
 exact⟨h.1,h.2,trivial⟩
def szM (m:Match) (left:Int):Int:=if szI m.nodes left<0 then -1 else szI m.roots (szI m.nodes left)
abbrev szM_pre (m:Match) (left:Int):Prop:=(0≤left∧left≤1048576)∧HugeM m
def szM_wp (a:Match) (left:Int) (Z:Int→Prop):Prop:=
 (((0:Int)≤left∧(left:Int)≤1048576)∧a.nodes.length≤9223372036854775807)∧∀ r5:Int,r5=szI a.nodes left→∀ c6:Bool,c6=decide (r5<0)→((c6=true→Z (-1))∧(c6=false→(((0:Int)≤r5∧(r5:Int)≤1048576)∧a.roots.length≤9223372036854775807)∧∀ r9:Int,r9=szI a.roots r5→∀ c10:Bool,c10=decide (r9<0)→((c10=true→Z (-1))∧(c10=false→Z r9))))
theorem szM_vc (m:Match) (left:Int) (h:szM_pre m left):szM_wp m left (fun y=>y=szM m left):=by
 unfold szM_wp
 obtain⟨⟨h0,h1⟩,h2,h3⟩:=h
 have h4:=f_le szI m.nodes left h0
 simp only[forall_eq,decide_eq_true_eq,decide_eq_false_iff_not]
 refine⟨⟨⟨h0,h1⟩,h2⟩,fun h5=>by rw[szM,if_pos h5],fun h5=>⟨⟨⟨by omega,by omega⟩,h3⟩,fun h6=>?_,fun h6=>by rw[szM,if_neg h5]⟩⟩
 rw[szM,if_neg h5]
 have:szI m.roots (szI m.nodes left)<0:=h6
 simp only[szI] at this ⊢
 split at this<;>omega
abbrev eqM (a b:Match):Bool:=decide (a=b)
abbrev eqM_pre (a _:Match):Prop:=MSz a
def eqM_wp (a:Match) (b:Match) (Z:Bool→Prop):Prop:=
 (a.nodes.length≤1048576)∧∀ r6:Bool,r6=decide (a.nodes=b.nodes)→((r6=true→(a.roots.length≤1048576)∧∀ r8:Bool,r8=decide (a.roots=b.roots)→((r8=true→Z true)∧(r8=false→Z false)))∧(r6=false→Z false))
theorem eqM_vc (a b:Match) (h:eqM_pre a b):eqM_wp a b (fun y=>y=eqM a b):=by
 unfold eqM_wp
 simp only[forall_eq,decide_eq_true_eq,decide_eq_false_iff_not]
 obtain⟨x,y⟩:=a
 obtain⟨z,w⟩:=b
 refine⟨h.1,fun h1=>⟨h.2,fun h2=>?_,fun h2=>?_⟩,fun h1=>?_⟩
 ·simp only at h1 h2;subst h1 h2;simp
 ·simp only at h1 h2;simp[eqM,h2]
 ·simp only at h1;simp[eqM,h1]
abbrev EqB (x:Big):Prop:=x.nodes.length≤1048576∧(∀ z ∈ x.nodes,z.links.length≤1048576)∧x.sites.length≤1048576∧x.outer.length≤1048576∧x.inner.length≤1048576
structure ArgsM (sig:Sig) (r a:Big) (m:Match):Prop where
 hS:sig.length≤1048576
 r:SmallB sig r
 a:SmallB sig a
 m:MSz m
theorem eqOf {sig:Sig} {b:Big} (h:SmallB sig b):EqB b:=⟨h.nodesLen,h.linksLen,h.sitesLen,h.outerLen,h.innerLen⟩
theorem toOf {sig:Sig} {b:Big} (h:SmallB sig b):toBigraph_pre b:=⟨⟨h.nodesLen,h.linksLen⟩,h.sitesLen,h.outerLen,h.innerLen⟩
theorem bothOf {sig s2:Sig} {b b2:Big} (h:SmallB sig b2) (h2:SmallB s2 b):SmallB sig b:=
 ⟨h.sigLen,h.sigNames,h2.nodesLen,h2.sitesLen,h2.outerLen,h2.innerLen,h2.outerNames,h2.innerNames,h2.linksLen,h2.parents,h2.sites64⟩
theorem szB_le (b:Big) (left:Int) (h:0≤left):szB b left≤left:=by
 unfold szB
 have h1:=szS_le szN b.nodes left h
 split
 ·omega
 have h2:=f_le szI b.sites (szS szN b.nodes left) (by omega)
 split
 ·omega
 have h3:=szS_le szStr b.outer (szI b.sites (szS szN b.nodes left)) (by omega)
 split
 ·omega
 have h4:=szS_le szW b.inner (szS szStr b.outer (szI b.sites (szS szN b.nodes left))) (by omega)
 split<;>omega
theorem argsM {sig:Sig} {r a:Big} {m:Match} (h1:¬ szS szC sig 1048576<0) (h2:¬ szB r (szS szC sig 1048576)<0) (h3:¬ szB a (szB r (szS szC sig 1048576))<0) (h4:¬ szM m (szB a (szB r (szS szC sig 1048576)))<0)
  (hr:HugeB r) (ha:HugeB a):ArgsM sig r a m:=by
 have l1:=szS_le szC sig 1048576 (by omega)
 have l2:=szB_le r (szS szC sig 1048576) (by omega)
 have l3:=szB_le a (szB r (szS szC sig 1048576)) (by omega)
 have hR:SmallB sig r:=smallB (left:=1048576) (by omega) (by omega) (by omega) (by omega) hr
 have e0:szS szC [] (szB r (szS szC sig 1048576))=szB r (szS szC sig 1048576):=by
  have:szS szC [] (szB r (szS szC sig 1048576))=(if szB r (szS szC sig 1048576) - (([]:Sig).length:Int)<0 then -1 else szB r (szS szC sig 1048576) - (([]:Sig).length:Int)):=by
   unfold szS;split<;>rfl
  rw[this];simp only[List.length_nil];split<;>omega
 have hA:SmallB [] a:=smallB (left:=szB r (szS szC sig 1048576)) (by omega) (by omega) (by rw[e0];omega) (by rw[e0];omega) ha
 refine⟨hR.sigLen,hR,bothOf hR hA,?_⟩
 unfold szM at h4
 split at h4
 ·omega
 have:=szI_len (s:=m.nodes) (c:=szB a (szB r (szS szC sig 1048576))) (by omega)
 have l4:=f_le szI m.nodes (szB a (szB r (szS szC sig 1048576))) (by omega)
 have:=szI_len (s:=m.roots) (c:=szI m.nodes (szB a (szB r (szS szC sig 1048576)))) (by omega)
 exact⟨by omega,by omega⟩
def markMatch (m:Match) (k:Int):Match × Int:=(⟨(markIntS m.nodes k).1,(markIntS m.roots (markIntS m.nodes k).2).1⟩,(markIntS m.roots (markIntS m.nodes k).2).2)
abbrev markMatch_pre (m:Match) (k:Int):Prop:=MSz m∧0≤k∧k≤1125899906842624
def markMatch_wp (a:Match) (k_:Int) (Z:(Match × Int)→Prop):Prop:=
 (markIntS_pre a.nodes k_)∧∀ r9:(List Int) × Int,r9=markIntS a.nodes k_→(markIntS_pre a.roots r9.2)∧∀ r18:(List Int) × Int,r18=markIntS a.roots r9.2→Z ((Match.mk r9.1 r18.1),r18.2)
theorem markMatch_vc (m:Match) (k:Int) (h:markMatch_pre m k):markMatch_wp m k (fun y=>y=markMatch m k):=by
 unfold markMatch_wp
 obtain⟨⟨h1,h2⟩,h3,h4⟩:=h
 simp only[forall_eq]
 refine⟨⟨by omega,by omega,by omega⟩,⟨by simp only[markIntS,markL];omega,by omega,by simp only[markIntS,markL];omega⟩,rfl⟩
theorem sumN_le:∀ {l:List GNode},(∀ x ∈ l,x.links.length≤1048576)→(l.map nodeSize).sum≤1048578 * l.length
 | [],_=>by simp
 | x::l,h=>by
  have h1:=sumN_le (l:=l) fun y hy=>h y (by simp[hy])
  have h2:=h x (by simp)
  simp only[List.map_cons,List.sum_cons,List.length_cons,nodeSize] at h1 ⊢
  omega
theorem markB {b:Big} (h:EqB b) (k:Int) (h0:0≤k) (hk:k≤1125899906842624):markBig_pre b k∧(k≤(markBig b k).2∧(markBig b k).2≤k+2199027449856):=by
 obtain⟨h1,h2,h3,h4,h5⟩:=h
 have hs:=sumN_le h2
 have hb:bigSize b=(b.nodes.map nodeSize).sum+b.sites.length+b.outer.length+2 * b.inner.length:=rfl
 refine⟨⟨h0,h1,h2,h3,h4,h5,by omega⟩,?_⟩
 have p1:=markNodeS_size b.nodes k
 simp only[markBig,markIntS,markStringS,markWireS,markL,p1]
 omega
end Go.Ab.Vg
/- The abstract machine, part St: rules, guards, systems. -/
namespace Go.Ab
structure Rule where
 redex:Big
 reactum:Big
 copies:List Int
 deriving Inhabited,DecidableEq
def Rule.cells (t:Bool) (r:Rule):List AVal:=[int r.redex.roots,.list t (r.redex.nodes.map (GNode.cells t)),.list t (r.redex.sites.map intC),int r.redex.edges,.list t (r.redex.outer.map strC),.list t (r.redex.inner.map Wire.cells),
 int r.reactum.roots,.list t (r.reactum.nodes.map (GNode.cells t)),.list t (r.reactum.sites.map intC),int r.reactum.edges,.list t (r.reactum.outer.map strC),.list t (r.reactum.inner.map Wire.cells),.list t (r.copies.map intC)]
structure Guard where
 zone:Int
 neg:Bool
 pattern:Big
 deriving Inhabited,DecidableEq
def Guard.cells (t:Bool) (g:Guard):List AVal:=[int g.zone,bool g.neg,int g.pattern.roots,.list t (g.pattern.nodes.map (GNode.cells t)),.list t (g.pattern.sites.map intC),int g.pattern.edges,.list t (g.pattern.outer.map strC),.list t (g.pattern.inner.map Wire.cells)]
structure Sys where
 states:List Big
 steps:List (Int × Int × Int)
 deriving Inhabited,DecidableEq
def Sys.cells (t:Bool) (x:Sys):List AVal:=[.list t (x.states.map (Big.cells t)),.list t (x.steps.map intC3)]
abbrev rC (t:Bool) (r:Rule):List AVal:=[int r.redex.roots,.list t (r.redex.nodes.map (GNode.cells t)),.list t (r.redex.sites.map intC),int r.redex.edges,.list t (r.redex.outer.map strC),.list t (r.redex.inner.map Wire.cells),
 int r.reactum.roots,.list t (r.reactum.nodes.map (GNode.cells t)),.list t (r.reactum.sites.map intC),int r.reactum.edges,.list t (r.reactum.outer.map strC),.list t (r.reactum.inner.map Wire.cells),.list t (r.copies.map intC)]
abbrev gC (t:Bool) (g:Guard):List AVal:=[int g.zone,bool g.neg,int g.pattern.roots,.list t (g.pattern.nodes.map (GNode.cells t)),.list t (g.pattern.sites.map intC),int g.pattern.edges,.list t (g.pattern.outer.map strC),.list t (g.pattern.inner.map Wire.cells)]
section
variable {H:Heap} {n:Nat}
end
end Go.Ab
/- Rules and guards: what makes them valid, and when a guard holds. -/
namespace Go.Ab.Vg
set_option linter.unusedSimpArgs false
set_option linter.unusedVariables false
def mayB (zone:Int) (agent:Big) (m:Match) (x:Int):Bool:=if zone=2 then !(underB agent m.nodes x) else if zone=3 then underB agent m.nodes x && !(hasI m.nodes x) else true
def mayL (zone:Int) (agent:Big) (m:Match) (k:Nat):List Int:=((List.range k).map fun i:Nat=>(i:Int)).filter (mayB zone agent m)
theorem mayL_succ (zone:Int) (agent:Big) (m:Match) (k:Nat):mayL zone agent m (k+1)=if mayB zone agent m k then mayL zone agent m k++[(k:Int)] else mayL zone agent m k:=by
 rw[mayL,List.range_succ,List.map_append,List.filter_append]
 by_cases h:mayB zone agent m k=true<;>simp[h,mayL]
theorem mayL_len (zone:Int) (agent:Big) (m:Match) (k:Nat):(mayL zone agent m k).length≤k:=by
 have:=List.length_filter_le (mayB zone agent m) ((List.range k).map fun i:Nat=>(i:Int))
 simpa[mayL] using this
theorem mem_mayL {zone:Int} {agent:Big} {m:Match} {k:Nat} {x:Int}:x ∈ mayL zone agent m k↔(0≤x∧x<k)∧mayB zone agent m x=true:=by
 simp only[mayL,List.mem_filter,List.mem_map,List.mem_range]
 constructor
 ·rintro⟨⟨i,hi,rfl⟩,h⟩
  exact⟨⟨by omega,by omega⟩,h⟩
 ·rintro⟨⟨h1,h2⟩,h⟩
  exact⟨⟨x.toNat,by omega,by omega⟩,h⟩
abbrev parameterOf (agent:Big) (m:Match):List Int:=mayL 3 agent m agent.nodes.length
abbrev parameterOf_pre (agent:Big) (m:Match):Prop:=DownB agent∧m.nodes.length≤1048576
def parameterOf_wp (agent:Big) (m:Match) (Z:(List Int)→Prop):Prop:=
 ∀ len8:Int,len8=(agent.nodes.length:Int)→loopW (σ:=Int × (List Int)) (fun (v17,l18) K22=>∀ c23:Bool,c23=decide (v17<len8)→((c23=true→joinW (fun (J25:Bool→Prop)=>(isUnder_pre agent v17 m.nodes)∧∀ r49:Bool,r49=isUnder agent v17 m.nodes→((r49=true→(m.nodes.length≤1048576)∧∀ r51:Bool,r51=hasI m.nodes v17→J25 ((!r51)))∧(r49=false→J25 (false)))) (fun b28=>((b28=true→(l18.length+1≤1073741824)∧∀ l33:List Int,l33=l18++[v17]→(I64 (v17+1))∧∀ v43:Int,v43=v17+1→K22 (v43,l33))∧(b28=false→(I64 (v17+1))∧∀ v46:Int,v46=v17+1→K22 (v46,l18)))))∧(c23=false→Z l18))) (0,([]:List Int))
theorem parameterOf_vc (agent:Big) (m:Match) (h:parameterOf_pre agent m):parameterOf_wp agent m (fun y=>y=parameterOf agent m):=by
 unfold parameterOf_wp
 obtain⟨h1,h2⟩:=h
 have h8:=h1.1
 simp only[forall_eq,decide_eq_true_eq,decide_eq_false_iff_not]
 refine loopW.upL agent.nodes.length (fun k t=>t=mayL 3 agent m k) [] rfl ?_
 rintro k _ K hk rfl IH
 dsimp only
 have hl:=mayL_len 3 agent m k
 refine⟨fun h3=>⟨fun b=>b=mayB 3 agent m k,⟨⟨h1,by omega,h2⟩,fun h4=>⟨h2,?_⟩,fun h4=>?_⟩,?_⟩,fun h3=>?_⟩
 ·simp only[mayB];rw[show underB agent m.nodes (k:Int)=true from h4];simp
 ·simp only[mayB];rw[show underB agent m.nodes (k:Int)=false from h4];simp
 ·rintro _ rfl
  refine⟨fun h4=>⟨by omega,by simp only[I64];omega,IH (by omega) _ ?_⟩,fun h4=>⟨by simp only[I64];omega,IH (by omega) _ ?_⟩⟩
  ·rw[mayL_succ,if_pos h4]
  ·rw[mayL_succ,if_neg (by rw[h4];simp)]
 ·rw[parameterOf,show agent.nodes.length=k by omega]
noncomputable def holdsB (g:Guard) (agent:Big) (m:Match):Bool:=((matchesB g.pattern agent).any fun o=>o.nodes.all (mayB g.zone agent m)) != g.neg
noncomputable abbrev holds (g:Guard) (agent:Big) (m:Match):Bool:=holdsB g agent m
end Go.Ab.Vg
/- Contracts of laws.toAmbNode, laws.toProcess, laws.eqAmbNode and laws.eqProcess. -/
namespace Go.Ab
open Go.Proofs
set_option linter.unusedSimpArgs false
end Go.Ab
/- Congruence of processes (statement 9): pure conditions of the functions that sort texts. -/
namespace Go.Ab.Vg
set_option linter.unusedSimpArgs false
set_option linter.unusedVariables false
end Go.Ab.Vg
/- Marks on processes: what the laws' own functions on processes do. -/
namespace Go.Ab.Vg
set_option linter.unusedSimpArgs false
set_option linter.unusedVariables false
end Go.Ab.Vg
/- Encodings of processes (statement 11). -/
namespace Go.Ab.Vg
set_option linter.unusedSimpArgs false
set_option linter.unusedVariables false
abbrev indexS_pre (l:List Str) (_:Str):Prop:=l.length≤1048576
def indexS (l:List Str) (s:Str):Int:=if s ∈ l then (l.idxOf s:Int) else -1
theorem indexS_no {l:List Str} {s:Str} (h:∀ j<l.length,at' l (j:Int) ≠ s):indexS l s = -1:=by
 rw[indexS,if_neg]
 intro hm
 obtain⟨j,hj,he⟩:=List.getElem_of_mem hm
 exact h j hj (by rw[at_lt hj];exact he)
theorem indexS_yes {l:List Str} {s:Str} {k:Nat} (hk:k<l.length) (h:∀ j<k,at' l (j:Int) ≠ s) (he:at' l (k:Int)=s):indexS l s=k:=by
 rw[at_lt hk] at he
 have hm:s ∈ l:=he ▸ List.getElem_mem hk
 rw[indexS,if_pos hm]
 have h1:l.idxOf s<l.length:=List.idxOf_lt_length_iff.2 hm
 have h2:l[l.idxOf s]=s:=List.getElem_idxOf h1
 have h3:¬ l.idxOf s<k:=fun hlt=>h _ hlt (by rw[at_lt h1];exact h2)
 have h4:¬ k<l.idxOf s:=fun hlt=>by
  have:=List.not_of_lt_findIdx (p:=(· == s)) (xs:=l) hlt
  simp[he] at this
 omega
def indexS_wp (s:List Str) (v_:Str) (Z:Int→Prop):Prop:=
 ∀ len2:Int,len2=(s.length:Int)→loopW (σ:=Int) (fun v6 K9=>∀ c10:Bool,c10=decide (v6<len2)→((c10=true→(0≤v6∧v6<s.length)∧∀ x13:Str,x13=at' s v6→∀ c15:Bool,c15=decide (v_=x13)→((c15=true→Z v6)∧(c15=false→(I64 (v6+1))∧∀ v18:Int,v18=v6+1→K9 (v18))))∧(c10=false→Z (-1)))) (0)
theorem indexS_vc (l:List Str) (s:Str) (h:indexS_pre l s):indexS_wp l s (fun y=>y=indexS l s):=by
 unfold indexS_wp
 rintro _ rfl
 refine loopW.up1 l.length (fun k=>∀ j<k,at' l (j:Int) ≠ s) (by simp) ?_
 rintro k K hk hI IH
 simp only[forall_eq,decide_eq_true_eq,decide_eq_false_iff_not,I64]
 refine⟨fun h1=>⟨by omega,fun h2=>(indexS_yes (by omega) hI h2.symm).symm,fun h2=>⟨by omega,IH (by omega) fun j hj=>?_⟩⟩,fun h1=>?_⟩
 ·rcases Nat.lt_or_ge j k with h3 | h3
  ·exact hI j h3
  ·rw[show j=k by omega];exact fun h=>h2 h.symm
 ·rw[indexS_no fun j hj=>hI j (by omega)]
abbrev l2At_pre (l:List Str) (_:Str):Prop:=l.length≤1048576
abbrev l2At (l:List Str) (s:Str):Int:=indexS l s
def l2At_wp (list:List Str) (name:Str) (Z:Int→Prop):Prop:=
 loopW (σ:=Int) (fun i4 K7=>∀ len8:Int,len8=(list.length:Int)→∀ c10:Bool,c10=decide (i4<len8)→((c10=true→(0≤i4∧i4<list.length)∧∀ x13:Str,x13=at' list i4→∀ c15:Bool,c15=decide (x13=name)→((c15=true→Z i4)∧(c15=false→(I64 (i4+1))∧∀ v18:Int,v18=i4+1→K7 (v18))))∧(c10=false→Z (-1)))) (0)
theorem l2At_vc (l:List Str) (s:Str) (h:l2At_pre l s):l2At_wp l s (fun y=>y=l2At l s):=by
 unfold l2At_wp
 refine loopW.up1 l.length (fun k=>∀ j<k,at' l (j:Int) ≠ s) (by simp) ?_
 rintro k K hk hI IH
 simp only[forall_eq,decide_eq_true_eq,decide_eq_false_iff_not,I64]
 refine⟨fun h1=>⟨by omega,fun h2=>(indexS_yes (by omega) hI h2).symm,fun h2=>⟨by omega,IH (by omega) fun j hj=>?_⟩⟩,fun h1=>?_⟩
 ·rcases Nat.lt_or_ge j k with h3 | h3
  ·exact hI j h3
  ·rw[show j=k by omega];exact h2
 ·rw[l2At,indexS_no fun j hj=>hI j (by omega)]
end Go.Ab.Vg
/- The abstract machine, part Se: what is lent to a call by a pointer to a variable, or by a function value. -/
namespace Go.Ab
def EffT (P:Program) (f:FuncId) (args:List AVal) {σ:Type} (W:List Id) (I:σ→Heap→List OwnE→Prop) (s:σ) (M:List OwnE) (Y:σ→AVal→Prop):Prop:=
 ∀ (H:Heap) (n:Nat) (K:List OwnE) (ids:List Id) (E:List OwnE),I s H E→(∀ w ∈ W,w ∉ ids)→Sep H n (M++(E++K)) (W++ids)→CallsA P f args H n fun r H1 n1=>∃ s' E',Y s' r∧I s' H1 E'∧Sep H1 n1 (E'++K) (W++ids)∧(∀ i ∈ ids,H1 i=H i)∧n≤n1
def FrameI {σ:Type} (W:List Id) (I:σ→Heap→List OwnE→Prop):Prop:=∀ s H H' E,I s H E→(∀ w ∈ W,H' w=H w)→I s H' E
def VarI {σ:Type} (sz:Nat) (C:σ→List AVal→List AVal) (E:σ→List AVal→List OwnE) (X:Id) (s:σ) (H:Heap) (L:List OwnE):Prop:=∃ vs,L=E s vs∧H X=some ⟨sz,[C s vs]⟩
theorem VarI.frame {σ:Type} {sz:Nat} {C:σ→List AVal→List AVal} {E:σ→List AVal→List OwnE} {X:Id}:FrameI [X] (VarI sz C E X):=fun _ _ _ _ ⟨vs,h1,h2⟩ h=>⟨vs,h1,(h X (by simp)).trans h2⟩
def PtrS (P:Program) (f:FuncId) (args:AVal→List AVal) {σ:Type} (sz:Nat) (C:σ→List AVal→List AVal) (E:σ→List AVal→List OwnE) (s:σ) (M:List OwnE) (Y:σ→AVal→Prop):Prop:=
 ∀ X:Id,EffT P f (args (.ptr X 1 0 0)) [X] (VarI sz C E X) s M Y
theorem EffT.mono {P:Program} {f:FuncId} {args:List AVal} {σ:Type} {W:List Id} {I:σ→Heap→List OwnE→Prop} {s:σ} {M:List OwnE} {Y Y':σ→AVal→Prop} (hc:EffT P f args W I s M Y) (hy:∀ s' r,Y s' r→Y' s' r):EffT P f args W I s M Y':=fun H n K ids E hi hw hs=>
 CallsA.mono (hc H n K ids E hi hw hs) fun _ _ _ ⟨s',E',h1,h2⟩=>⟨s',E',hy _ _ h1,h2⟩
theorem PtrS.mono {P:Program} {f:FuncId} {args:AVal→List AVal} {σ:Type} {sz:Nat} {C:σ→List AVal→List AVal} {E:σ→List AVal→List OwnE} {s:σ} {M:List OwnE} {Y Y':σ→AVal→Prop} (hc:PtrS P f args sz C E s M Y) (hy:∀ s' r,Y s' r→Y' s' r):PtrS P f args sz C E s M Y':=fun X=>(hc X).mono hy
section
variable {H:Heap} {n:Nat} {K K':List OwnE} {ids:List Id}
theorem Sep.permA (h:K.Perm K'):∀ A:List OwnE,Sep H n (A++K) ids→Sep H n (A++K') ids:=by
 induction h with
 | nil=>exact fun _ h=>h
 | cons x _ ih=>
  intro A h
  have:=ih (A++[x]) (by simpa using h)
  simpa using this
 | swap x y l=>
  intro A h
  have h1:=Sep.front (K1:=A++[y]) (x:=x) (K2:=l) (by simpa using h)
  exact Sep.unfront (K1:=A) (K2:=y::l) (by simpa using h1)
 | trans _ _ ih1 ih2=>exact fun A h=>ih2 A (ih1 A h)
theorem Sep.mid {A B C D:List OwnE} (h:Sep H n (A++(B++(C++D))) ids):Sep H n (A++(C++(B++D))) ids:=Sep.permA (List.perm_append_comm_assoc B C D) A h
theorem Sep.idm {A B C:List Id} (h:Sep H n K (A++(B++C))):Sep H n K (B++(A++C)):=Sep.sub h fun i hi=>by
 simp only[List.mem_append] at hi ⊢
 rcases hi with h | h | h
 ·exact .inr (.inl h)
 ·exact .inl h
 ·exact .inr (.inr h)
end
section
variable {P:Program} {f:FuncId} {N:Nat} {k:List Item} {Q:AVal→Heap→Nat→Prop} {Ty:Types} {l:List Oper} {ρ:Env} {H:Heap} {n:Nat}
theorem SubL.append {as1 bs cs ds:List AVal} (h:SubL as1 bs) (h':SubL cs ds):SubL (as1++cs) (bs++ds):=by
 induction h with
 | nil=>exact h'
 | cons h _ ih=>exact .cons h ih
theorem RunK.callEff (hT:TypesOk P Ty) {d:Option Tmp} {g:Operand} {args:Array Operand} {ats:Array TypeId} {ty:TypeId} {pos:String} {af:Array Edge} {f':FuncId} {ops:List Oper} {xsA ysA caps:List AVal} {σ:Type} {I:σ→Heap→List OwnE→Prop} {s:σ} {Y:σ→AVal→Prop} {M R E K0:List OwnE} {A W B:List Id}
  (h:EffT P f' (ysA++caps) W I s M Y) (hsub:SubL xsA ysA) (hent:Ent P f') (hi:I s H E) (hw:∀ w ∈ W,w ∉ A++B) (hs:Sep H n (M++(R++(E++K0))) (A++(W++B)))
  (hN:ops.all (fun o=>dok N o.dst)=true) (hl:(⟨d,.call ⟨.value g,args,ats⟩,ty,pos,af,none⟩::l:List Oper).all (fun o=>dok N o.dst)=true) (hg:ρ.ev g = .fn (.func f') [] caps) (has:args.toList.map ρ.ev=xsA)
  (hk:∀ r H1 n1 s' E',Y s' r→I s' H1 E'→Sep H1 n1 (R++(E'++K0)) (A++(W++B))→n≤n1→(∀ i ∈ A++B,H1 i=H i)→evalK P f N k Q Ty ops.toArray l (ρ.put d r) H1 n1) :
  RunK P f N k Q ops.toArray (⟨d,.call ⟨.value g,args,ats⟩,ty,pos,af,none⟩::l) ρ H n:=
 RunK.op hT hN hl rfl (OpSem.call (first:=[]) (captured:=caps) (post:=fun r H1 n1=>∃ s' E',Y s' r∧I s' H1 E'∧Sep H1 n1 (E'++(R++K0)) (W++(A++B))∧(∀ i ∈ A++B,H1 i=H i)∧n≤n1) hg hent (by
  rw[has,List.nil_append]
  exact CallsA.sub (hsub.append (.refl caps)) (h H n (R++K0) (A++B) E hi hw (Sep.idm (Sep.mid hs))))) fun r H' n' ⟨s',E',h1,h2,h3,h4,h5⟩=>hk r H' n' s' E' h1 h2 (Sep.idm (Sep.mid (A:=[]) h3)) h5 h4
theorem RunK.callP (hT:TypesOk P Ty) {d:Option Tmp} {g:Operand} {args:Array Operand} {ats:Array TypeId} {ty:TypeId} {pos:String} {af:Array Edge} {f':FuncId} {ops:List Oper} {argf:AVal→List AVal} {as1:List AVal} {σ:Type} {sz:Nat} {C:σ→List AVal→List AVal} {E:σ→List AVal→List OwnE} {s:σ} {M K0:List OwnE} {Y:σ→AVal→Prop} {X:Id} {vs:List AVal} {A B:List Id}
  (h:PtrS P f' argf sz C E s M Y) (hsub:SubL as1 (argf (.ptr X 1 0 0))) (hent:Ent P f') (hm:H X=some ⟨sz,[C s vs]⟩) (hw:X ∉ A++B) (hs:Sep H n (M++(E s vs++K0)) (A++([X]++B)))
  (hN:ops.all (fun o=>dok N o.dst)=true) (hl:(⟨d,.call ⟨.value g,args,ats⟩,ty,pos,af,none⟩::l:List Oper).all (fun o=>dok N o.dst)=true) (hg:ρ.ev g = .fn (.func f') [] []) (has:args.toList.map ρ.ev=as1)
  (hk:∀ r H1 n1 s' vs',Y s' r→H1 X=some ⟨sz,[C s' vs']⟩→Sep H1 n1 (E s' vs'++K0) (A++([X]++B))→n≤n1→(∀ i ∈ A++B,H1 i=H i)→evalK P f N k Q Ty ops.toArray l (ρ.put d r) H1 n1) :
  RunK P f N k Q ops.toArray (⟨d,.call ⟨.value g,args,ats⟩,ty,pos,af,none⟩::l) ρ H n:=
 RunK.callEff (xsA:=as1) (ysA:=argf (.ptr X 1 0 0)) (caps:=[]) (I:=VarI sz C E X) (s:=s) (M:=M) (R:=[]) (E:=E s vs) (K0:=K0) (A:=A) (W:=[X]) (B:=B) (Y:=Y) hT (by simpa using h X) hsub hent ⟨vs,rfl,hm⟩ (by simpa using hw) hs hN hl hg has fun r H1 n1 s' E' h1 h2 h4 h5 h6=>by
  obtain⟨vs',rfl,h3⟩:=h2
  exact hk r H1 n1 s' vs' h1 h3 h4 h5 h6
end
end Go.Ab
/- The abstract machine, part Sd: regions that draw their order, with a chain of operations that turn the heap; all other operations give the same whenever they come. -/
namespace Go.Ab
set_option linter.unusedSectionVars false
set_option linter.unusedVariables false
section
variable (P:Program) (N:Nat) (ops:Array Oper) (Stab:Heap→Nat→Prop) (hard:List Nat)
def lateC (j:Nat):Bool:=(List.range ops.size).all fun k=>hard.contains k || (behind ops k).contains j
def StepF (o:Oper) (s s':AS):Prop:=∃ v,s'=(s.1.put o.dst v,s.2)∧((gok ops o s.1=some true∧∀ H n,Stab H n→OpSem P N o (loc o.op s.1) H n (isV v H n))∨(gok ops o s.1=some false∧v=skv))
inductive OrdT where
 | fin
 | stop
 | free (i:Nat) (t:OrdT)
 | hard (i:Nat) (t a:OrdT)
def HardT (R':AS→Prop) (i:Nat) (s:AS):Prop:=∃ o,ops[i]?=some o∧gok ops o s.1=some true∧∃ post:AVal→Heap→Nat→Prop,OpSem P N o (loc o.op s.1) s.2.1 s.2.2 post∧∀ v H' n',post v H' n'→(lateC ops hard i=false→Stab H' n')∧R' (s.1.put o.dst v,H',n')
def RunT (R:AS→Prop):OrdT→AS→Prop
 | .fin,s=>R s
 | .stop,_=>True
 | .free i t,s=>∃ o,ops[i]?=some o∧Stab s.2.1 s.2.2∧∃ s',StepF P N ops Stab o s s'∧RunT R t s'
 | .hard i t a,s=>HardT P N ops Stab hard (RunT R t) i s∧RunT R a s
end
section
variable {P:Program} {N:Nat} {ops:Array Oper} {Stab:Heap→Nat→Prop} {hard:List Nat}
end
section
variable {P:Program} {f:FuncId} {N:Nat} {k:List Item} {ρ:Env} {H:Heap} {n:Nat} {Q:AVal→Heap→Nat→Prop}
def atS (J:Env→Heap→Nat→Prop):AS→Prop:=fun s=>J s.1 s.2.1 s.2.2
end
section
variable {P:Program} {N:Nat} {ops:Array Oper} {Stab:Heap→Nat→Prop} {hard:List Nat} {R:AS→Prop} {ρ:Env} {H:Heap} {n:Nat} {i:Nat} {l:OrdT} {Ty:Types}
theorem RunT.fin {J:Env→Heap→Nat→Prop} (h:J ρ H n):RunT P N ops Stab hard (atS J) .fin (ρ,H,n):=h
theorem RunT.free {o:Oper} (v:AVal) (ho:ops.toList[i]?=some o) (hg:gok ops o ρ=some true) (hS:Stab H n) (hop:∀ H n,Stab H n→OpSem P N o (loc o.op ρ) H n (isV v H n)) (h:RunT P N ops Stab hard R l (ρ.put o.dst v,H,n)):RunT P N ops Stab hard R (.free i l) (ρ,H,n):=
 ⟨o,by rw[← Array.getElem?_toList];exact ho,hS,_,⟨v,rfl,.inl ⟨hg,hop⟩⟩,h⟩
theorem RunT.heavy {o:Oper} (post:AVal→Heap→Nat→Prop) (ho:ops.toList[i]?=some o) (hg:gok ops o ρ=some true) (hop:OpSem P N o (loc o.op ρ) H n post) (h:∀ v H' n',post v H' n'→(lateC ops hard i=false→Stab H' n')∧RunT P N ops Stab hard R l (ρ.put o.dst v,H',n')):HardT P N ops Stab hard (RunT P N ops Stab hard R l) i (ρ,H,n):=
 ⟨o,by rw[← Array.getElem?_toList];exact ho,hg,post,hop,h⟩
theorem RunT.step (hT:TypesOk P Ty) {o:Oper} {v:AVal} {H':Heap} {n':Nat} (ho:ops.toList[i]?=some o) (hg:gok ops o ρ=some true) (hs:stepF Ty o.dst o.op ρ H n=some (v,H',n')) (hS:lateC ops hard i=false→Stab H' n') (h:RunT P N ops Stab hard R l (ρ.put o.dst v,H',n')):HardT P N ops Stab hard (RunT P N ops Stab hard R l) i (ρ,H,n):=
 RunT.heavy (isV v H' n') ho hg (stepF_ok hT (by rw[stepF_loc];exact hs)) (by rintro _ _ _ ⟨rfl,rfl,rfl⟩;exact⟨hS,h⟩)
theorem RunT.same (hT:TypesOk P Ty) {o:Oper} {v:AVal} (ho:ops.toList[i]?=some o) (hg:gok ops o ρ=some true) (hs:stepF Ty o.dst o.op ρ H n=some (v,H,n)) (hS:lateC ops hard i=false→Stab H n) (h:RunT P N ops Stab hard R l (ρ.put o.dst v,H,n)):HardT P N ops Stab hard (RunT P N ops Stab hard R l) i (ρ,H,n):=
 RunT.step hT ho hg hs hS h
theorem loc_argsC {d:Operand} {args:Array Operand} {ats:Array TypeId}:args.toList.map (loc (.call ⟨.value d,args,ats⟩) ρ).ev=args.toList.map ρ.ev∧(loc (.call ⟨.value d,args,ats⟩) ρ).ev d=ρ.ev d:=
 ⟨List.map_congr_left fun x hx=>loc_ev (by simp[Op.operands,Call.operands];exact .inr (by simpa using hx)),loc_ev (by simp[Op.operands,Call.operands])⟩
theorem RunT.callEff {d:Option Tmp} {g:Operand} {args:Array Operand} {ats:Array TypeId} {ty:TypeId} {pos:String} {af:Array Edge} {gu:Option (Nat × Bool)} {f':FuncId} {xsA ysA caps:List AVal} {σ:Type} {I:σ→Heap→List OwnE→Prop} {s:σ} {Y:σ→AVal→Prop} {M R' E K0:List OwnE} {A W B:List Id}
  (ho:ops.toList[i]?=some ⟨d,.call ⟨.value g,args,ats⟩,ty,pos,af,gu⟩) (hgu:gok ops ⟨d,.call ⟨.value g,args,ats⟩,ty,pos,af,gu⟩ ρ=some true) (h:EffT P f' (ysA++caps) W I s M Y) (hsub:SubL xsA ysA) (hent:Ent P f') (hi:I s H E) (hw:∀ w ∈ W,w ∉ A++B) (hs:Sep H n (M++(R'++(E++K0))) (A++(W++B)))
  (hg:ρ.ev g = .fn (.func f') [] caps) (has:args.toList.map ρ.ev=xsA)
  (hk:∀ r H1 n1 s' E',Y s' r→I s' H1 E'→Sep H1 n1 (R'++(E'++K0)) (A++(W++B))→n≤n1→(∀ i ∈ A++B,H1 i=H i)→(lateC ops hard i=false→Stab H1 n1)∧RunT P N ops Stab hard R l (ρ.put d r,H1,n1)) :
  HardT P N ops Stab hard (RunT P N ops Stab hard R l) i (ρ,H,n):=
 RunT.heavy _ ho hgu (OpSem.call (first:=[]) (captured:=caps) (post:=fun r H1 n1=>∃ s' E',Y s' r∧I s' H1 E'∧Sep H1 n1 (E'++(R'++K0)) (W++(A++B))∧(∀ i ∈ A++B,H1 i=H i)∧n≤n1) (by rw[loc_argsC.2];exact hg) hent (by
  rw[loc_argsC.1,has,List.nil_append]
  exact CallsA.sub (hsub.append (.refl caps)) (h H n (R'++K0) (A++B) E hi hw (Sep.idm (Sep.mid hs))))) fun r H' n' ⟨s',E',h1,h2,h3,h4,h5⟩=>hk r H' n' s' E' h1 h2 (Sep.idm (Sep.mid (A:=[]) h3)) h5 h4
theorem RunT.callW {K:List OwnE} {ids:List Id} {d:Option Tmp} {g:Operand} {args:Array Operand} {ats:Array TypeId} {ty:TypeId} {pos:String} {af:Array Edge} {gu:Option (Nat × Bool)} {R':AVal→Prop} {f':FuncId} {as1 args':List AVal} {sh:Sh}
  (ho:ops.toList[i]?=some ⟨d,.call ⟨.value g,args,ats⟩,ty,pos,af,gu⟩) (hgu:gok ops ⟨d,.call ⟨.value g,args,ats⟩,ty,pos,af,gu⟩ ρ=some true) (h:OwnS P f' args' sh R') (hent:Ent P f') (ha:ArgsOk H n as1 args') (hs:Sep H n K ids) (hg:ρ.ev g = .fn (.func f') [] []) (has:args.toList.map ρ.ev=as1)
  (hk:∀ v H1 n1 r,Sep H1 n1 ((sh,v,r)::K) ids→R' r→n≤n1→(∀ i ∈ ids,H1 i=H i)→(lateC ops hard i=false→Stab H1 n1)∧RunT P N ops Stab hard R l (ρ.put d v,H1,n1)) :
  HardT P N ops Stab hard (RunT P N ops Stab hard R l) i (ρ,H,n):=
 RunT.heavy _ ho hgu (OpSem.callW (by rw[loc_argsC.2];exact hg) hent (by rw[loc_argsC.1,has];exact ha) h hs) fun v H' n' ⟨r,h1,h2,h3,h4⟩=>hk v H' n' r h1 h2 h3 h4
theorem RunT.append (hT:TypesOk P Ty) {d:Nat} {t:TypeId} {j:TI} {s x:Operand} {ty:TypeId} {pos:String} {af:Array Edge} {gu:Option (Nat × Bool)} {v xv:AVal} {l':List Sh} {es:List (List AVal)} {ids:List Id} (K1 K2:List OwnE) (add adds:List (List AVal))
  (ho:ops.toList[i]?=some ⟨some d,.call ⟨.builtin .append,#[s,x],#[t,t]⟩,ty,pos,af,gu⟩) (hgu:gok ops ⟨some d,.call ⟨.builtin .append,#[s,x],#[t,t]⟩,ty,pos,af,gu⟩ ρ=some true) (hsv:ρ.ev s=v) (hxv:ρ.ev x=xv) (h:Sep H n ((.s l',v,.list true es)::(K1++K2)) ids) (hk:kd Ty t = .slice j) (hj:j.size=l'.length) (hz:j.zero.length=j.size∧j.bytes≤131072)
  (hx:srcOf H xv=some add) (ho1:add.all (fun e=>e.all Ab.one1)=true) (hadd:∀ S,Row H (K1.map (·.1)) (K1.map (·.2.1)) (K1.map (·.2.2)) S→rowsP (Row H l') add adds S) (hne:adds ≠ []) (hlen:es.length+adds.length≤1073741824)
  (hc:∀ v' H' n',Sep H' n' ((.s l',v',.list true (es++adds))::K2) ids→(∀ i ∈ ids,H' i=H i)→n≤n'→(lateC ops hard i=false→Stab H' n')∧RunT P N ops Stab hard R l (ρ.put (some d) v',H',n')):HardT P N ops Stab hard (RunT P N ops Stab hard R l) i (ρ,H,n):=by
 obtain⟨v',H',n',h1,h2,h3,h4⟩:=Sep.append (d:=d) h hk hj hz hx ho1 hadd hne hlen
 obtain⟨q1,q2⟩:=hc v' H' n' h2 h3 h4
 refine RunT.step hT ho hgu ?_ q1 q2
 show (if t=t then appendF Ty (some d) t (ρ.ev s) (ρ.ev x) H n else none)=_
 rw[if_pos rfl,hsv,hxv,h1]
end
end Go.Ab
/- The abstract machine, part Sg: the library's sort and Compact of numbers, of a slice of the caller's own. -/
namespace Go.Ab
open Go.Proofs Go.RowKit
set_option linter.unusedSectionVars false
abbrev encZ (l:List Int):AVal:=.list true (l.map fun s=>[int s])
theorem sort_worldI {c:Ctx} (g:Good c) {id:Id} {ss ss':List Int} (ho:c.H id=some ⟨1,ss.map fun s=>[int s]⟩) (hl:ss'.length=ss.length) (off:Nat) (hoff:off=0∨ss'=[]) (m:Nat) (os:Array Obj) :
  let c':Ctx:={ c with H:=c.H.set id ⟨1,ss'.map fun s=>[int s]⟩,w:=Sort.grow (Sort.putRow (Value.int .i64) (Sort.ahead c.w m) (c.β id) off ss'.toArray) os }
  Keeps c c'∧Good c':=by
 intro c'
 obtain⟨hB,cl,el,hh,hsz,hel⟩:=g.obj id _ ho
 simp only[List.length_map,Nat.mul_one] at hsz
 have hnew:(Sort.putRow (Value.int .i64) (Sort.ahead c.w m) (c.β id) off ss'.toArray).heap[c.β id]?=some (.cells (Sort.putCells (Value.int .i64) off ss'.toArray cl) el (0,0)):=by
  simp only[Sort.putRow,Sort.mapBlock,Sort.ahead,Array.getElem?_modify,hh]
  simp[Sort.onCells]
 have hoth:∀ k,k ≠ c.β id→(Sort.putRow (Value.int .i64) (Sort.ahead c.w m) (c.β id) off ss'.toArray).heap[k]?=c.w.heap[k]?:=fun k hk=>by
  simp only[Sort.putRow,Sort.mapBlock,Sort.ahead,Array.getElem?_modify]
  rw[if_neg (Ne.symm hk)]
 obtain⟨k1,g1⟩:=upd_same g ho ⟨1,ss'.map fun s=>[int s]⟩ (Sort.putRow (Value.int .i64) (Sort.ahead c.w m) (c.β id) off ss'.toArray) cl (Sort.putCells (Value.int .i64) off ss'.toArray cl) el el ⟨rfl,rfl,rfl⟩ (by simp[Sort.ahead]) hh hoth hnew
  (by simp[Sort.putCells]) rfl (by simp[hl]) (by
   refine⟨by simp[Sort.putCells];omega,fun i e he=>?_⟩
   rw[List.getElem?_map] at he
   obtain⟨s,hs,rfl⟩:=Option.map_eq_some_iff.1 he
   refine⟨rfl,fun j a ha=>?_⟩
   have hi:i<ss'.length:=(List.getElem?_eq_some_iff.1 hs).1
   have ho0:off=0:=hoff.elim (fun h=>h) fun h=>by subst h;simp at hi
   subst ho0
   match j,ha with
   | 0,ha=>
    simp only[List.getElem?_cons_zero,Option.some.injEq] at ha
    subst ha
    refine⟨(Value.int .i64) s,?_,.v _⟩
    rw[putCells_get]
    have hic:i<cl.size:=by omega
    simp only[Nat.mul_one,Nat.add_zero,Array.getElem?_eq_getElem hic,Option.map_some,Nat.zero_le,true_and,Nat.zero_add,Nat.sub_zero,List.size_toArray,hi,if_true,Option.some.injEq]
    have:ss'.toArray[i]! = s:=by
     obtain⟨h1,h2⟩:=List.getElem?_eq_some_iff.1 hs
     simp[h1,h2]
    rw[this]
   | j+1,ha=>simp at ha)
 obtain⟨k2,g2⟩:=more_blocks g1 c'.w ⟨rfl,rfl,rfl⟩ (by simp[c']) fun k hk=>Sort.heap_grow_old _ _ hk
 exact⟨k1.trans k2,g2⟩
theorem MutS.sortI {P:Program} {f:FuncId} {ss:List Int} (hlen:ss.length<4611686018427387904)
  (hs:∀ (blk off cap:Nat) (w:World),Sort.Holds (Value.int .i64) w blk off ss.toArray→blk<w.heap.size→Calls P f #[.slice (some ⟨blk,off,none⟩) ss.length cap] w fun e w'=>
   e = .returned (.tuple #[])∧∃ n os,w'=Sort.grow (Sort.putRow (Value.int .i64) (Sort.ahead w n) blk off (ss.mergeSort fun x y=>decide (x≤y)).toArray) os)
  (hnil:∀ w:World,Calls P f #[.slice none 0 0] w fun e w'=>e = .returned (.tuple #[])∧Below w.heap.size w w') :
  MutS P f (fun v=>[v]) (.s [.c]) (encZ ss) (fun e r=>e=encZ (ss.mergeSort fun x y=>decide (x≤y))∧r = .tup []):=by
 intro H n v K ids hsep c xs hH hn g r
 subst hH hn
 obtain⟨x,rfl,hx⟩:∃ x,xs=[x]∧Rep c v x:=by
  obtain⟨hl,hr⟩:=r
  match xs,hl with
  | [x],_=>exact⟨x,rfl,hr 0 v x rfl rfl⟩
 obtain⟨h0,S,h1,h2⟩:=hsep
 simp only[List.map_cons,Row,Tr] at h1
 obtain⟨S1,S2,h3,h4,rfl,h5⟩:=h1
 rcases h3 with ⟨rfl,e,rfl⟩ | ⟨id,els,es',T,rfl,he,q3,q4,q5,rfl⟩
 ·have hss:ss=[]:=by simpa[encZ] using e
  subst hss
  rw[hx.v_inv]
  refine (hnil c.w).mono ?_
  rintro e w' ⟨rfl,hb⟩
  obtain⟨hk,hg⟩:=more_blocks g w' ⟨hb.os,hb.tape,hb.output⟩ hb.size hb.block
  refine⟨_,.tup [],{ c with w:=w' },rfl,rfl,⟨_,⟨rfl,rfl⟩,⟨h0,_,?_,h2⟩,fun _ _=>rfl,Nat.le_refl _⟩,.tup [] [] rfl (by simp),hg,hk⟩
  simp only[List.map_cons,Row,Tr]
  exact⟨[],S2,.inl (by simp[encZ]),h4,rfl,by simp⟩
 ·simp only[encZ,AVal.list.injEq,true_and] at he
  subst he
  obtain⟨rfl,rfl⟩:=rows_cells (by simp) q4
  have hm:(ss.mergeSort fun x y=>decide (x≤y)).length=ss.length:=List.length_mergeSort ss
  have q3':c.H id=some ⟨1,ss.map fun s=>[int s]⟩:=q3
  have hcell:∀ i s,ss[i]?=some s→c.w.cell? ⟨c.β id,i,none⟩=some ((Value.int .i64) s):=fun i s hi=>by
   obtain⟨x,h1,h2⟩:=g.cell q3' (i:=i) (j:=0) (e:=[int s]) (a:=int s) (by rw[List.getElem?_map,hi];rfl) rfl
   rw[h2.v_inv] at h1
   simpa using h1
  cases hx with
  | arr _ _ _ _ _ _ hn hg h=>
   obtain⟨hle,a,cap,rfl,hab,hsp,hlc,hoff,hcl⟩:=h _ q3' (by simp)
   obtain⟨bk,off,sp⟩:=a
   simp only at hab hsp
   subst hab hsp
   have hz:off=0∨ss=[]:=by
    rcases hoff with h | h
    ·left;simpa using h
    ·right;simpa[h] using hlc
   have hz':off=0∨(ss.mergeSort fun x y=>decide (x≤y))=[]:=hz.imp_right fun h=>by subst h;simp
   have hbk:c.β id<c.w.heap.size:=g.lt q3'
   have key:=hs (c.β id) off cap c.w (fun j hj=>by
    have hj':j<ss.length:=by simpa using hj
    have h0:off=0:=hz.elim (fun h=>h) fun h=>by subst h;simp at hj'
    subst h0
    refine⟨?_,g.frozen q3' _⟩
    rw[Nat.zero_add,hcell j ss[j] (List.getElem?_eq_getElem hj')]
    simp[hj']) hbk
   simp only[List.length_map] at *
   refine key.mono ?_
   rintro e w' ⟨rfl,m,os,rfl⟩
   obtain⟨hk,hg'⟩:=sort_worldI g q3' hm off hz' m os
   refine⟨_,.tup [],{ c with H:=c.H.set id ⟨1,(ss.mergeSort fun x y=>decide (x≤y)).map fun s=>[int s]⟩,w:=Sort.grow (Sort.putRow (Value.int .i64) (Sort.ahead c.w m) (c.β id) off (ss.mergeSort fun x y=>decide (x≤y)).toArray) os },rfl,rfl,⟨_,⟨rfl,rfl⟩,⟨h0,id::S2,?_,?_⟩,fun i hi=>?_,Nat.le_refl _⟩,.tup [] [] rfl (by simp),hg',hk⟩
   ·simp only[List.map_cons,Row,Tr]
    refine⟨[id],S2,.inr ⟨id,(ss.mergeSort fun x y=>decide (x≤y)).map fun s=>[int s],(ss.mergeSort fun x y=>decide (x≤y)).map fun s=>[int s],[],by simp[hm],rfl,?_,?_,by simp,rfl⟩,h4.frame fun i hi=>?_,rfl,?_⟩
    ·exact Heap.get_set_self _ _ _
    ·exact rowsP.flats (by simp[int,flat]) (by simp)
    ·exact Heap.get_set_ne _ _ (by rintro rfl;exact h5 i (by simp) hi)
    ·intro i hi;exact h5 i (by simpa using hi)
   ·intro i hi;exact h2 i (by simpa using hi)
   ·exact Heap.get_set_ne _ _ (by rintro rfl;exact (h2 i (by simp)).2 hi)
theorem TakeS.compactI {P:Program} {f:FuncId} {ss ss':List Int} (hle:ss'.length≤ss.length)
  (hs:∀ (blk off cap:Nat) (w:World),Sort.Holds (Value.int .i64) w blk off ss.toArray→ss.length≤cap→Calls P f #[.slice (some ⟨blk,off,none⟩) ss.length cap] w fun e w'=>
   e = .returned (.slice (some ⟨blk,off,none⟩) ss'.length cap)∧∃ q,w'=Sort.putRow (Value.int .i64) (Sort.ahead w q) blk off (ss'++List.replicate (ss.length - ss'.length) 0).toArray)
  (hnil:ss=[]→∀ w:World,Calls P f #[.slice none 0 0] w fun e w'=>e = .returned (.slice none 0 0)∧w'=w) :
  TakeS P f (fun v=>[v]) (.s [.c]) (encZ ss) (.s [.c]) (fun e=>e=encZ ss'):=by
 intro H n v K ids hsep c xs hH hn g r
 subst hH hn
 obtain⟨x,rfl,hx⟩:∃ x,xs=[x]∧Rep c v x:=by
  obtain⟨hl,hr⟩:=r
  match xs,hl with
  | [x],_=>exact⟨x,rfl,hr 0 v x rfl rfl⟩
 obtain⟨h0,S,h1,h2⟩:=hsep
 simp only[List.map_cons,Row,Tr] at h1
 obtain⟨S1,S2,h3,h4,rfl,h5⟩:=h1
 rcases h3 with ⟨rfl,e,rfl⟩ | ⟨id,els,es',T,rfl,he,q3,q4,q5,rfl⟩
 ·have hss:ss=[]:=by simpa[encZ] using e
  subst hss
  have hss':ss'=[]:=List.eq_nil_of_length_eq_zero (by simpa using hle)
  subst hss'
  rw[hx.v_inv]
  refine (hnil rfl c.w).mono ?_
  rintro e w' ⟨rfl,rfl⟩
  refine⟨_,.v (.slice none 0 0),c,rfl,rfl,⟨_,rfl,⟨h0,_,?_,h2⟩,fun _ _=>rfl,Nat.le_refl _⟩,.v _,g,Keeps.refl c⟩
  simp only[List.map_cons,Row,Tr]
  exact⟨[],S2,.inl (by simp[encZ]),h4,rfl,by simp⟩
 ·simp only[encZ,AVal.list.injEq,true_and] at he
  subst he
  obtain⟨rfl,rfl⟩:=rows_cells (by simp) q4
  have q3':c.H id=some ⟨1,ss.map fun s=>[int s]⟩:=q3
  have hcell:∀ i s,ss[i]?=some s→c.w.cell? ⟨c.β id,i,none⟩=some ((Value.int .i64) s):=fun i s hi=>by
   obtain⟨x,h1,h2⟩:=g.cell q3' (i:=i) (j:=0) (e:=[int s]) (a:=int s) (by rw[List.getElem?_map,hi];rfl) rfl
   rw[h2.v_inv] at h1
   simpa using h1
  cases hx with
  | arr _ _ _ _ _ _ hn hg h=>
   obtain⟨hle1,a,cap,rfl,hab,hsp,hlc,hoff,hcl⟩:=h _ q3' (by simp)
   obtain⟨bk,off,sp⟩:=a
   simp only at hab hsp
   subst hab hsp
   have hz:off=0∨ss=[]:=by
    rcases hoff with h | h
    ·left;simpa using h
    ·right;simpa[h] using hlc
   have hbk:c.β id<c.w.heap.size:=g.lt q3'
   have hm:(ss'++List.replicate (ss.length - ss'.length) (0:Int)).length=ss.length:=by simp;omega
   have hz':off=0∨(ss'++List.replicate (ss.length - ss'.length) (0:Int))=[]:=hz.imp_right fun h=>by
    subst h
    exact List.eq_nil_of_length_eq_zero (by rw[hm];rfl)
   have key:=hs (c.β id) off cap c.w (fun j hj=>by
    have hj':j<ss.length:=by simpa using hj
    have h0:off=0:=hz.elim (fun h=>h) fun h=>by subst h;simp at hj'
    subst h0
    refine⟨?_,g.frozen q3' _⟩
    rw[Nat.zero_add,hcell j ss[j] (List.getElem?_eq_getElem hj')]
    simp[hj']) (by simpa using hlc)
   simp only[List.length_map] at *
   refine key.mono ?_
   rintro e w' ⟨rfl,q,rfl⟩
   obtain⟨hk,hg'⟩:=sort_worldI g q3' hm off hz' q #[]
   have hgr:Sort.grow (Sort.putRow (Value.int .i64) (Sort.ahead c.w q) (c.β id) off (ss'++List.replicate (ss.length - ss'.length) (0:Int)).toArray) #[]=Sort.putRow (Value.int .i64) (Sort.ahead c.w q) (c.β id) off (ss'++List.replicate (ss.length - ss'.length) (0:Int)).toArray:=by
    simp[Sort.grow]
    rfl
   rw[hgr] at hk hg'
   generalize hc1:({ c with H:=c.H.set id ⟨1,(ss'++List.replicate (ss.length - ss'.length) (0:Int)).map fun s=>[int s]⟩,w:=Sort.putRow (Value.int .i64) (Sort.ahead c.w q) (c.β id) off (ss'++List.replicate (ss.length - ss'.length) (0:Int)).toArray }:Ctx)=c1 at hk hg'
   have hH1:c1.H id=some ⟨1,(ss'++List.replicate (ss.length - ss'.length) (0:Int)).map fun s=>[int s]⟩:=by rw[← hc1];exact Heap.get_set_self _ _ _
   have hHo:∀ j,j ≠ id→c1.H j=c.H j:=fun j hj=>by rw[← hc1];exact Heap.get_set_ne _ _ hj
   have hn1:c1.n=c.n:=by rw[← hc1]
   have hb1:c1.β=c.β:=by rw[← hc1]
   have hw1:c1.w=Sort.putRow (Value.int .i64) (Sort.ahead c.w q) (c.β id) off (ss'++List.replicate (ss.length - ss'.length) (0:Int)).toArray:=by rw[← hc1]
   have htk:((ss'++List.replicate (ss.length - ss'.length) (0:Int)).map fun s=>[int s]).take ss'.length=ss'.map fun s=>[int s]:=by
    rw[← List.map_take,List.take_left]
   obtain⟨hk2,hg2⟩:=shorten hg' hH1 ss'.length 0 (by simp)
   simp only[htk] at hk2 hg2
   generalize hc2:({ c1 with H:=fun j=>if j=(c1.n,0) then some ⟨1,ss'.map fun s=>[int s]⟩ else if j=id then none else c1.H j,β:=fun j=>if j=(c1.n,0) then c1.β id else c1.β j,n:=c1.n+1 }:Ctx)=c2 at hk2 hg2
   have hH2:c2.H (c.n,0)=some ⟨1,ss'.map fun s=>[int s]⟩:=by rw[← hc2,← hn1];simp
   have hidn:id.1<c.n:=hn
   have hHo2:∀ j:Id,j ≠ id→j.1<c.n→c2.H j=c.H j:=fun j hj hlt=>by
    rw[← hc2,← hHo j hj]
    simp only
    rw[if_neg (by rintro rfl;rw[hn1] at hlt;simp at hlt),if_neg hj]
   have hn2:c2.n=c.n+1:=by rw[← hc2,← hn1]
   have hb2:c2.β (c.n,0)=c.β id:=by rw[← hc2,← hn1];simp[hb1]
   have hw2:c2.w=c1.w:=by rw[← hc2]
   refine⟨_,.arr (c.n,0) ss'.length 0 ss'.length,c2,rfl,by rw[hw2,hw1],⟨_,rfl,⟨fun i hi=>by have:=h0 i hi;omega,(c.n,0)::S2,?_,fun i hi=>?_⟩,fun i hi=>hHo2 i (by rintro rfl;exact (h2 i (by simp)).2 hi) (h0 i hi),by omega⟩,?_,hg2,hk.trans hk2⟩
   ·simp only[List.map_cons,Row,Tr]
    refine⟨[(c.n,0)],S2,.inr ⟨(c.n,0),ss'.map fun s=>[int s],ss'.map fun s=>[int s],[],by simp,rfl,hH2,rowsP.flats (by simp[int,flat]) (by simp),by simp,rfl⟩,h4.frame fun i hi=>?_,rfl,?_⟩
    ·exact hHo2 i (by rintro rfl;exact h5 i (by simp) hi) (h2 i (by simp[hi])).1
    ·intro i hi hm
     have:=(h2 i (by simp[hm])).1
     simp at hi;subst hi;simp at this
   ·rcases List.mem_cons.1 hi with rfl | hi
    ·exact⟨by show c.n<c2.n;omega,fun hm=>by have:=h0 _ hm;simp at this⟩
    ·have:=h2 i (by simp[hi]);exact⟨by omega,this.2⟩
   ·refine .arr _ _ _ _ _ rfl (by show c.n<c2.n;omega) ?_ ?_
    ·intro o ho
     rw[hH2] at ho;cases ho;simp
    ·intro o ho _
     rw[hH2] at ho;cases ho
     refine⟨by omega,_,_,rfl,by simp[hb2],rfl,by omega,?_,fun cl el fz hh=>?_⟩
     ·rcases hoff with h | h
      ·left;simpa using h
      ·right;exact h
     ·rw[hb2,hw2,hw1] at hh
      obtain⟨_,cl0,el0,hh0,_⟩:=g.obj id _ q3'
      have hnew:(Sort.putRow (Value.int .i64) (Sort.ahead c.w q) (c.β id) off (ss'++List.replicate (ss.length - ss'.length) (0:Int)).toArray).heap[c.β id]?=some (.cells (Sort.putCells (Value.int .i64) off (ss'++List.replicate (ss.length - ss'.length) (0:Int)).toArray cl0) el0 (0,0)):=by
       simp only[Sort.putRow,Sort.mapBlock,Sort.ahead,Array.getElem?_modify,hh0]
       simp[Sort.onCells]
      rw[hnew] at hh
      cases hh
      have:=hcl cl0 _ (0,0) hh0
      simpa[Sort.putCells] using this
def boolC (b:Bool):List AVal:=[Ab.bool b]
theorem flatB (l:List Bool):∀ e ∈ l.map boolC,∀ a ∈ e,flat a=true:=by
 intro e he a ha
 obtain⟨x,_,rfl⟩:=List.mem_map.1 he
 simp only[boolC,List.mem_cons,List.not_mem_nil,or_false] at ha
 subst ha
 rfl
def runeS (n:Int):Str:=(Utf8.encode n).data.toList
theorem runeS_str (n:Int):str (runeS n) = .v (.string (Utf8.encode n)):=by
 unfold runeS str
 congr 2
theorem ib_add32 {a b v:Int} (h : -2147483648≤a+b∧a+b≤2147483647) (hv:v=a+b):intBin .add .i32 a b=some (.v (.int .i32 v)):=by
 subst hv
 simp only[intBin]
 have:IntKind.i32.wrap (a+b)=a+b:=by
  simp only[IntKind.wrap,IntKind.bits,IntKind.signed,Bool.true_and]
  split
  ·rename_i h2
   simp at h2
   omega
  ·rename_i h2
   simp at h2
   omega
 rw[this]
section
variable {P:Program} {f:FuncId} {N:Nat} {k:List Item} {Q:AVal→Heap→Nat→Prop} {Ty:Types} {l:List Oper} {ρ:Env} {H:Heap} {n:Nat} {d:Option Tmp} {ty:TypeId} {pos:String} {af:Array Edge} {gu:Option (Nat × Bool)}
theorem OpSem.runeS (hT:TypesOk P Ty) {s t:TypeId} {i:TI} {x:Operand} {k1:IntKind} {a:Int} (hi:Ty s=some i) (hk:kd Ty t = .string) (hx:ρ.ev x = .v (.int k1 a)) :
  OpSem P N ⟨d,.convert s t x,ty,pos,af,gu⟩ ρ H n (isV (str (Ab.runeS a)) H n):=
 OpSem.pure fun c e _ _ r=>by
  have rx:=r.ev x
  rw[hx] at rx
  obtain⟨j,hj,hd⟩:=kd_string hk
  have d1:=(hT s i hi).run_desc c.w
  have d2:=(hT t j hj).run_desc c.w
  rw[hd] at d2
  rw[runeS_str]
  exact⟨_,by simp[execOp,rx.v_inv,convert,d1,d2,Conv.intToString],.v _⟩
theorem RunK.runeS (hT:TypesOk P Ty) {ops:List Oper} {s t:TypeId} {i:TI} {x:Operand} {k1:IntKind} {a:Int} (hN:ops.all (fun o=>dok N o.dst)=true) (hl:(⟨d,.convert s t x,ty,pos,af,none⟩::l:List Oper).all (fun o=>dok N o.dst)=true) (hi:Ty s=some i) (hk:kd Ty t = .string) (hx:ρ.ev x = .v (.int k1 a))
  (h:evalK P f N k Q Ty ops.toArray l (ρ.put d (str (Ab.runeS a))) H n):RunK P f N k Q ops.toArray (⟨d,.convert s t x,ty,pos,af,none⟩::l) ρ H n:=
 RunK.op hT hN hl rfl (OpSem.runeS hT hi hk hx) fun _ _ _ ⟨e1,e2,e3⟩=>by subst e1 e2 e3;exact h
end
end Go.Ab
/- PassedLinks (statement 33): pure conditions of the functions of program and reference. -/
namespace Go.Ab.Vg
set_option linter.unusedSimpArgs false
set_option linter.unusedVariables false
abbrev sortZ (l:List Int):List Int × Unit:=(l.mergeSort fun x y=>decide (x≤y),())
abbrev compactZ (l:List Int):List Int:=Go.Lib.compact l
theorem compactZ_le (l:List Int):(compactZ l).length≤l.length:=by
 have h:(compactZ l).length≤(List.range l.length).length:=by
  simp only[compactZ,Go.Lib.compact,Go.Lib.compactUpTo,List.length_map]
  exact List.length_filter_le _ _
 simpa using h
theorem strictZ_eq {l m:List Int} (hl:l.Pairwise (·<·)) (hm:m.Pairwise (·<·)) (h:∀ x,x ∈ l↔x ∈ m):l=m:=by
 have n1:l.Nodup:=hl.imp fun h=>by omega
 have n2:m.Nodup:=hm.imp fun h=>by omega
 exact ((List.perm_ext_iff_of_nodup n1 n2).2 h).eq_of_pairwise (fun a b _ _ h h'=>by omega) hl hm
theorem get_bangZ {d:List Int} {j:Nat} (h:j<d.length):d.toArray[j]! = d[j]:=by simp[h]
theorem compactUpToZ {d:List Int} (hd:d.Pairwise (·≤·)):∀ m,m≤d.length→(Go.Lib.compactUpTo d.toArray m).Pairwise (·<·)∧∀ x,x ∈ Go.Lib.compactUpTo d.toArray m↔x ∈ d.take m
 | 0,_=>by simp[Go.Lib.compactUpTo]
 | m+1,hm=>by
  obtain⟨h1,h2⟩:=compactUpToZ hd m (by omega)
  have hm1:m<d.length:=by omega
  have htk:d.take (m+1)=d.take m++[d[m]]:=List.take_succ_eq_append_getElem hm1
  rw[Go.Lib.compactUpTo_succ,htk]
  by_cases hk:Go.Lib.keeps d.toArray m=true
  ·rw[if_pos hk]
   have hlt:∀ a ∈ d.take m,a<d[m]:=fun a ha=>by
    obtain⟨j,hj,rfl⟩:=List.getElem_of_mem ha
    have hjm:j<m:=by simp at hj;omega
    rw[List.getElem_take]
    simp only[Go.Lib.keeps,decide_eq_true_eq] at hk
    have hne:d[m] ≠ d[m - 1]:=by
     rcases hk with h | h
     ·omega
     ·rwa [get_bangZ hm1,get_bangZ (show m - 1<d.length by omega)] at h
    have hp:=List.pairwise_iff_getElem.1 hd
    have h3:d[m - 1]≤d[m]:=hp (m - 1) m (by omega) hm1 (by omega)
    rcases Nat.lt_or_ge j (m - 1) with h5 | h5
    ·have h6:=hp j (m - 1) (by omega) (by omega) h5
     omega
    ·have:j=m - 1:=by omega
     subst this;omega
   refine⟨List.pairwise_append.2 ⟨h1,by simp,fun a ha b hb=>?_⟩,fun x=>?_⟩
   ·simp only[List.mem_singleton,get_bangZ hm1] at hb
    subst hb
    exact hlt a ((h2 a).1 ha)
   ·simp only[List.mem_append,h2,get_bangZ hm1]
  ·rw[if_neg hk,List.append_nil]
   refine⟨h1,fun x=>?_⟩
   rw[h2,List.mem_append]
   refine⟨.inl,fun h=>h.elim id fun h=>?_⟩
   simp only[Go.Lib.keeps,decide_eq_true_eq,not_or,Decidable.not_not] at hk
   obtain⟨k0,k1⟩:=hk
   rw[get_bangZ hm1,get_bangZ (show m - 1<d.length by omega)] at k1
   simp only[List.mem_singleton] at h
   subst h
   rw[k1]
   exact List.mem_iff_getElem.2 ⟨m - 1,by simp;omega,by simp⟩
theorem sortedZ_spec (l:List Int):(compactZ (sortZ l).1).Pairwise (·<·)∧∀ x,x ∈ compactZ (sortZ l).1↔x ∈ l:=by
 have h3:(sortZ l).1.Pairwise (·≤·):=by
  have:=List.pairwise_mergeSort (le:=fun x y:Int=>decide (x≤y)) (fun a b c h1 h2=>by simp only[decide_eq_true_eq] at *;omega) (fun a b=>by simp;omega) l
  simpa[sortZ] using this
 obtain⟨h1,h2⟩:=compactUpToZ h3 (sortZ l).1.length (Nat.le_refl _)
 refine⟨h1,fun x=>(h2 x).trans ?_⟩
 rw[List.take_length]
 exact List.mem_mergeSort
def zName (k:Nat):Str:=122::runeS (97+k)
def zBack:Str→Nat
 | [_,a]=>a.toNat - 97
 | [_,a,b]=>(a.toNat - 192) * 64+(b.toNat - 128) - 97
 | _=>0
theorem zBack_name:∀ k:Fin 64,zBack (zName k)=k:=by decide
theorem zName_inj {i j:Nat} (hi:i<64) (hj:j<64) (h:zName i=zName j):i=j:=by
 have h1:=zBack_name ⟨i,hi⟩
 have h2:=zBack_name ⟨j,hj⟩
 simp only at h1 h2
 rw[← h1,← h2,h]
def freeN (outer:List Str) (k:Nat):List Str:=((List.range k).map zName).filter fun s=>decide (s ∉ outer)
theorem freeN_succ (outer:List Str) (k:Nat):freeN outer (k+1)=if zName k ∈ outer then freeN outer k else freeN outer k++[zName k]:=by
 rw[freeN,List.range_succ,List.map_append,List.filter_append]
 by_cases h:zName k ∈ outer<;>simp[h,freeN]
theorem nodup_le {l m:List Str} (h:l.Nodup) (hs:∀ x ∈ l,x ∈ m):l.length≤m.length:=by
 induction l generalizing m with
 | nil=>simp
 | cons x l ih=>
  have hx:x ∈ m:=hs x (by simp)
  rw[List.nodup_cons] at h
  have:=ih (m:=m.erase x) h.2 fun y hy=>(List.mem_erase_of_ne (by rintro rfl;exact h.1 hy)).2 (hs y (by simp[hy]))
  rw[List.length_erase_of_mem hx] at this
  have:=List.length_pos_of_mem hx
  simp only[List.length_cons]
  omega
theorem freeN_len (outer:List Str) {k:Nat} (hk:k≤64):k≤(freeN outer k).length+outer.length:=by
 have h1:(((List.range k).map zName).filter fun s=>decide (s ∈ outer)).length≤outer.length:=by
  refine nodup_le ?_ fun x hx=>by simpa using (List.mem_filter.1 hx).2
  refine List.Nodup.sublist List.filter_sublist ?_
  rw[List.Nodup,List.pairwise_map]
  refine List.Pairwise.imp_of_mem (R:=(· ≠ ·)) (fun {a b} ha hb hne h=>hne (zName_inj ?_ ?_ h)) List.nodup_range
  ·have:=List.mem_range.1 ha;omega
  ·have:=List.mem_range.1 hb;omega
 have h2:∀ l:List Str,(l.filter fun s=>decide (s ∈ outer)).length+(l.filter fun s=>decide (s ∉ outer)).length=l.length:=by
  intro l
  induction l with
  | nil=>rfl
  | cons x l ih=>by_cases h:x ∈ outer<;>simp[h]<;>simp at ih<;>omega
 have:=h2 ((List.range k).map zName)
 simp only[List.length_map,List.length_range] at this
 rw[freeN]
 omega
theorem freeN_pre (outer:List Str) {j k:Nat} (h:j≤k):freeN outer j <+: freeN outer k:=by
 induction k with
 | zero=>rw[show j=0 by omega];exact List.prefix_rfl
 | succ k ih=>
  rcases Nat.lt_or_ge j (k+1) with h1 | h1
  ·refine (ih (by omega)).trans ?_
   rw[freeN_succ]
   split
   ·exact List.prefix_rfl
   ·exact List.prefix_append _ _
  ·rw[show j=k+1 by omega];exact List.prefix_rfl
def namesZ (outer:List Str) (n:Nat):List Str:=(freeN outer (n+outer.length)).take n
theorem namesZ_end {outer:List Str} {k n:Nat} (hk:k≤n+outer.length) (hl:(freeN outer k).length=n):freeN outer k=namesZ outer n:=by
 have:=(List.prefix_iff_eq_take).1 (freeN_pre outer hk)
 rw[hl] at this
 exact this
abbrev hasStr_pre (l:List Str) (_:Str):Prop:=l.length≤1048576
abbrev hasStr (l:List Str) (s:Str):Bool:=decide (s ∈ l)
def hasStr_wp (s:List Str) (v_:Str) (Z:Bool→Prop):Prop:=
 (indexS_pre s v_)∧∀ r3:Int,r3=indexS s v_→∀ c4:Bool,c4=decide (0≤r3)→Z c4
theorem hasStr_vc (l:List Str) (s:Str) (h:hasStr_pre l s):hasStr_wp l s (fun y=>y=hasStr l s):=by
 unfold hasStr_wp
 simp only[forall_eq]
 refine⟨h,?_⟩
 rw[indexS,hasStr]
 split<;>simp_all
def linksTo (b:Big) (l:List Int) (k:Nat):List Int:=((l.take k).map fun x=>(at' b.nodes x).links).flatten
theorem linksTo_succ {b:Big} {l:List Int} {k:Nat} (h:k<l.length):linksTo b l (k+1)=linksTo b l k++(at' b.nodes l[k]).links:=by
 rw[linksTo,List.take_succ_eq_append_getElem h,List.map_append,List.flatten_append]
 simp[linksTo]
def paramL (b:Big) (m:Match):List Int:=linksTo b (parameterOf b m) (parameterOf b m).length
def passedL (b:Big) (m:Match):List Int:=compactZ (sortZ (paramL b m)).1
theorem linksTo_len {sig:Sig} {b:Big} (hV:ValidB sig b) {l:List Int} (hl:∀ x ∈ l,0≤x∧x<b.nodes.length):∀ k,k≤l.length→(linksTo b l k).length≤3 * k
 | 0,_=>by simp[linksTo]
 | k+1,h=>by
  have h1:=linksTo_len hV hl k (by omega)
  have h2:=hV.portsLe (hl _ (List.getElem_mem (show k<l.length by omega)))
  rw[linksTo_succ (by omega),List.length_append]
  omega
theorem param_in {b:Big} {m:Match}:∀ x ∈ parameterOf b m,0≤x∧x<b.nodes.length:=fun _ hx=>(mem_mayL.1 hx).1
theorem paramL_len {sig:Sig} {b:Big} (hV:ValidB sig b) (m:Match):(paramL b m).length≤24:=by
 have h1:=linksTo_len hV (param_in (m:=m)) _ (Nat.le_refl _)
 have h2:(parameterOf b m).length≤b.nodes.length:=mayL_len 3 b m b.nodes.length
 have h3:=hV.len
 rw[paramL]
 omega
theorem passed_len {sig:Sig} {b:Big} (hV:ValidB sig b) (m:Match):(passedL b m).length≤24:=by
 have h1:=compactZ_le (sortZ (paramL b m)).1
 have h2:=paramL_len hV m
 simp only[sortZ,List.length_mergeSort] at h1
 rw[passedL]
 simp only[sortZ]
 omega
theorem runeS_len':∀ k:Fin 64,(fun i:Nat=>(runeS (97+(i:Int))).length≤4) k.val:=by
 simp only
 decide
theorem runeS_len {k:Nat} (h:k<64):(runeS (97+(k:Int))).length≤4:=runeS_len' ⟨k,h⟩
theorem zName_eq (k:Nat):[122]++runeS (97+(k:Int))=zName k:=by rw[zName,List.singleton_append]
abbrev passedLinks_pre (redex agent:Big) (m:Match):Prop:=(∃ sig,ValidB sig agent)∧redex.outer.length≤16∧m.nodes.length≤1048576
abbrev passedLinks (redex agent:Big) (m:Match):List Int × List Str × Bool:=(passedL agent m,namesZ redex.outer (passedL agent m).length,decide ((passedL agent m).length+redex.outer.length≤16))
def passedLinks_wp (redex:Big) (agent:Big) (m:Match) (Z:((List Int) × (List Str) × Bool)→Prop):Prop:=
 (parameterOf_pre agent m)∧∀ r12:List Int,r12=parameterOf agent m→∀ len20:Int,len20=(r12.length:Int)→loopW (σ:=Int × (List Int)) (fun (v37,l38) K44=>∀ c45:Bool,c45=decide (v37<len20)→((c45=true→(0≤v37∧v37<r12.length)∧∀ x52:Int,x52=at' r12 v37→(0≤x52∧x52<agent.nodes.length)∧∀ x56:GNode,x56=at' agent.nodes x52→(l38.length+x56.links.length≤1073741824)∧∀ l59:List Int,l59=l38++x56.links→(I64 (v37+1))∧∀ v71:Int,v71=v37+1→K44 (v71,l59))∧(c45=false→(l38.length≤1073741824)∧∀ r74:(List Int) × Unit,r74=sortZ l38→(r74.1.length≤1073741824)∧∀ r85:List Int,r85=compactZ r74.1→loopW (σ:=Int × (List Str)) (fun (c105,l106) K111=>∀ len112:Int,len112=(l106.length:Int)→∀ len114:Int,len114=(r85.length:Int)→∀ c116:Bool,c116=decide (len112<len114)→((c116=true→∀ v118:Str,v118=runeS c105→([122].length+v118.length<4611686018427387904)∧∀ v120:Str,v120=[122]++v118→(hasStr_pre redex.outer v120)∧∀ r123:Bool,r123=hasStr redex.outer v120→((r123=true→(-2147483648≤c105+1∧c105+1≤2147483647)∧∀ v139:Int,v139=c105+1→K111 (v139,l106))∧(r123=false→(l106.length+1≤1073741824)∧∀ l125:List Str,l125=l106++[v120]→(-2147483648≤c105+1∧c105+1≤2147483647)∧∀ v136:Int,v136=c105+1→K111 (v136,l125))))∧(c116=false→∀ len144:Int,len144=(r85.length:Int)→∀ len146:Int,len146=(redex.outer.length:Int)→(I64 (len144+len146))∧∀ v149:Int,v149=len144+len146→∀ c151:Bool,c151=decide (v149≤16)→Z (r85,l106,c151)))) (97,([]:List Str))))) (0,([]:List Int))
theorem passedLinks_vc (redex agent:Big) (m:Match) (h:passedLinks_pre redex agent m):passedLinks_wp redex agent m (fun y=>y=passedLinks redex agent m):=by
 unfold passedLinks_wp
 obtain⟨⟨sig,hV⟩,ho,hm⟩:=h
 have h8:=hV.len
 have hpl:(parameterOf agent m).length≤agent.nodes.length:=mayL_len 3 agent m agent.nodes.length
 simp only[forall_eq,decide_eq_true_eq,decide_eq_false_iff_not]
 refine⟨⟨hV.downB,hm⟩,?_⟩
 refine loopW.upL (parameterOf agent m).length (fun k t=>t=linksTo agent (parameterOf agent m) k) [] rfl ?_
 rintro k _ K hk rfl IH
 dsimp only
 have hl:=linksTo_len hV (param_in (m:=m)) k hk
 refine⟨fun h1=>?_,fun h1=>?_⟩
 ·have hk2:k<(parameterOf agent m).length:=by omega
  rw[at_lt hk2]
  have h2:=param_in _ (List.getElem_mem hk2)
  have h3:=hV.portsLe h2
  exact⟨⟨by omega,by omega⟩,h2,by omega,by simp only[I64];omega,IH hk2 _ (linksTo_succ hk2).symm⟩
 ·have e:linksTo agent (parameterOf agent m) k=paramL agent m:=by rw[paramL,show k=(parameterOf agent m).length by omega]
  rw[e]
  have hl2:=paramL_len hV m
  have hn:=passed_len hV m
  refine⟨by omega,by simp only[sortZ,List.length_mergeSort];omega,?_⟩
  rw[show compactZ (sortZ (paramL agent m)).1=passedL agent m from rfl]
  refine loopW.up ((passedL agent m).length+redex.outer.length) (fun s=>s.1 - 97) (fun k t=>(97+(k:Int),t)) (fun _ _=>by simp only;omega) (fun k t=>t=freeN redex.outer k∧t.length≤(passedL agent m).length) [] (by simp) ⟨by simp[freeN],by simp⟩ ?_
  rintro k _ K hk ⟨rfl,hle⟩ IH
  dsimp only
  have hf:=freeN_len redex.outer (k:=k) (by omega)
  have hzl:=runeS_len (k:=k) (by omega)
  refine⟨fun h1=>?_,fun h1=>?_⟩
  ·have hk2:k<(passedL agent m).length+redex.outer.length:=by omega
   rw[zName_eq,show (97:Int)+(k:Int)+1=97+((k+1:Nat):Int) by omega]
   refine⟨by simp only[List.length_cons,List.length_nil];omega,by simp only[hasStr_pre];omega,fun h4=>⟨by omega,IH hk2 _ ⟨?_,hle⟩⟩,fun h4=>⟨by omega,by omega,IH hk2 _ ⟨?_,?_⟩⟩⟩
   ·rw[freeN_succ,if_pos h4]
   ·rw[freeN_succ,if_neg h4]
   ·simp only[List.length_append,List.length_cons,List.length_nil];omega
  ·refine⟨by simp only[I64];omega,?_⟩
   have hnn:(freeN redex.outer k).length=(passedL agent m).length:=Nat.le_antisymm hle (Int.ofNat_le.1 (Int.not_lt.1 h1))
   rw[passedLinks,namesZ_end hk hnn]
   refine Prod.ext rfl (Prod.ext rfl ?_)
   simp only[decide_eq_decide]
   omega
theorem mem_paramL {b:Big} {m:Match} {l:Int}:l ∈ paramL b m↔∃ x:Int,(0≤x∧x<b.nodes.length)∧mayB 3 b m x=true∧l ∈ (at' b.nodes x).links:=by
 simp only[paramL,linksTo,List.take_length,List.mem_flatten,List.mem_map]
 constructor
 ·rintro⟨_,⟨x,hx,rfl⟩,hl⟩
  have:=mem_mayL.1 hx
  exact⟨x,this.1,this.2,hl⟩
 ·rintro⟨x,h1,h2,h3⟩
  exact⟨_,⟨x,mem_mayL.2 ⟨h1,h2⟩,rfl⟩,h3⟩
abbrev PassedLinks_pre (sig:Sig) (redex agent:Big) (m:Match):Prop:=IsMatch_pre sig redex agent m
noncomputable def PassedLinks (sig:Sig) (redex agent:Big) (m:Match):List Int × List Str × Bool:=if matching sig redex agent && matchB redex agent m then (if (passedL agent m).length+redex.outer.length≤16 then (passedL agent m,namesZ redex.outer (passedL agent m).length,true) else ([],[],false)) else ([],[],false)
theorem matched_valid {sig:Sig} {redex agent:Big} {m:Match} (hs:IsMatch_pre sig redex agent m) (h:(matching sig redex agent && matchB redex agent m)=true):passedLinks_pre redex agent m:=by
 simp only[Bool.and_eq_true] at h
 have hp:=matching_pair h.1
 exact⟨⟨sig,hp.a⟩,hp.r.outer,hs.2.2.1⟩
def PassedLinks_wp (sig:List Control) (redex:Big) (agent:Big) (m:Match) (Z:((List Int) × (List Str) × Bool)→Prop):Prop:=
 (isMatched_pre sig redex agent m)∧∀ r7:Bool,r7=isMatched sig redex agent m→((r7=true→(passedLinks_pre redex agent m)∧∀ r12:(List Int) × (List Str) × Bool,r12=passedLinks redex agent m→((r12.2.2=true→Z (r12.1,r12.2.1,true))∧(r12.2.2=false→Z ([],[],false))))∧(r7=false→Z ([],[],false)))
theorem PassedLinks_vc (sig:Sig) (redex agent:Big) (m:Match) (h:PassedLinks_pre sig redex agent m):PassedLinks_wp sig redex agent m (fun y=>y=PassedLinks sig redex agent m):=by
 unfold PassedLinks_wp
 simp only[forall_eq,decide_eq_true_eq,decide_eq_false_iff_not]
 refine⟨h,fun h1=>⟨matched_valid h h1,fun h2=>?_,fun h2=>?_⟩,fun h1=>?_⟩
 ·rw[PassedLinks,if_pos h1,if_pos (by omega)]
 ·rw[PassedLinks,if_pos h1,if_neg (by omega)]
 ·rw[PassedLinks,if_neg (by rw[show (matching sig redex agent && matchB redex agent m)=false from h1];simp)]
abbrev l8Parameter_pre (agent:Big) (m:Match):Prop:=DownB agent∧m.nodes.length≤1048576
abbrev l8Parameter (agent:Big) (m:Match):List Bool:=(List.range agent.nodes.length).map fun i:Nat=>mayB 3 agent m i
def l8Parameter_wp (agent:Big) (m:Match) (Z:(List Bool)→Prop):Prop:=
 loopW (σ:=Int × (List Bool)) (fun (i15,l16) K20=>∀ len21:Int,len21=(agent.nodes.length:Int)→∀ c23:Bool,c23=decide (i15<len21)→((c23=true→(m.nodes.length≤1048576)∧∀ r26:Bool,r26=hasI m.nodes i15→((r26=true→(l16.length+1≤1073741824)∧∀ l28:List Bool,l28=l16++[false]→(I64 (i15+1))∧∀ v38:Int,v38=i15+1→K20 (v38,l28))∧(r26=false→(l8Inside_pre agent m i15)∧∀ r41:Bool,r41=l8Inside agent m i15→(l16.length+1≤1073741824)∧∀ l43:List Bool,l43=l16++[r41]→(I64 (i15+1))∧∀ v53:Int,v53=i15+1→K20 (v53,l43))))∧(c23=false→Z l16))) (0,([]:List Bool))
theorem l8Parameter_vc (agent:Big) (m:Match) (h:l8Parameter_pre agent m):l8Parameter_wp agent m (fun y=>y=l8Parameter agent m):=by
 unfold l8Parameter_wp
 obtain⟨h1,h2⟩:=h
 have h8:=h1.1
 simp only[forall_eq,decide_eq_true_eq,decide_eq_false_iff_not]
 refine loopW.upL agent.nodes.length (fun k t=>t=(List.range k).map fun i:Nat=>mayB 3 agent m i) [] rfl ?_
 rintro k _ K hk rfl IH
 dsimp only
 have hl:((List.range k).map fun i:Nat=>mayB 3 agent m i).length=k:=by simp
 refine⟨fun h3=>⟨h2,fun h4=>⟨by omega,by simp only[I64];omega,IH (by omega) _ ?_⟩,fun h4=>⟨⟨h1,by omega,h2⟩,by omega,by simp only[I64];omega,IH (by omega) _ ?_⟩⟩,fun h3=>?_⟩
 ·rw[List.range_succ,List.map_append];simp[mayB,h4]
 ·rw[List.range_succ,List.map_append];simp[mayB,h4]
 ·rw[l8Parameter,show agent.nodes.length=k by omega]
def someL (b:Big) (l:Int) (kind:List Bool) (is:Bool) (k:Nat):Int:=((((portsB b l).take k).filter fun p=>at' kind p.1 == is).length:Int)
theorem someL_succ {b:Big} {l:Int} {kind:List Bool} {is:Bool} {k:Nat} (h:k<(portsB b l).length):someL b l kind is (k+1)=someL b l kind is k+if (at' kind (portsB b l)[k].1 == is)=true then 1 else 0:=by
 rw[someL,List.take_succ_eq_append_getElem h,List.filter_append,List.length_append,someL]
 by_cases hc:(at' kind (portsB b l)[k].1 == is)=true<;>simp[hc]
theorem someL_le (b:Big) (l:Int) (kind:List Bool) (is:Bool) (k:Nat):0≤someL b l kind is k∧someL b l kind is k≤k:=by
 have h1:=List.length_filter_le (fun p:Int × Int=>at' kind p.1 == is) ((portsB b l).take k)
 have h2:((portsB b l).take k).length≤k:=by simp;omega
 rw[someL]
 omega
theorem portsB_le {b:Big} (h:LinkSz b) (l:Int):(portsB b l).length≤1048576:=by
 have:=portsTo_len h.2.1 l b.nodes.length (Nat.le_refl _)
 have h1:=h.1
 rw[portsB]
 omega
abbrev l4Some_pre (b:Big) (_:Int) (kind:List Bool) (_:Bool):Prop:=LinkSz b∧kind.length=b.nodes.length
abbrev l4Some (b:Big) (l:Int) (kind:List Bool) (is:Bool):Int:=someL b l kind is (portsB b l).length
def l4Some_wp (b:Big) (link:Int) (kind:List Bool) (is:Bool) (Z:Int→Prop):Prop:=
 (l2Ports_pre b link)∧∀ r5:List (Int × Int),r5=l2Ports b link→loopW (σ:=Int × Int) (fun (count9,i10) K13=>∀ len14:Int,len14=(r5.length:Int)→∀ c16:Bool,c16=decide (i10<len14)→((c16=true→(0≤i10∧i10<r5.length)∧∀ x19:Int × Int,x19=at' r5 i10→(0≤x19.1∧x19.1<kind.length)∧∀ x23:Bool,x23=at' kind x19.1→∀ c25:Bool,c25=(x23 == is)→((c25=true→(I64 (count9+1))∧∀ v28:Int,v28=count9+1→(I64 (i10+1))∧∀ v32:Int,v32=i10+1→K13 (v28,v32))∧(c25=false→(I64 (i10+1))∧∀ v35:Int,v35=i10+1→K13 (count9,v35))))∧(c16=false→Z count9))) (0,0)
theorem l4Some_vc (b:Big) (l:Int) (kind:List Bool) (is:Bool) (h:l4Some_pre b l kind is):l4Some_wp b l kind is (fun y=>y=l4Some b l kind is):=by
 unfold l4Some_wp
 obtain⟨h1,h2⟩:=h
 have hp:=portsB_le h1 l
 simp only[forall_eq,decide_eq_true_eq,decide_eq_false_iff_not,l2Ports]
 refine⟨h1,loopW.upR (portsB b l).length (fun k c=>c=someL b l kind is k) 0 rfl ?_⟩
 rintro k _ K hk rfl IH
 dsimp only
 have hc:=someL_le b l kind is k
 refine⟨fun h3=>?_,fun h3=>?_⟩
 ·have hk2:k<(portsB b l).length:=by omega
  rw[at_lt hk2]
  obtain⟨j,j1,j2,_⟩:=mem_portsTo.1 (List.getElem_mem hk2)
  refine⟨⟨by omega,by omega⟩,⟨by omega,by omega⟩,fun h4=>⟨by simp only[I64];omega,by simp only[I64];omega,IH hk2 _ ?_⟩,fun h4=>⟨by simp only[I64];omega,IH hk2 _ ?_⟩⟩
  ·rw[someL_succ hk2,if_pos h4]
  ·rw[someL_succ hk2,if_neg (by rw[h4];simp)];omega
 ·rw[l4Some,show (portsB b l).length=k by omega]
theorem letters:∀ n:Fin 26,(fun i:Nat=>(([97,98,99,100,101,102,103,104,105,106,107,108,109,110,111,112,113,114,115,116,117,118,119,120,121,122]:Str).take (i+1)).drop i=runeS (97+(i:Int))) n.val:=by
 simp only
 decide
abbrev l4Letter_pre (k:Int):Prop:=0≤k∧k<26
abbrev l4Letter (k:Int):Str:=runeS (97+k)
def l4Letter_wp (link:Int) (Z:Str→Prop):Prop:=
 (I64 (link+1))∧∀ v3:Int,v3=link+1→(0≤link∧link≤v3∧v3≤[97,98,99,100,101,102,103,104,105,106,107,108,109,110,111,112,113,114,115,116,117,118,119,120,121,122].length)∧∀ s6:Str,s6=([97,98,99,100,101,102,103,104,105,106,107,108,109,110,111,112,113,114,115,116,117,118,119,120,121,122].take v3.toNat).drop link.toNat→Z s6
theorem l4Letter_vc (k:Int) (h:l4Letter_pre k):l4Letter_wp k (fun y=>y=l4Letter k):=by
 unfold l4Letter_wp
 obtain⟨h1,h2⟩:=h
 obtain⟨n,rfl⟩:∃ n:Nat,k=n:=⟨k.toNat,by omega⟩
 simp only[forall_eq,List.length_cons,List.length_nil]
 refine⟨by simp only[I64];omega,⟨by omega,by omega,by omega⟩,?_⟩
 rw[show ((n:Int)+1).toNat=n+1 by omega,Int.toNat_natCast]
 exact letters ⟨n,by omega⟩
theorem index_neg {l:List Str} {s:Str}:indexS l s<0↔s ∉ l:=by
 rw[indexS]
 split
 ·rename_i h
  exact iff_of_false (by omega) fun h2=>h2 h
 ·rename_i h
  exact iff_of_true (by omega) h
def linkF (agent:Big) (m:Match) (k:Nat):List Int:=((List.range k).map fun i:Nat=>(i:Int)).filter fun l=>decide (0<l4Some agent l (l8Parameter agent m) true)
theorem linkF_succ (agent:Big) (m:Match) (k:Nat):linkF agent m (k+1)=if 0<l4Some agent k (l8Parameter agent m) true then linkF agent m k++[(k:Int)] else linkF agent m k:=by
 rw[linkF,List.range_succ,List.map_append,List.filter_append]
 by_cases h:0<l4Some agent k (l8Parameter agent m) true<;>simp[h,linkF]
theorem linkF_len (agent:Big) (m:Match) (k:Nat):(linkF agent m k).length≤k:=by
 have:=List.length_filter_le (fun l=>decide (0<l4Some agent l (l8Parameter agent m) true)) ((List.range k).map fun i:Nat=>(i:Int))
 simpa[linkF] using this
theorem some_pos {agent:Big} {m:Match} {l:Int}:0<l4Some agent l (l8Parameter agent m) true↔l ∈ paramL agent m:=by
 rw[l4Some,someL,List.take_length,mem_paramL]
 have e:∀ x:Int,0≤x→x<agent.nodes.length→at' (l8Parameter agent m) x=mayB 3 agent m x:=by
  intro x h0 h1
  obtain⟨n,rfl⟩:∃ n:Nat,x=n:=⟨x.toNat,by omega⟩
  rw[at_lt (by simp;omega)]
  simp
 constructor
 ·intro h
  have h1:0<((portsB agent l).filter fun p=>at' (l8Parameter agent m) p.1 == true).length:=by omega
  obtain⟨p,hp⟩:=List.exists_mem_of_length_pos h1
  rw[List.mem_filter] at hp
  obtain⟨j,j1,j2,j3,j4,j5⟩:=mem_portsTo.1 hp.1
  have h2:=hp.2
  rw[j2,e _ (by omega) (by omega),beq_iff_eq] at h2
  refine⟨j,⟨by omega,by omega⟩,h2,?_⟩
  obtain⟨q,hq⟩:∃ q:Nat,p.2=q:=⟨p.2.toNat,by omega⟩
  rw[hq,at_lt (by omega)] at j5
  rw[← j5]
  exact List.getElem_mem _
 ·rintro⟨x,⟨h0,h1⟩,h2,h3⟩
  obtain⟨n,rfl⟩:∃ n:Nat,x=n:=⟨x.toNat,by omega⟩
  obtain⟨q,hq,he⟩:=List.getElem_of_mem h3
  have hm:((n:Int),(q:Int)) ∈ (portsB agent l).filter fun p=>at' (l8Parameter agent m) p.1 == true:=by
   rw[List.mem_filter]
   refine⟨mem_portsTo.2 ⟨n,by omega,rfl,by simp,by simpa using hq,?_⟩,?_⟩
   ·simp only
    rw[at_lt hq,he]
   ·simp only[e _ h0 h1,h2,beq_self_eq_true]
  have:=List.length_pos_of_mem hm
  omega
theorem linkF_end {sig:Sig} {agent:Big} (hV:ValidB sig agent) (m:Match) {k:Nat} (hk:(k:Int)=agent.edges+agent.outer.length):linkF agent m k=passedL agent m:=by
 obtain⟨s1,s2⟩:=sortedZ_spec (paramL agent m)
 refine strictZ_eq ?_ s1 fun x=>?_
 ·refine List.Pairwise.sublist List.filter_sublist ?_
  rw[List.pairwise_map]
  exact List.pairwise_lt_range.imp fun h=>by omega
 ·rw[show x ∈ passedL agent m↔x ∈ paramL agent m from s2 x]
  simp only[linkF,List.mem_filter,decide_eq_true_eq,some_pos,List.mem_map,List.mem_range]
  refine⟨fun h=>h.2,fun h=>⟨?_,h⟩⟩
  obtain⟨y,hy,_,hl⟩:=mem_paramL.1 h
  have:=hV.linksAt hy x hl
  exact⟨x.toNat,by omega,by omega⟩
abbrev l8Passed_pre (redex agent:Big) (m:Match):Prop:=passedLinks_pre redex agent m
abbrev l8Passed (redex agent:Big) (m:Match):List Int × List Str × Bool:=if (passedL agent m).length+redex.outer.length≤16 then (passedL agent m,namesZ redex.outer (passedL agent m).length,true) else ([],[],false)
def l8Passed_wp (redex:Big) (agent:Big) (m:Match) (Z:((List Int) × (List Str) × Bool)→Prop):Prop:=
 (l8Parameter_pre agent m)∧∀ r9:List Bool,r9=l8Parameter agent m→loopW (σ:=Int × (List Int)) (fun (link32,l33) K39=>∀ len40:Int,len40=(agent.outer.length:Int)→(I64 (agent.edges+len40))∧∀ v43:Int,v43=agent.edges+len40→∀ c45:Bool,c45=decide (link32<v43)→((c45=true→(l4Some_pre agent link32 r9 true)∧∀ r48:Int,r48=l4Some agent link32 r9 true→∀ c49:Bool,c49=decide (0<r48)→((c49=true→(l33.length+1≤1073741824)∧∀ l52:List Int,l52=l33++[link32]→(I64 (link32+1))∧∀ v64:Int,v64=link32+1→K39 (v64,l52))∧(c49=false→(I64 (link32+1))∧∀ v67:Int,v67=link32+1→K39 (v67,l33))))∧(c45=false→∀ len73:Int,len73=(l33.length:Int)→∀ len75:Int,len75=(redex.outer.length:Int)→(I64 (len73+len75))∧∀ v78:Int,v78=len73+len75→∀ c80:Bool,c80=decide (16<v78)→((c80=true→Z (([]:List Int),([]:List Str),false))∧(c80=false→loopW (σ:=Int × (List Str)) (fun (i100,l101) K106=>∀ len107:Int,len107=(l101.length:Int)→∀ len109:Int,len109=(l33.length:Int)→∀ c111:Bool,c111=decide (len107<len109)→((c111=true→(l4Letter_pre i100)∧∀ r114:Str,r114=l4Letter i100→([122].length+r114.length<4611686018427387904)∧∀ v116:Str,v116=[122]++r114→(l2At_pre redex.outer v116)∧∀ r119:Int,r119=l2At redex.outer v116→∀ c120:Bool,c120=decide (r119<0)→((c120=true→(l101.length+1≤1073741824)∧∀ l123:List Str,l123=l101++[v116]→(I64 (i100+1))∧∀ v134:Int,v134=i100+1→K106 (v134,l123))∧(c120=false→(I64 (i100+1))∧∀ v137:Int,v137=i100+1→K106 (v137,l101))))∧(c111=false→Z (l33,l101,true)))) (0,([]:List Str))))))) (0,([]:List Int))
theorem l8Passed_vc (redex agent:Big) (m:Match) (h:l8Passed_pre redex agent m):l8Passed_wp redex agent m (fun y=>y=l8Passed redex agent m):=by
 unfold l8Passed_wp
 obtain⟨⟨sig,hV⟩,ho,hm⟩:=h
 have h8:=hV.len
 have he:=hV.edges
 have hou:=hV.outer
 have hn:=passed_len hV m
 simp only[forall_eq,decide_eq_true_eq,decide_eq_false_iff_not]
 refine⟨⟨hV.downB,hm⟩,?_⟩
 refine loopW.upL (agent.edges+agent.outer.length).toNat (fun k t=>t=linkF agent m k) [] rfl ?_
 rintro k _ K hk rfl IH
 dsimp only
 have hl:=linkF_len agent m k
 refine⟨by simp only[I64];omega,fun h1=>⟨⟨hV.linkSz,by simp⟩,fun h2=>⟨by omega,by simp only[I64];omega,IH (by omega) _ ?_⟩,fun h2=>⟨by simp only[I64];omega,IH (by omega) _ ?_⟩⟩,fun h1=>?_⟩
 ·rw[linkF_succ,if_pos h2]
 ·rw[linkF_succ,if_neg h2]
 ·rw[linkF_end hV m (k:=k) (by omega)]
  refine⟨by simp only[I64];omega,fun h2=>?_,fun h2=>?_⟩
  ·rw[l8Passed,if_neg (by omega)]
  ·refine loopW.upL ((passedL agent m).length+redex.outer.length) (fun k t=>t=freeN redex.outer k∧t.length≤(passedL agent m).length) [] ⟨by simp[freeN],by simp⟩ ?_
   rintro k _ K hk ⟨rfl,hle⟩ IH
   dsimp only
   have hf:=freeN_len redex.outer (k:=k) (by omega)
   have hzl:(l4Letter (k:Int)).length≤4:=runeS_len (k:=k) (by omega)
   refine⟨fun h3=>?_,fun h3=>?_⟩
   ·have hk2:k<(passedL agent m).length+redex.outer.length:=by omega
    rw[show [122]++l4Letter (k:Int)=zName k from zName_eq k]
    refine⟨⟨by omega,by omega⟩,by simp only[List.length_cons,List.length_nil];omega,by simp only[l2At_pre];omega,fun h4=>⟨by omega,by simp only[I64];omega,IH hk2 _ ⟨?_,?_⟩⟩,fun h4=>⟨by simp only[I64];omega,IH hk2 _ ⟨?_,hle⟩⟩⟩
    ·rw[freeN_succ,if_neg (index_neg.1 h4)]
    ·simp only[List.length_append,List.length_cons,List.length_nil];omega
    ·rw[freeN_succ,if_pos (Decidable.not_not.1 fun h5=>h4 (index_neg.2 h5))]
   ·have hnn:(freeN redex.outer k).length=(passedL agent m).length:=Nat.le_antisymm hle (Int.ofNat_le.1 (Int.not_lt.1 h3))
    rw[l8Passed,if_pos (by omega),namesZ_end hk hnn]
noncomputable abbrev sPassedLinks (sig:Sig) (redex agent:Big) (m:Match):=PassedLinks sig redex agent m
abbrev sPassedLinks_pre (sig:Sig) (redex agent:Big) (m:Match):Prop:=IsMatch_pre sig redex agent m
def sPassedLinks_wp (sig:List Control) (redex:Big) (agent:Big) (m:Match) (Z:((List Int) × (List Str) × Bool)→Prop):Prop:=
 (l8Given_pre sig redex agent m)∧∀ r7:Bool,r7=l8Given sig redex agent m→((r7=true→(l8Passed_pre redex agent m)∧∀ r15:(List Int) × (List Str) × Bool,r15=l8Passed redex agent m→Z (r15.1,r15.2.1,r15.2.2))∧(r7=false→Z (([]:List Int),([]:List Str),false)))
theorem sPassedLinks_vc (sig:Sig) (redex agent:Big) (m:Match) (h:sPassedLinks_pre sig redex agent m):sPassedLinks_wp sig redex agent m (fun y=>y=sPassedLinks sig redex agent m):=by
 unfold sPassedLinks_wp
 simp only[forall_eq]
 refine⟨h,fun h1=>⟨matched_valid h h1,?_⟩,fun h1=>?_⟩
 ·rw[sPassedLinks,PassedLinks,if_pos h1]
 ·rw[sPassedLinks,PassedLinks,if_neg (by rw[show (matching sig redex agent && matchB redex agent m)=false from h1];simp)]
end Go.Ab.Vg
/- PassedLinks (statement 33): the law. -/
namespace Go.Ab.Vg
set_option linter.unusedSimpArgs false
set_option linter.unusedVariables false
theorem namesZ_len (outer:List Str) (n:Nat):(namesZ outer n).length≤n:=by rw[namesZ];simp;omega
theorem pass_len (sig:Sig) (r a:Big) (m:Match):(PassedLinks sig r a m).1.length≤24∧(PassedLinks sig r a m).2.1.length≤24:=by
 unfold PassedLinks
 split
 ·rename_i h
  rw[Bool.and_eq_true] at h
  have hV:=(matching_pair h.1).a
  have h1:=passed_len hV m
  have h2:=namesZ_len r.outer (passedL a m).length
  split
  ·exact⟨h1,by simp only;omega⟩
  ·simp
 ·simp
theorem held_markS (l:List Str) (k:Int):heldStringS (markStringS l k).1 k=(markStringS l k).2:=heldL_mark (by simp) l k
abbrev lawPass (_:Sig) (_ _:Big) (_:Match):Bool:=true
abbrev lawPass_pre (sig:Sig) (r a:Big) (m:Match):Prop:=HugeS sig∧HugeB r∧HugeB a∧HugeM m
def lawPass_wp (aSig:List Control) (aRedex:Big) (aAgent:Big) (aM:Match) (Z:Bool→Prop):Prop:=
 (((0:Int)≤1048576∧(1048576:Int)≤1048576)∧HugeS aSig)∧∀ r7:Int,r7=szS szC aSig 1048576→∀ c8:Bool,c8=decide (r7<0)→((c8=true→Z true)∧(c8=false→(((0:Int)≤r7∧(r7:Int)≤1048576)∧HugeB aRedex)∧∀ r11:Int,r11=szB aRedex r7→∀ c12:Bool,c12=decide (r11<0)→((c12=true→Z true)∧(c12=false→(((0:Int)≤r11∧(r11:Int)≤1048576)∧HugeB aAgent)∧∀ r15:Int,r15=szB aAgent r11→∀ c17:Bool,c17=decide (r15<0)→((c17=true→Z true)∧(c17=false→(szM_pre aM r15)∧∀ r20:Int,r20=szM aM r15→∀ c21:Bool,c21=decide (r20<0)→((c21=true→Z true)∧(c21=false→(toControlS_pre aSig)∧∀ r24:List Control,r24=toControlS aSig→(toBigraph_pre aRedex)∧∀ r26:Big,r26=toBigraph aRedex→(toBigraph_pre aAgent)∧∀ r28:Big,r28=toBigraph aAgent→(toMatch_pre aM)∧∀ r30:Match,r30=toMatch aM→(sPassedLinks_pre r24 r26 r28 r30)∧∀ r32:(List Int) × (List Str) × Bool,r32=sPassedLinks r24 r26 r28 r30→(toControlS_pre aSig)∧∀ r35:List Control,r35=toControlS aSig→(toBigraph_pre aRedex)∧∀ r46:Big,r46=toBigraph aRedex→(toBigraph_pre aAgent)∧∀ r77:Big,r77=toBigraph aAgent→(toMatch_pre aM)∧∀ r112:Match,r112=toMatch aM→(PassedLinks_pre r35 r46 r77 r112)∧∀ r141:(List Int) × (List Str) × Bool,r141=PassedLinks r35 r46 r77 r112→joinW (fun (J169:Bool→Prop)=>(r141.1.length≤1048576)∧∀ r404:Bool,r404=decide (r141.1=r32.1)→((r404=true→(r141.2.1.length≤1048576)∧∀ r406:Bool,r406=decide (r141.2.1=r32.2.1)→((r406=true→∀ c407:Bool,c407 = !(r141.2.2 == r32.2.2)→J169 (c407))∧(r406=false→J169 (true))))∧(r404=false→J169 (true)))) (fun b172=>((b172=true→Z false)∧(b172=false→(toControlS_pre aSig)∧∀ r189:List Control,r189=toControlS aSig→(r35.length≤1048576)∧∀ r198:Bool,r198=decide (r35=r189)→((r198=true→(toBigraph_pre aRedex)∧∀ r214:Big,r214=toBigraph aRedex→(EqB r46)∧∀ r216:Bool,r216=decide (r46=r214)→((r216=true→(toBigraph_pre aAgent)∧∀ r218:Big,r218=toBigraph aAgent→(EqB r77)∧∀ r220:Bool,r220=decide (r77=r218)→((r220=true→(toMatch_pre aM)∧∀ r222:Match,r222=toMatch aM→(eqM_pre r112 r222)∧∀ r224:Bool,r224=eqM r112 r222→((r224=true→(markControlS_pre r35 1)∧∀ r240:(List Control) × Int,r240=markControlS r35 1→(markBig_pre r46 r240.2)∧∀ r261:Big × Int,r261=markBig r46 r240.2→(markBig_pre r77 r261.2)∧∀ r283:Big × Int,r283=markBig r77 r261.2→(markMatch_pre r112 r283.2)∧∀ r301:Match × Int,r301=markMatch r112 r283.2→joinW (fun (J314:Bool→Prop)=>∀ c395:Bool,c395=decide (r301.2<0)→((c395=true→J314 (true))∧(c395=false→(r141.1.length≤1048576)∧∀ r398:Bool,r398=decide (r141.1=r32.1)→((r398=true→(r141.2.1.length≤1048576)∧∀ r400:Bool,r400=decide (r141.2.1=r32.2.1)→((r400=true→∀ c401:Bool,c401 = !(r141.2.2 == r32.2.2)→J314 (c401))∧(r400=false→J314 (true))))∧(r398=false→J314 (true)))))) (fun b317=>((b317=true→Z false)∧(b317=false→(markIntS_pre r141.1 1)∧∀ r323:(List Int) × Int,r323=markIntS r141.1 1→(markStringS_pre r141.2.1 r323.2)∧∀ r334:(List Str) × Int,r334=markStringS r141.2.1 r323.2→(heldIntS_pre r323.1 1)∧∀ r345:Int,r345=heldIntS r323.1 1→∀ c346:Bool,c346=decide (r345<0)→((c346=true→Z false)∧(c346=false→(heldStringS_pre r334.1 r345)∧∀ r349:Int,r349=heldStringS r334.1 r345→∀ c350:Bool,c350=decide (r349<0)→((c350=true→Z false)∧(c350=false→∀ c352:Bool,c352=decide (r349 ≠ r334.2)→((c352=true→Z false)∧(c352=false→(toControlS_pre aSig)∧∀ r358:List Control,r358=toControlS aSig→(toBigraph_pre aRedex)∧∀ r360:Big,r360=toBigraph aRedex→(toBigraph_pre aAgent)∧∀ r362:Big,r362=toBigraph aAgent→(toMatch_pre aM)∧∀ r364:Match,r364=toMatch aM→(PassedLinks_pre r358 r360 r362 r364)∧∀ r366:(List Int) × (List Str) × Bool,r366=PassedLinks r358 r360 r362 r364→joinW (fun (J370:Bool→Prop)=>(r366.1.length≤1048576)∧∀ r390:Bool,r390=decide (r366.1=r32.1)→((r390=true→(r366.2.1.length≤1048576)∧∀ r392:Bool,r392=decide (r366.2.1=r32.2.1)→((r392=true→∀ c393:Bool,c393 = !(r366.2.2 == r32.2.2)→J370 (c393))∧(r392=false→J370 (true))))∧(r390=false→J370 (true)))) (fun b373=>((b373=true→Z false)∧(b373=false→(heldIntS_pre r323.1 1)∧∀ r379:Int,r379=heldIntS r323.1 1→∀ c380:Bool,c380=decide (r379<0)→((c380=true→Z false)∧(c380=false→(heldStringS_pre r334.1 r379)∧∀ r383:Int,r383=heldStringS r334.1 r379→∀ c384:Bool,c384=decide (r383<0)→((c384=true→Z false)∧(c384=false→∀ c386:Bool,c386=decide (r383 ≠ r334.2)→((c386=true→Z false)∧(c386=false→Z true)))))))))))))))))))∧(r224=false→Z false)))∧(r220=false→Z false)))∧(r216=false→Z false)))∧(r198=false→Z false)))))))))))))
theorem lawPass_vc (sig:Sig) (r a:Big) (m:Match) (h:lawPass_pre sig r a m):lawPass_wp sig r a m (fun y=>y=lawPass sig r a m):=by
 unfold lawPass_wp
 simp only[forall_eq,decide_eq_true_eq,decide_eq_false_iff_not,toControlS,toBigraph,toMatch,sPassedLinks]
 obtain⟨h1,h2,h3,h4⟩:=h
 refine⟨⟨by omega,h1⟩,fun _=>trivial,fun s1=>?_⟩
 have l1:=szS_le szC sig 1048576 (by omega)
 refine⟨⟨by omega,h2⟩,fun _=>trivial,fun s2=>?_⟩
 have l2:=szB_le r (szS szC sig 1048576) (by omega)
 refine⟨⟨by omega,h3⟩,fun _=>trivial,fun s3=>?_⟩
 have l3:=szB_le a (szB r (szS szC sig 1048576)) (by omega)
 refine⟨⟨by omega,h4⟩,fun _=>trivial,fun s4=>?_⟩
 obtain⟨a1,a2,a3,a4⟩:=argsM s1 s2 s3 s4 h2 h3
 have hL:=pass_len sig r a m
 refine⟨a1,toOf a2,toOf a3,a4,⟨a2,a3,a4⟩,a1,toOf a2,toOf a3,a4,⟨a2,a3,a4⟩,?_⟩
 generalize PassedLinks sig r a m=F at hL
 obtain⟨hL1,hL2⟩:=hL
 refine⟨fun c=>c=false,⟨by omega,fun _=>⟨by omega,fun _=>by simp,fun h=>absurd trivial h⟩,fun h=>absurd trivial h⟩,?_⟩
 rintro _ rfl
 have e1:=held_mark F.1 1
 have e2:=held_markS F.2.1 (markIntS F.1 1).2
 have n1:(markIntS F.1 1).2=1+1 * F.1.length:=rfl
 have n2:(markIntS F.1 1).1.length=F.1.length:=marked_len _ _ _ _
 have n3:(markStringS F.2.1 (markIntS F.1 1).2).2=(markIntS F.1 1).2+1 * F.2.1.length:=rfl
 have n4:(markStringS F.2.1 (markIntS F.1 1).2).1.length=F.2.1.length:=marked_len _ _ _ _
 rw[e1,e2]
 generalize (markStringS F.2.1 (markIntS F.1 1).2).2=z at n3
 have k1:(markControlS sig 1).2=1+3 * sig.length:=rfl
 obtain⟨m1,m2⟩:=markB (eqOf a2) (markControlS sig 1).2 (by omega) (by omega)
 obtain⟨m3,m4⟩:=markB (eqOf a3) (markBig r (markControlS sig 1).2).2 (by omega) (by omega)
 have k2:(markMatch m (markBig a (markBig r (markControlS sig 1).2).2).2).2=(markBig a (markBig r (markControlS sig 1).2).2).2+1 * m.nodes.length+1 * m.roots.length:=rfl
 refine⟨fun h=>(by cases h),fun _=>⟨a1,a1,fun _=>⟨toOf a2,eqOf a2,fun _=>⟨toOf a3,eqOf a3,fun _=>⟨a4,a4,fun _=>⟨⟨by omega,by omega,by omega⟩,m1,m3,⟨a4,by omega,by omega⟩,fun c=>c=false,⟨fun h=>by omega,fun _=>⟨by omega,fun _=>⟨by omega,fun _=>by simp,fun h=>absurd trivial h⟩,fun h=>absurd trivial h⟩⟩,?_⟩,fun h=>by simp[eqM] at h⟩,fun h=>absurd trivial h⟩,fun h=>absurd trivial h⟩,fun h=>absurd trivial h⟩⟩
 rintro _ rfl
 refine⟨fun h=>(by cases h),fun _=>⟨⟨by omega,by omega,by omega⟩,⟨by omega,by omega,by omega⟩,⟨by omega,by omega,by omega⟩,fun h=>by omega,fun _=>⟨⟨by omega,by omega,by omega⟩,fun h=>by omega,fun _=>⟨fun h=>absurd rfl h,fun _=>⟨a1,toOf a2,toOf a3,a4,⟨a2,a3,a4⟩,fun c=>c=false,⟨by omega,fun _=>⟨by omega,fun _=>by simp,fun h=>absurd trivial h⟩,fun h=>absurd trivial h⟩,?_⟩⟩⟩⟩⟩
 rintro _ rfl
 exact⟨fun h=>(by cases h),fun _=>⟨⟨by omega,by omega,by omega⟩,fun h=>by omega,fun _=>⟨⟨by omega,by omega,by omega⟩,fun h=>by omega,fun _=>⟨fun h=>absurd rfl h,fun _=>trivial⟩⟩⟩⟩
end Go.Ab.Vg
