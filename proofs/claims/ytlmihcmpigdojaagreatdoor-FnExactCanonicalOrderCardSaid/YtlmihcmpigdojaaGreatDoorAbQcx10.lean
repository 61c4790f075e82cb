/- Merged texts (10 of 14) of the proof that ends in Cxy: Rp Rb Md Mk Mn Mu Yb Co Mp Em Sg Na Nc Nd Ne Kr. -/
import Derived.Test.YtlmihcmpigdojaaGreatDoorAbQcx9
/- Readers of the laws' arguments: processes. -/
namespace Go.Proofs.YtlmihcmpigdojaaGreatDoor
open Go.ChangeShapes Go.WideShapes Go.ChangeAt Go.RowKit Go.Ab
set_option maxRecDepth 100000
theorem own:ownKnob Tryz.prog.godebug=none:=by kernel_rfl
theorem laidOut:laidOutB Tryz.prog=true:=by kernel_rfl
theorem underBool:Tryz.prog.underlying 4=some .bool:=Tryz.underlying4
end Go.Proofs.YtlmihcmpigdojaaGreatDoor
/- Readers of the laws' arguments: signatures and bigraphs. -/
namespace Go.Proofs.YtlmihcmpigdojaaGreatDoor
open Go.ChangeShapes Go.WideShapes Go.ChangeAt Go.RowKit Go.Ab
set_option maxRecDepth 100000
theorem rControl:Reader Tryz.prog 54 Control.cells (fun x=>x.name.length≤9223372036854775807):=by
 have h:=Reader.struct Tryz.underlying54 (n:=3) (by kernel_rfl) (FReader.cons (n:=1) rfl (by kernel_rfl) (Reader.str Tryz.underlying9) (FReader.cons (n:=1) rfl (by kernel_rfl) (Reader.int Tryz.underlying3) (FReader.cons (n:=1) rfl (by kernel_rfl) (Reader.int Tryz.underlying3) (FReader.nil 3))))
 exact h.map (fun p=>⟨p.1,p.2.1,p.2.2.1⟩) (fun p=>rfl) (fun p hp=>hp.1)
theorem rWire:Reader Tryz.prog 88 Wire.cells (fun x=>x.name.length≤9223372036854775807):=by
 have h:=Reader.struct Tryz.underlying88 (n:=2) (by kernel_rfl) (FReader.cons (n:=1) rfl (by kernel_rfl) (Reader.str Tryz.underlying9) (FReader.cons (n:=1) rfl (by kernel_rfl) (Reader.int Tryz.underlying3) (FReader.nil 2)))
 exact h.map (fun p=>⟨p.1,p.2.1⟩) (fun p=>rfl) (fun p hp=>hp.1)
theorem rInts:Reader Tryz.prog 24 (fun l:List Int=>[Ab.encI false l]) (fun l=>l.length≤9223372036854775807∧∀ p ∈ l,I64 p):=
 Reader.slice Tryz.underlying24 (of_decide_eq_true (by kernel_rfl)) (Reader.int Tryz.underlying3)
theorem rStrs:Reader Tryz.prog 25 (fun l:List Str=>[Ab.encS false l]) (fun l=>l.length≤9223372036854775807∧∀ s ∈ l,s.length≤9223372036854775807):=
 Reader.slice Tryz.underlying25 (of_decide_eq_true (by kernel_rfl)) (Reader.str Tryz.underlying9)
theorem rGNode:Reader Tryz.prog 85 (GNode.cells false) (fun x=>x.links.length≤9223372036854775807∧I64 x.parent):=by
 have h:=Reader.struct Tryz.underlying85 (n:=3) (by kernel_rfl) (FReader.cons (n:=1) rfl (by kernel_rfl) (Reader.int Tryz.underlying3) (FReader.cons (n:=1) rfl (by kernel_rfl) (Reader.int Tryz.underlying3) (FReader.cons (n:=1) rfl (by kernel_rfl) rInts (FReader.nil 3))))
 exact h.map (fun p=>⟨p.1,p.2.1,p.2.2.1⟩) (fun p=>rfl) (fun p hp=>⟨hp.2.2.1.1,hp.2.1⟩)
theorem rNodes:Reader Tryz.prog 23 (fun l:List GNode=>[Ab.encN false l]) (fun l=>l.length≤9223372036854775807∧∀ x ∈ l,x.links.length≤9223372036854775807∧I64 x.parent):=
 Reader.slice Tryz.underlying23 (of_decide_eq_true (by kernel_rfl)) rGNode
theorem rWires:Reader Tryz.prog 26 (fun l:List Wire=>[Ab.encW false l]) (fun l=>l.length≤9223372036854775807∧∀ x ∈ l,x.name.length≤9223372036854775807):=
 Reader.slice Tryz.underlying26 (of_decide_eq_true (by kernel_rfl)) rWire
theorem rSig:ArgR Tryz.prog 22 (encSig false) HugeS:=by
 refine ArgR.cell (cell_slice Tryz.underlying22) ?_
 have h:=Reader.slice Tryz.underlying22 (of_decide_eq_true (by kernel_rfl)) rControl
 exact h.map (fun p=>p) (fun p=>rfl) (fun p hp=>⟨hp.1,hp.2⟩)
theorem rBigF:Reader Tryz.prog 28 (Big.cells false) HugeB:=by
 have h:=Reader.struct Tryz.underlying28 (n:=6) (by kernel_rfl) (FReader.cons (n:=1) rfl (by kernel_rfl) (Reader.int Tryz.underlying3) (FReader.cons (n:=1) rfl (by kernel_rfl) rNodes (FReader.cons (n:=1) rfl (by kernel_rfl) rInts
  (FReader.cons (n:=1) rfl (by kernel_rfl) (Reader.int Tryz.underlying3) (FReader.cons (n:=1) rfl (by kernel_rfl) rStrs (FReader.cons (n:=1) rfl (by kernel_rfl) rWires (FReader.nil 6)))))))
 exact h.map (e':=Big.cells false) (ok':=HugeB) (fun p=>⟨p.1,p.2.1,p.2.2.1,p.2.2.2.1,p.2.2.2.2.1,p.2.2.2.2.2.1⟩) (fun p=>rfl) (fun p hp=>by
  obtain⟨_,h1,h2,_,h3,h4,_⟩:=hp
  exact⟨h1.1,fun x hx=>(h1.2 x hx).1,h2.1,h3.1,h3.2,h4.1,h4.2,fun x hx=>(h1.2 x hx).2,h2.2⟩)
theorem rBig:ArgR Tryz.prog 28 (encB false) HugeB:=ArgR.struct Tryz.underlying28 rBigF
end Go.Proofs.YtlmihcmpigdojaaGreatDoor
/- IsMatch, IsActiveMatch, MatchLinks (statements 12, 14, 16): the laws' own functions on matches, and the laws. -/
namespace Go.Ab.Vg
set_option linter.unusedSimpArgs false
set_option linter.unusedVariables false
abbrev EqB (x:Big):Prop:=x.nodes.length≤1048576∧(∀ z ∈ x.nodes,z.links.length≤1048576)∧x.sites.length≤1048576∧x.outer.length≤1048576∧x.inner.length≤1048576
theorem eqOf {sig:Sig} {b:Big} (h:SmallB sig b):EqB b:=⟨h.nodesLen,h.linksLen,h.sitesLen,h.outerLen,h.innerLen⟩
theorem toOf {sig:Sig} {b:Big} (h:SmallB sig b):toBigraph_pre b:=⟨⟨h.nodesLen,h.linksLen⟩,h.sitesLen,h.outerLen,h.innerLen⟩
theorem sumN_le:∀ {l:List GNode},(∀ x ∈ l,x.links.length≤1048576)→(l.map nodeSize).sum≤1048578 * l.length
 | [],_=>by simp
 | x::l,h=>by
  have h1:=sumN_le (l:=l) fun y hy=>h y (by simp[hy])
  have h2:=h x (by simp)
  simp only[List.map_cons,List.sum_cons,List.length_cons,nodeSize] at h1 ⊢
  omega
theorem markB {b:Big} (h:EqB b) (k:Int) (h0:0≤k) (hk:k≤1125899906842624):markBig_pre b k∧(k≤(markBig b k).2∧(markBig b k).2≤k+2199027449856):=by
 obtain⟨h1,h2,h3,h4,h5⟩:=h
 have hs:=sumN_le h2
 have hb:bigSize b=(b.nodes.map nodeSize).sum+b.sites.length+b.outer.length+2 * b.inner.length:=rfl
 refine⟨⟨h0,h1,h2,h3,h4,h5,by omega⟩,?_⟩
 have p1:=markNodeS_size b.nodes k
 simp only[markBig,markIntS,markStringS,markWireS,markL,p1]
 omega
end Go.Ab.Vg
/- FirstMatch, AllMatches, CountActive (statements 20, 21, 19): the search for matches, as lists. -/
namespace Go.Ab.Vg
set_option linter.unusedSimpArgs false
set_option linter.unusedVariables false
def rootsB (redex agent:Big) (nodes:List Int):List Int:=(List.range redex.roots.toNat).map fun r:Nat=>(at' agent.nodes (at' nodes (at' (kidsB redex (-1 - (r:Int))) 0))).parent
def canB (redex agent:Big) (nodes:List Int) (x:Int):Bool:=
 decide ((at' agent.nodes x).control=(at' redex.nodes (nodes.length:Int)).control) && !hasI nodes x && (decide ((at' redex.nodes (nodes.length:Int)).parent<0) || decide ((at' agent.nodes x).parent=at' nodes (at' redex.nodes (nodes.length:Int)).parent))
noncomputable def allM (redex agent:Big) (rs:List Int→List Int) (can:List Int→Int→Bool):Nat→List Int→List Match
 | 0,nodes=>if matchB redex agent ⟨nodes,rs nodes⟩ then [⟨nodes,rs nodes⟩] else []
 | k+1,nodes=>(List.range agent.nodes.length).flatMap fun x:Nat=>if can nodes (x:Int) then allM redex agent rs can k (nodes++[(x:Int)]) else []
end Go.Ab.Vg
/- The search for matches: impl.matches with a function value, and those that use it; the reference's search. -/
namespace Go.Ab.Vg
set_option linter.unusedSimpArgs false
set_option linter.unusedVariables false
noncomputable abbrev restM (redex agent:Big) (nodes:List Int):List Match:=allM redex agent (rootsB redex agent) (canB redex agent) (redex.nodes.length - nodes.length) nodes
noncomputable abbrev matchesB (redex agent:Big):List Match:=restM redex agent []
end Go.Ab.Vg
/- Rules and guards: what makes them valid, and when a guard holds. -/
namespace Go.Ab.Vg
set_option linter.unusedSimpArgs false
set_option linter.unusedVariables false
def mayB (zone:Int) (agent:Big) (m:Match) (x:Int):Bool:=if zone=2 then !(underB agent m.nodes x) else if zone=3 then underB agent m.nodes x && !(hasI m.nodes x) else true
noncomputable def holdsB (g:Guard) (agent:Big) (m:Match):Bool:=((matchesB g.pattern agent).any fun o=>o.nodes.all (mayB g.zone agent m)) != g.neg
noncomputable abbrev holds (g:Guard) (agent:Big) (m:Match):Bool:=holdsB g agent m
end Go.Ab.Vg
/- Contracts of laws.toAmbNode, laws.toProcess, laws.eqAmbNode and laws.eqProcess. -/
namespace Go.Ab
open Go.Proofs
set_option linter.unusedSimpArgs false
end Go.Ab
/- Congruence of processes (statement 9): pure conditions of the functions that sort texts. -/
namespace Go.Ab.Vg
set_option linter.unusedSimpArgs false
set_option linter.unusedVariables false
end Go.Ab.Vg
/- Marks on processes: what the laws' own functions on processes do. -/
namespace Go.Ab.Vg
set_option linter.unusedSimpArgs false
set_option linter.unusedVariables false
end Go.Ab.Vg
/- Encodings of processes (statement 11). -/
namespace Go.Ab.Vg
set_option linter.unusedSimpArgs false
set_option linter.unusedVariables false
end Go.Ab.Vg
/- The abstract machine, part Sg: the library's sort and Compact of numbers, of a slice of the caller's own. -/
namespace Go.Ab
open Go.Proofs Go.RowKit
set_option linter.unusedSectionVars false
def runeS (n:Int):Str:=(Utf8.encode n).data.toList
section
variable {P:Program} {f:FuncId} {N:Nat} {k:List Item} {Q:AVal→Heap→Nat→Prop} {Ty:Types} {l:List Oper} {ρ:Env} {H:Heap} {n:Nat} {d:Option Tmp} {ty:TypeId} {pos:String} {af:Array Edge} {gu:Option (Nat × Bool)}
end
end Go.Ab
/- PassedLinks (statement 33): pure conditions of the functions of program and reference. -/
namespace Go.Ab.Vg
set_option linter.unusedSimpArgs false
set_option linter.unusedVariables false
def zName (k:Nat):Str:=122::runeS (97+k)
def freeN (outer:List Str) (k:Nat):List Str:=((List.range k).map zName).filter fun s=>decide (s ∉ outer)
end Go.Ab.Vg
/- Parts of agents: pure conditions of the functions of program and reference. -/
namespace Go.Ab.Vg
set_option linter.unusedSimpArgs false
set_option linter.unusedVariables false
section
variable (p:Int→Bool)
end
end Go.Ab.Vg
/- CutUnder (statement 30): both sides. -/
namespace Go.Ab.Vg
set_option linter.unusedSimpArgs false
set_option linter.unusedVariables false
end Go.Ab.Vg
/- CutUnder (statement 30): the law. -/
namespace Go.Ab.Vg
set_option linter.unusedSimpArgs false
set_option linter.unusedVariables false
end Go.Ab.Vg
/- CanonicalOrder (statement 15): both sides and the law. -/
namespace Go.Ab.Vg
set_option linter.unusedSimpArgs false
set_option linter.unusedVariables false
structure CoderV where
 edges:List Int
 places:List Int
instance:Inhabited CoderV:=⟨⟨[],[]⟩⟩
abbrev ordC (b:Big):List Int × CoderV:=((canonA b).order,⟨(canonA b).s.es,(canonA b).s.pl⟩)
abbrev ordC_pre (b:Big):Prop:=∃ sig,ValidB sig b
theorem lastA_ne {b:Big} (he:Even b) (hd:Downs b):lastA b ≠ []:=leastA_ne (by simpa using (layN_lay he hd b.nodes.length (Nat.le_refl _)).2)
theorem canon_is {b:Big} (he:Even b) (hd:Downs b):∃ a ∈ layN b b.nodes.length,canonA b=restC b a:=by
 have hne:=lastA_ne he hd
 obtain⟨f1,_⟩:=firstA_is (lastA b) (at' (lastA b) 0)
 have hm:canonA b ∈ lastA b:=by
  rcases f1 with f1 | f1
  ·rw[canonA,f1]
   exact at_mem ⟨by omega,by have:=List.length_pos_iff.2 hne;omega⟩
  ·exact f1
 obtain⟨a,ha,e⟩:=List.mem_map.1 (leastA_sub hm)
 exact⟨a,ha,e.symm⟩
theorem canon_best {sig:Sig} {b:Big} (hv:ValidB sig b):((canonA b).code,(canonA b).order)=bestC b b.nodes.length (s0C b):=
 (search_same hv.even hv.downs (fun p hp=>(hv.sites p hp).2) (by rw[lastA,layN_eq]) _ (at_mem ⟨by omega,by have:=List.length_pos_iff.2 (lastA_ne hv.even hv.downs);omega⟩)).1
theorem canon_len {sig:Sig} {b:Big} (hv:ValidB sig b):(canonA b).order.length=b.nodes.length:=by
 obtain⟨a,ha,e⟩:=canon_is hv.even hv.downs
 rw[e]
 exact (layN_ok hv _ (Nat.le_refl _) a ha).ord
abbrev l5Order (b:Big):List Int:=(canonA b).order
abbrev l5Order_pre (b:Big):Prop:=∃ sig,ValidB sig b
def l5Order_wp (b:Big) (Z:(List Int)→Prop):Prop:=
 ∀ len4:Int,len4=(b.nodes.length:Int)→(noneZ_pre len4)∧∀ r7:List Int,r7=noneZ len4→(noneZ_pre b.edges)∧∀ r9:List Int,r9=noneZ b.edges→(bestZ_pre b r7 r9 0)∧∀ r11:(List Int) × (List Int),r11=bestZ b r7 r9 0→Z r11.2
theorem best_start {sig:Sig} {b:Big} (hv:ValidB sig b):BestSt b (noneZ b.nodes.length) (noneZ b.edges) 0 (s0C b):=by
 refine⟨by simpa using s0_fit,czOk0 b,⟨hv.edges,by simp[s0C],by simp[s0C]⟩,by simp[s0C,noneZ],?_,by omega⟩
 simp only[s0C,noneZ,numsE,List.not_mem_nil,if_false]
 rw[List.map_const',List.length_range]
theorem l5Order_vc (b:Big) (h:l5Order_pre b):l5Order_wp b (fun y=>y=l5Order b):=by
 unfold l5Order_wp
 obtain⟨sig,hv⟩:=h
 have hn:=hv.len
 have he:=hv.edges
 have e:=bestZ_eq (best_start hv)
 rw[show b.nodes.length - (0:Int).toNat=b.nodes.length by simp,← canon_best hv] at e
 simp only[forall_eq]
 exact⟨⟨by omega,by omega⟩,⟨by omega,by omega⟩,⟨⟨sig,hv⟩,_,best_start hv⟩,by rw[e]⟩
abbrev CanonicalOrder (sig:Sig) (b:Big):List Int × Bool:=if goodB sig b=true then ((canonA b).order,true) else ([],false)
abbrev CanonicalOrder_pre (sig:Sig) (b:Big):Prop:=SmallB sig b
def CanonicalOrder_wp (sig:List Control) (b:Big) (Z:((List Int) × Bool)→Prop):Prop:=
 (SmallB sig b)∧∀ r5:Bool,r5=goodB sig b→((r5=true→(ordC_pre b)∧∀ r9:(List Int) × CoderV,r9=ordC b→(cloneZ_pre r9.1)∧∀ r20:List Int,r20=cloneZ r9.1→Z (r20,true))∧(r5=false→Z ([],false)))
theorem CanonicalOrder_vc (sig:Sig) (b:Big) (h:CanonicalOrder_pre sig b):CanonicalOrder_wp sig b (fun y=>y=CanonicalOrder sig b):=by
 unfold CanonicalOrder_wp
 simp only[forall_eq,decide_eq_true_eq,decide_eq_false_iff_not]
 refine⟨h,fun h1=>⟨⟨sig,goodB_valid h1⟩,?_,by rw[CanonicalOrder,if_pos h1]⟩,fun h1=>by rw[CanonicalOrder,if_neg (by rw[h1];simp)]⟩
 have hv:=goodB_valid h1
 have h2:=canon_len hv
 have h3:=hv.len
 simp only[cloneZ_pre];omega
abbrev sCanonicalOrder (sig:Sig) (b:Big):List Int × Bool:=CanonicalOrder sig b
abbrev sCanonicalOrder_pre (sig:Sig) (b:Big):Prop:=SmallB sig b
def sCanonicalOrder_wp (sig:List Control) (b:Big) (Z:((List Int) × Bool)→Prop):Prop:=
 (SmallB sig b)∧∀ r5:Bool,r5=goodB sig b→((r5=true→(l5Order_pre b)∧∀ r9:List Int,r9=l5Order b→Z (r9,true))∧(r5=false→Z (([]:List Int),false)))
theorem sCanonicalOrder_vc (sig:Sig) (b:Big) (h:sCanonicalOrder_pre sig b):sCanonicalOrder_wp sig b (fun y=>y=sCanonicalOrder sig b):=by
 unfold sCanonicalOrder_wp
 simp only[forall_eq,decide_eq_true_eq,decide_eq_false_iff_not]
 exact⟨h,fun h1=>⟨⟨sig,goodB_valid h1⟩,by rw[sCanonicalOrder,CanonicalOrder,if_pos h1]⟩,fun h1=>by rw[sCanonicalOrder,CanonicalOrder,if_neg (by rw[h1];simp)]⟩
theorem order_len (sig:Sig) (b:Big):(CanonicalOrder sig b).1.length≤1048576:=by
 unfold CanonicalOrder
 split
 ·rename_i h
  have hv:=goodB_valid h
  have:=canon_len hv
  have:=hv.len
  simp only;omega
 ·simp
abbrev lawOrder (_:Sig) (_:Big):Bool:=true
abbrev lawOrder_pre (sig:Sig) (b:Big):Prop:=HugeS sig∧HugeB b
def lawOrder_wp (aSig:List Control) (aB:Big) (Z:Bool→Prop):Prop:=
 (((0:Int)≤1048576∧(1048576:Int)≤1048576)∧HugeS aSig)∧∀ r5:Int,r5=szS szC aSig 1048576→∀ c6:Bool,c6=decide (r5<0)→((c6=true→Z true)∧(c6=false→(((0:Int)≤r5∧(r5:Int)≤1048576)∧HugeB aB)∧∀ r9:Int,r9=szB aB r5→∀ c10:Bool,c10=decide (r9<0)→((c10=true→Z true)∧(c10=false→(toControlS_pre aSig)∧∀ r13:List Control,r13=toControlS aSig→(toBigraph_pre aB)∧∀ r15:Big,r15=toBigraph aB→(sCanonicalOrder_pre r13 r15)∧∀ r17:(List Int) × Bool,r17=sCanonicalOrder r13 r15→(toControlS_pre aSig)∧∀ r20:List Control,r20=toControlS aSig→(toBigraph_pre aB)∧∀ r31:Big,r31=toBigraph aB→(CanonicalOrder_pre r20 r31)∧∀ r62:(List Int) × Bool,r62=CanonicalOrder r20 r31→joinW (fun (J81:Bool→Prop)=>(r62.1.length≤1048576)∧∀ r199:Bool,r199=decide (r62.1=r17.1)→((r199=true→∀ c200:Bool,c200 = !(r62.2 == r17.2)→J81 (c200))∧(r199=false→J81 (true)))) (fun b84=>((b84=true→Z false)∧(b84=false→(toControlS_pre aSig)∧∀ r94:List Control,r94=toControlS aSig→(r20.length≤1048576)∧∀ r103:Bool,r103=decide (r20=r94)→((r103=true→(toBigraph_pre aB)∧∀ r112:Big,r112=toBigraph aB→(EqB r31)∧∀ r114:Bool,r114=decide (r31=r112)→((r114=true→(markControlS_pre r20 1)∧∀ r116:(List Control) × Int,r116=markControlS r20 1→(markBig_pre r31 r116.2)∧∀ r130:Big × Int,r130=markBig r31 r116.2→joinW (fun (J144:Bool→Prop)=>∀ c192:Bool,c192=decide (r130.2<0)→((c192=true→J144 (true))∧(c192=false→(r62.1.length≤1048576)∧∀ r195:Bool,r195=decide (r62.1=r17.1)→((r195=true→∀ c196:Bool,c196 = !(r62.2 == r17.2)→J144 (c196))∧(r195=false→J144 (true)))))) (fun b147=>((b147=true→Z false)∧(b147=false→(markIntS_pre r62.1 1)∧∀ r152:(List Int) × Int,r152=markIntS r62.1 1→(heldIntS_pre r152.1 1)∧∀ r162:Int,r162=heldIntS r152.1 1→∀ c163:Bool,c163=decide (r162<0)→((c163=true→Z false)∧(c163=false→∀ c165:Bool,c165=decide (r162 ≠ r152.2)→((c165=true→Z false)∧(c165=false→(toControlS_pre aSig)∧∀ r168:List Control,r168=toControlS aSig→(toBigraph_pre aB)∧∀ r170:Big,r170=toBigraph aB→(CanonicalOrder_pre r168 r170)∧∀ r172:(List Int) × Bool,r172=CanonicalOrder r168 r170→joinW (fun (J175:Bool→Prop)=>(r172.1.length≤1048576)∧∀ r189:Bool,r189=decide (r172.1=r17.1)→((r189=true→∀ c190:Bool,c190 = !(r172.2 == r17.2)→J175 (c190))∧(r189=false→J175 (true)))) (fun b178=>((b178=true→Z false)∧(b178=false→(heldIntS_pre r152.1 1)∧∀ r183:Int,r183=heldIntS r152.1 1→∀ c184:Bool,c184=decide (r183<0)→((c184=true→Z false)∧(c184=false→∀ c186:Bool,c186=decide (r183 ≠ r152.2)→((c186=true→Z false)∧(c186=false→Z true)))))))))))))))∧(r114=false→Z false)))∧(r103=false→Z false)))))))))
theorem lawOrder_vc (sig:Sig) (b:Big) (h:lawOrder_pre sig b):lawOrder_wp sig b (fun y=>y=lawOrder sig b):=by
 unfold lawOrder_wp
 simp only[forall_eq,decide_eq_true_eq,decide_eq_false_iff_not,toControlS,toBigraph,sCanonicalOrder]
 obtain⟨h1,h2⟩:=h
 refine⟨⟨by omega,h1⟩,fun _=>trivial,fun s1=>?_⟩
 have l1:=szS_le szC sig 1048576 (by omega)
 refine⟨⟨by omega,h2⟩,fun _=>trivial,fun s2=>?_⟩
 have a2:SmallB sig b:=smallB (left:=1048576) (by omega) (by omega) (by omega) (by omega) h2
 have a1:=a2.sigLen
 have hL:=order_len sig b
 refine⟨a1,toOf a2,a2,a1,toOf a2,a2,fun c=>c=false,⟨by omega,fun _=>by simp,fun h=>absurd trivial h⟩,?_⟩
 rintro _ rfl
 have hm:(markIntS (CanonicalOrder sig b).1 1).2=1+1 * (CanonicalOrder sig b).1.length:=rfl
 have hml:(markIntS (CanonicalOrder sig b).1 1).1.length=(CanonicalOrder sig b).1.length:=marked_len _ _ _ _
 have hh:=held_mark (CanonicalOrder sig b).1 1
 have k1:(markControlS sig 1).2=1+3 * sig.length:=rfl
 obtain⟨m1,m2⟩:=markB (eqOf a2) (markControlS sig 1).2 (by omega) (by omega)
 refine⟨fun h=>(by cases h),fun _=>⟨a1,a1,fun _=>⟨toOf a2,eqOf a2,fun _=>⟨⟨by omega,by omega,by omega⟩,m1,fun c=>c=false,⟨fun h=>by omega,fun _=>⟨by omega,fun _=>by simp,fun h=>absurd trivial h⟩⟩,?_⟩,fun h=>absurd trivial h⟩,fun h=>absurd trivial h⟩⟩
 rintro _ rfl
 refine⟨fun h=>(by cases h),fun _=>⟨⟨by omega,by omega,by omega⟩,⟨by omega,by omega,by omega⟩,fun h=>by omega,fun _=>⟨fun h=>absurd hh h,fun _=>⟨a1,toOf a2,a2,fun c=>c=false,⟨by omega,fun _=>by simp,fun h=>absurd trivial h⟩,?_⟩⟩⟩⟩
 rintro _ rfl
 exact⟨fun h=>(by cases h),fun _=>⟨⟨by omega,by omega,by omega⟩,fun h=>by omega,fun _=>⟨fun h=>absurd hh h,fun _=>trivial⟩⟩⟩
end Go.Ab.Vg
