/- Merged texts (10 of 18) of the proof that ends in Cuy: Nd Ne L2kw Maw. -/
import Derived.Test.YtbikfokhjdjfpaaGreatDoorAbQcu9
/- CutUnder (statement 30): both sides. -/
namespace Go.Ab.Vg
set_option linter.unusedSimpArgs false
set_option linter.unusedVariables false
theorem letter_eq':∀ n:Fin 26,(fun i:Nat=>runeS (97+(i:Int))=[UInt8.ofNat (97+i)]) n.val:=by
 simp only
 decide
theorem letter_eq {l:Int} (h:0≤l∧l<26):linkName l=[UInt8.ofNat (97+l.toNat)]:=by
 obtain⟨n,rfl⟩:∃ n:Nat,l=n:=⟨l.toNat,by omega⟩
 exact letter_eq' ⟨n,by omega⟩
theorem letter_lt {i j:Int} (h0:0≤i) (h:i<j) (hj:j<26):linkName i<linkName j:=by
 rw[letter_eq ⟨h0,by omega⟩,letter_eq ⟨by omega,hj⟩]
 refine List.cons_lt_cons_iff.2 (.inl ?_)
 rw[UInt8.lt_iff_toNat_lt,UInt8.toNat_ofNat',UInt8.toNat_ofNat']
 omega
theorem letter_inj {i j:Int} (hi:0≤i∧i<26) (hj:0≤j∧j<26) (h:linkName i=linkName j):i=j:=by
 rcases Int.lt_trichotomy i j with h1 | h1 | h1
 ·exact absurd h (str_ne (letter_lt hi.1 h1 hj.2))
 ·exact h1
 ·exact absurd h.symm (str_ne (letter_lt hj.1 h1 hi.2))
theorem indexS_map {f:Int→Str} {l:List Int} {x:Int} (hf:∀ y ∈ l,f y=f x→y=x):indexS (l.map f) (f x)=indexI l x:=by
 have hi:=indexI_lt l x
 by_cases hx:x ∈ l
 ·have h0:=hi.2.2.2 hx
  obtain⟨k,hk⟩:∃ k:Nat,indexI l x=k:=⟨(indexI l x).toNat,by omega⟩
  have hat:=indexI_at hx
  rw[hk] at hat ⊢
  have hkl:k<l.length:=by omega
  refine indexS_yes (by simpa using hkl) (fun j hj=>?_) ?_
  ·have hj2:j<l.length:=by omega
   rw[at_lt (by simpa using hj2),List.getElem_map]
   intro he
   have h1:=hf _ (List.getElem_mem hj2) he
   have h2:l.idxOf x=k:=by rw[indexI,if_pos hx] at hk;omega
   have h3:=List.not_of_lt_findIdx (p:=(· == x)) (xs:=l) (i:=j) (by show j<l.idxOf x;omega)
   simp[h1] at h3
  ·rw[at_lt (by simpa using hkl),List.getElem_map]
   rw[at_lt hkl] at hat
   rw[hat]
 ·rw[indexS_no fun j hj=>?_,indexI,if_neg hx]
  have hj2:j<l.length:=by simpa using hj
  rw[at_lt hj,List.getElem_map]
  intro he
  exact hx (hf _ (List.getElem_mem hj2) he ▸ List.getElem_mem hj2)
theorem set_range {α:Type} (f:Nat→α) (n k:Nat) (v:α):((List.range n).map f).set k v=(List.range n).map fun i=>if i=k then v else f i:=by
 refine List.ext_getElem (by simp) fun i h1 h2=>?_
 simp only[List.getElem_set,List.getElem_map,List.getElem_range]
 by_cases h:k=i
 ·simp[h]
 ·simp[h,Ne.symm h]
theorem takeB_congr {b:Big} {kind kind':Int→Bool} {links links':Int→Int} {one:Bool} (hd:DownB b) (hk:∀ k:Int,0≤k→k<b.nodes.length→kind k=kind' k) (hl:∀ k:Int,0≤k→k<b.nodes.length→kind' k=true→∀ l ∈ (at' b.nodes k).links,links l=links' l) :
  takeB b kind links one=takeB b kind' links' one:=by
 rw[takeB,takeB,numsP_congr hk]
 refine List.map_congr_left fun k hm=>?_
 obtain⟨⟨h0,h1⟩,h2⟩:=(mem_numsP _).1 hm
 have hp:=hd.2 k h0 h1
 have hc:∀ n:Nat,n≤b.nodes.length→cntP kind n=cntP kind' n:=fun n hn=>by rw[cntP,cntP,numsP_congr fun x hx hx'=>hk x hx (by omega)]
 rw[takeNode,takeNode]
 congr 1
 ·by_cases h3:0≤(at' b.nodes k).parent
  ·rw[hk _ h3 (by omega),hc _ (by omega)]
  ·rw[if_neg (show ¬ (0≤(at' b.nodes k).parent∧kind (at' b.nodes k).parent=true) from fun h=>h3 h.1),if_neg (show ¬ (0≤(at' b.nodes k).parent∧kind' (at' b.nodes k).parent=true) from fun h=>h3 h.1)]
 ·exact List.map_congr_left fun l hm=>hl k h0 h1 h2 l hm
abbrev underK (b:Big) (node:Int) (k:Int):Bool:=decide (node ∈ above b k)
def insideN (b:Big) (node l:Int):Int:=(((portsB b l).filter fun q=>underK b node q.1).length:Int)
def ownK (b:Big) (node l:Int):Bool:=decide (l<b.edges) && (decide (0<insideN b node l) && decide (insideN b node l=(portsB b l).length))
def otherK (b:Big) (node l:Int):Bool:=decide (l<b.edges) && !ownK b node l
def sharedK (b:Big) (node l:Int):Bool:=decide (0<insideN b node l) && !ownK b node l
def nLinks (b:Big):Nat:=(b.edges+b.outer.length).toNat
def leftF (b:Big) (node l:Int):Int:=cntP (otherK b node) l.toNat+if l<b.edges then 0 else l - b.edges
def leftL (b:Big) (node l:Int):Int:=if ownK b node l then -1 else leftF b node l
def right0 (b:Big) (node l:Int):Int:=if ownK b node l then cntP (ownK b node) l.toNat else -1
def rightF (b:Big) (node l:Int):Int:=if ownK b node l then cntP (ownK b node) l.toNat else if sharedK b node l then cntP (ownK b node) (nLinks b)+cntP (sharedK b node) l.toNat else -1
def cutWires (b:Big) (node:Int) (n:Nat):List Wire:=(numsP (sharedK b node) n).map fun l=>⟨linkName l,leftF b node l⟩
def cutOver (b:Big) (node:Int):Big:=⟨b.roots,takeB b (fun k => !underK b node k) (leftL b node) false,[cntP (fun k => !underK b node k) node.toNat],cntP (otherK b node) (nLinks b),b.outer,cutWires b node (nLinks b)⟩
def cutLow (b:Big) (node:Int):Big:=⟨1,takeB b (underK b node) (rightF b node) true,[],cntP (ownK b node) (nLinks b),(numsP (sharedK b node) (nLinks b)).map linkName,[]⟩
theorem ports_in {b:Big} {l:Int} {q:Int × Int} (h:q ∈ portsB b l):0≤q.1∧q.1<b.nodes.length:=by
 obtain⟨j,j1,j2,_⟩:=mem_portsTo.1 h
 exact⟨by omega,by omega⟩
theorem some_true {b:Big} {node l:Int}:l4Some b l (l4Below b node) true=insideN b node l:=by
 rw[l4Some,someL,List.take_length,insideN]
 congr 2
 refine List.filter_congr fun q hq=>?_
 rw[at_below (ports_in hq).1 (ports_in hq).2]
 simp
theorem some_false {b:Big} {node l:Int}:l4Some b l (l4Below b node) false=(portsB b l).length - insideN b node l:=by
 rw[l4Some,someL,List.take_length,insideN]
 have h1:((portsB b l).filter fun p=>at' (l4Below b node) p.1 == false)=(portsB b l).filter fun q => !underK b node q.1:=List.filter_congr fun q hq=>by
  rw[at_below (ports_in hq).1 (ports_in hq).2];simp
 rw[h1]
 have:∀ (p:Int × Int→Bool) (L:List (Int × Int)),(L.filter p).length+(L.filter fun q => !p q).length=L.length:=by
  intro p L
  induction L with
  | nil=>rfl
  | cons x L ih=>cases h:p x<;>simp[h]<;>omega
 have:=this (fun q=>underK b node q.1) (portsB b l)
 omega
theorem insideN_le (b:Big) (node l:Int):0≤insideN b node l∧insideN b node l≤(portsB b l).length:=by
 have:=List.length_filter_le (fun q:Int × Int=>underK b node q.1) (portsB b l)
 rw[insideN]
 omega
theorem nLinks_le {sig:Sig} {b:Big} (hV:ValidB sig b):nLinks b≤24∧((nLinks b:Nat):Int)=b.edges+b.outer.length:=by
 have h1:=hV.edges
 have h2:=hV.outer
 rw[nLinks]
 omega
theorem other_const {b:Big} {node:Int} (h0:0≤b.edges) {n:Nat} (h:b.edges≤n):cntP (otherK b node) n=cntP (otherK b node) b.edges.toNat:=by
 obtain⟨d,rfl⟩:∃ d,n=b.edges.toNat+d:=⟨n - b.edges.toNat,by omega⟩
 induction d with
 | zero=>rfl
 | succ d ih=>
  rw[show b.edges.toNat+(d+1)=b.edges.toNat+d+1 by omega,cntP_no,ih (by omega)]
  simp only[otherK,Bool.and_eq_false_iff,decide_eq_false_iff_not]
  left;omega
abbrev l4Cut_pre (b:Big) (node:Int):Prop:=(∃ sig,ValidB sig b)∧0≤node∧node<b.nodes.length
abbrev l4Cut (b:Big) (node:Int):Big × Big:=(cutOver b node,cutLow b node)
theorem index_letters {b:Big} {node:Int} {n:Nat} (hn:n≤24) {l:Int} (h:0≤l∧l<26):indexS ((numsP (sharedK b node) n).map linkName) (linkName l)=indexI (numsP (sharedK b node) n) l:=
 indexS_map fun y hy he=>letter_inj (by have:=((mem_numsP _).1 hy).1;omega) h he
theorem map_range_succ {α:Type} (f:Nat→α) (k:Nat):(List.range (k+1)).map f=(List.range k).map f++[f k]:=by rw[List.range_succ,List.map_append];rfl
def l4Cut_wp (b:Big) (node:Int) (Z:(Big × Big)→Prop):Prop:=
 (l4Below_pre b node)∧∀ r7:List Bool,r7=l4Below b node→loopW (σ:=Int × Int × Int × (List Int) × (List Int) × (List Str) × (List Wire) × (List Str)) (fun (link73,w74,w75,l76,l77,l78,l79,l80) K94=>∀ len95:Int,len95=(b.outer.length:Int)→(I64 (b.edges+len95))∧∀ v98:Int,v98=b.edges+len95→∀ c100:Bool,c100=decide (link73<v98)→((c100=true→(l4Some_pre b link73 r7 true)∧∀ r103:Int,r103=l4Some b link73 r7 true→joinW (fun (J104:Bool→Prop)=>∀ c491:Bool,c491=decide (link73<b.edges)→((c491=true→∀ c493:Bool,c493=decide (0<r103)→((c493=true→(l4Some_pre b link73 r7 false)∧∀ r496:Int,r496=l4Some b link73 r7 false→∀ c497:Bool,c497=decide (r496=0)→J104 (c497))∧(c493=false→J104 (false))))∧(c491=false→J104 (false)))) (fun b107=>((b107=true→(l77.length+1≤1073741824)∧∀ l134:List Int,l134=l77++[(-1)]→(l76.length+1≤1073741824)∧∀ l136:List Int,l136=l76++[w74]→(I64 (w74+1))∧∀ v178:Int,v178=w74+1→(I64 (link73+1))∧∀ v193:Int,v193=link73+1→K94 (v193,v178,w75,l136,l134,l78,l79,l80))∧(b107=false→∀ c195:Bool,c195=decide (link73<b.edges)→((c195=true→(l77.length+1≤1073741824)∧∀ l198:List Int,l198=l77++[w75]→(I64 (w75+1))∧∀ v218:Int,v218=w75+1→∀ c232:Bool,c232=decide (0<r103)→((c232=true→(l4Letter_pre link73)∧∀ r235:Str,r235=l4Letter link73→(l78.length+1≤1073741824)∧∀ l237:List Str,l237=l78++[r235]→(l4Letter_pre link73)∧∀ r258:Str,r258=l4Letter link73→(0≤link73∧link73<l198.length)∧∀ x264:Int,x264=at' l198 link73→(l79.length+1≤1073741824)∧∀ l268:List Wire,l268=l79++[(Wire.mk r258 x264)]→(l76.length+1≤1073741824)∧∀ l289:List Int,l289=l76++[(-1)]→(I64 (link73+1))∧∀ v309:Int,v309=link73+1→K94 (v309,w74,v218,l289,l198,l237,l268,l80))∧(c232=false→(l76.length+1≤1073741824)∧∀ l312:List Int,l312=l76++[(-1)]→(I64 (link73+1))∧∀ v332:Int,v332=link73+1→K94 (v332,w74,v218,l312,l198,l78,l79,l80))))∧(c195=false→(I64 (link73 - b.edges))∧∀ v335:Int,v335=link73 - b.edges→(0≤v335∧v335<b.outer.length)∧∀ x338:Str,x338=at' b.outer v335→(l80.length+1≤1073741824)∧∀ l341:List Str,l341=l80++[x338]→∀ len361:Int,len361=(l341.length:Int)→(I64 (w75+len361))∧∀ v364:Int,v364=w75+len361→(I64 (v364 - 1))∧∀ v367:Int,v367=v364 - 1→(l77.length+1≤1073741824)∧∀ l370:List Int,l370=l77++[v367]→∀ c389:Bool,c389=decide (0<r103)→((c389=true→(l4Letter_pre link73)∧∀ r392:Str,r392=l4Letter link73→(l78.length+1≤1073741824)∧∀ l394:List Str,l394=l78++[r392]→(l4Letter_pre link73)∧∀ r415:Str,r415=l4Letter link73→(0≤link73∧link73<l370.length)∧∀ x421:Int,x421=at' l370 link73→(l79.length+1≤1073741824)∧∀ l425:List Wire,l425=l79++[(Wire.mk r415 x421)]→(l76.length+1≤1073741824)∧∀ l446:List Int,l446=l76++[(-1)]→(I64 (link73+1))∧∀ v466:Int,v466=link73+1→K94 (v466,w74,w75,l446,l370,l394,l425,l341))∧(c389=false→(l76.length+1≤1073741824)∧∀ l469:List Int,l469=l76++[(-1)]→(I64 (link73+1))∧∀ v489:Int,v489=link73+1→K94 (v489,w74,w75,l469,l370,l78,l79,l341)))))))))∧(c100=false→loopW (σ:=Int × (List Int)) (fun (link526,l527) K541=>∀ len542:Int,len542=(l527.length:Int)→∀ c544:Bool,c544=decide (link526<len542)→((c544=true→(l4Letter_pre link526)∧∀ r547:Str,r547=l4Letter link526→(l2At_pre l78 r547)∧∀ r549:Int,r549=l2At l78 r547→∀ c550:Bool,c550=decide (0≤r549)→((c550=true→(I64 (w74+r549))∧∀ v553:Int,v553=w74+r549→(0≤link526∧link526<l527.length)∧∀ x560:Int,x560=at' l527 link526→∀ l563:List Int,l563=l527.set link526.toNat v553→(I64 (link526+1))∧∀ v580:Int,v580=link526+1→K541 (v580,l563))∧(c550=false→(I64 (link526+1))∧∀ v583:Int,v583=link526+1→K541 (v583,l527))))∧(c544=false→(l4Take_pre b r7 false l77 false)∧∀ r598:List GNode,r598=l4Take b r7 false l77 false→(l4Take_pre b r7 true l527 true)∧∀ r619:List GNode,r619=l4Take b r7 true l527 true→loopW (σ:=Int × Int) (fun (placeV650,i651) K663=>∀ c664:Bool,c664=decide (i651<node)→((c664=true→(0≤i651∧i651<r7.length)∧∀ x671:Bool,x671=at' r7 i651→((x671=true→(I64 (i651+1))∧∀ v681:Int,v681=i651+1→K663 (placeV650,v681))∧(x671=false→(I64 (placeV650+1))∧∀ v675:Int,v675=placeV650+1→(I64 (i651+1))∧∀ v678:Int,v678=i651+1→K663 (v675,v678))))∧(c664=false→∀ l683:List Int,l683=[placeV650]→Z ((Big.mk b.roots r598 l683 w75 l80 l79),(Big.mk 1 r619 ([]:List Int) w74 l78 ([]:List Wire)))))) (0,0)))) (0,l76)))) (0,0,0,([]:List Int),([]:List Int),([]:List Str),([]:List Wire),([]:List Str))
theorem l4Cut_vc (b:Big) (node:Int) (h:l4Cut_pre b node):l4Cut_wp b node (fun y=>y=l4Cut b node):=by
 unfold l4Cut_wp
 obtain⟨⟨sig,hV⟩,hn0,hn⟩:=h
 have h8:=hV.len
 obtain⟨hN,hN2⟩:=nLinks_le hV
 have hE:=hV.edges
 have hO:=hV.outer
 simp only[forall_eq,decide_eq_true_eq,decide_eq_false_iff_not]
 refine⟨hV.down,?_⟩
 refine loopW.up (nLinks b) (fun s=>s.1) (fun k (t:Int × Int × List Int × List Int × List Str × List Wire × List Str)=>((k:Int),t)) (fun _ _=>rfl) (fun k t=>t=(cntP (ownK b node) k,cntP (otherK b node) k,(List.range k).map (fun i:Nat=>right0 b node i),(List.range k).map (fun i:Nat=>leftL b node i),(numsP (sharedK b node) k).map linkName,cutWires b node k,b.outer.take (k - b.edges.toNat))) (0,0,[],[],[],[],[]) rfl (by simp[cntP,numsP,cutWires]) ?_
 rintro k _ K hk rfl IH
 dsimp only
 have c1:=cntP_le (ownK b node) k
 have c2:=cntP_le (otherK b node) k
 have c3:=numsP_len (sharedK b node) k
 have hin:=insideN_le b node k
 rw[some_true,some_false]
 refine⟨by simp only[I64];omega,fun hc=>⟨⟨hV.linkSz,by simp[l4Below]⟩,fun c=>c=ownK b node k,⟨fun h1=>⟨fun h2=>⟨⟨hV.linkSz,by simp[l4Below]⟩,?_⟩,fun h2=>?_⟩,fun h1=>?_⟩,?_⟩,fun hc=>?_⟩
 ·show (decide _:Bool)=ownK b node k
  rw[ownK,decide_eq_true h1,decide_eq_true h2,Bool.true_and,Bool.true_and,decide_eq_decide];omega
 ·rw[ownK,decide_eq_false h2,Bool.false_and,Bool.and_false]
 ·rw[ownK,decide_eq_false h1,Bool.false_and]
 ·rintro _ rfl
  have hk2:k<nLinks b:=by omega
  have hcast:(k:Int)+1=((k+1:Nat):Int):=by omega
  have wl:(cutWires b node k).length=(numsP (sharedK b node) k).length:=by simp[cutWires]
  have ll:((numsP (sharedK b node) k).map linkName).length=(numsP (sharedK b node) k).length:=by simp
  have r1:((List.range k).map (fun i:Nat=>right0 b node i)).length=k:=by simp
  have r2:((List.range k).map (fun i:Nat=>leftL b node i)).length=k:=by simp
  have tl:(b.outer.take (k - b.edges.toNat)).length≤16:=by simp;omega
  refine⟨fun h1=>?_,fun h1=>⟨fun h2=>?_,fun h2=>?_⟩⟩
  ·have hke:(k:Int)<b.edges:=by simp only[ownK,Bool.and_eq_true,decide_eq_true_eq] at h1;exact h1.1
   have o1:otherK b node k=false:=by rw[otherK,h1];simp
   have s1:sharedK b node k=false:=by rw[sharedK,h1];simp
   refine⟨by omega,by omega,by simp only[I64];omega,by simp only[I64];omega,?_⟩
   rw[hcast]
   refine IH hk2 _ ?_
   rw[map_range_succ,map_range_succ,cntP_yes _ h1,cntP_no _ o1,cutWires,cutWires,numsP_no _ s1,right0,leftL,if_pos h1,if_pos h1,show k+1 - b.edges.toNat=0 by omega,show k - b.edges.toNat=0 by omega,Int.toNat_natCast]
  ·have o1:otherK b node k=true:=by rw[otherK,h1];simpa using h2
   have e1:leftL b node k=cntP (otherK b node) k:=by rw[leftL,if_neg (by rw[h1];simp),leftF,if_pos h2,Int.toNat_natCast];omega
   have e2:right0 b node k = -1:=by rw[right0,if_neg (by rw[h1];simp)]
   have elast:at' ((List.range k).map (fun i:Nat=>leftL b node i)++[cntP (otherK b node) k]) (k:Int)=leftF b node k:=by
    rw[at_lt (by simp),List.getElem_append_right (by simp)]
    simp only[leftF,if_pos h2,Int.toNat_natCast,Int.add_zero]
    simp
   refine⟨by omega,by simp only[I64];omega,fun h3=>?_,fun h3=>?_⟩
   ·have s1:sharedK b node k=true:=by rw[sharedK,h1];simpa using h3
    refine⟨⟨by omega,by omega⟩,by omega,⟨by omega,by omega⟩,⟨by omega,by simp;omega⟩,by omega,by omega,by simp only[I64];omega,?_⟩
    rw[elast,hcast]
    refine IH hk2 _ ?_
    rw[map_range_succ,map_range_succ,cntP_no _ h1,cntP_yes _ o1,cutWires,cutWires,numsP_yes _ s1,e1,e2,List.map_append,List.map_append,show k+1 - b.edges.toNat=0 by omega,show k - b.edges.toNat=0 by omega]
    rfl
   ·have s1:sharedK b node k=false:=by rw[sharedK,decide_eq_false h3];simp
    refine⟨by omega,by simp only[I64];omega,?_⟩
    rw[hcast]
    refine IH hk2 _ ?_
    rw[map_range_succ,map_range_succ,cntP_no _ h1,cntP_yes _ o1,cutWires,cutWires,numsP_no _ s1,e1,e2,show k+1 - b.edges.toNat=0 by omega,show k - b.edges.toNat=0 by omega]
  ·have o1:otherK b node k=false:=by rw[otherK,decide_eq_false h2,Bool.false_and]
   have hq:∃ q:Nat,(k:Int) - b.edges=q∧q<b.outer.length∧k - b.edges.toNat=q∧k+1 - b.edges.toNat=q+1:=⟨k - b.edges.toNat,by omega,by omega,by omega,by omega⟩
   obtain⟨q,q1,q2,q3,q4⟩:=hq
   have e1:leftL b node k=cntP (otherK b node) k+q:=by rw[leftL,if_neg (by rw[h1];simp),leftF,if_neg h2,Int.toNat_natCast,q1]
   have e1':leftF b node k=cntP (otherK b node) k+q:=by rw[leftF,if_neg h2,Int.toNat_natCast,q1]
   have e2:right0 b node k = -1:=by rw[right0,if_neg (by rw[h1];simp)]
   have e3:b.outer.take q++[at' b.outer (q:Int)]=b.outer.take (q+1):=(take_succ_at q2).symm
   have e4:((b.outer.take (q+1)).length:Int)=q+1:=by simp;omega
   have elast:at' ((List.range k).map (fun i:Nat=>leftL b node i)++[cntP (otherK b node) k+(q:Int)]) (k:Int)=leftF b node k:=by
    rw[at_lt (by simp),List.getElem_append_right (by simp),e1']
    simp
   rw[q1,q3,e3,e4,show cntP (otherK b node) k+((q:Int)+1) - 1=cntP (otherK b node) k+q by omega]
   refine⟨by simp only[I64];omega,⟨by omega,by omega⟩,by simp;omega,by simp only[I64];omega,by simp only[I64];omega,by omega,fun h3=>?_,fun h3=>?_⟩
   ·have s1:sharedK b node k=true:=by rw[sharedK,h1];simpa using h3
    refine⟨⟨by omega,by omega⟩,by omega,⟨by omega,by omega⟩,⟨by omega,by simp;omega⟩,by omega,by omega,by simp only[I64];omega,?_⟩
    rw[elast,hcast]
    refine IH hk2 _ ?_
    rw[map_range_succ,map_range_succ,cntP_no _ h1,cntP_no _ o1,cutWires,cutWires,numsP_yes _ s1,e1,e2,List.map_append,List.map_append,q4]
    rfl
   ·have s1:sharedK b node k=false:=by rw[sharedK,decide_eq_false h3];simp
    refine⟨by omega,by simp only[I64];omega,?_⟩
    rw[hcast]
    refine IH hk2 _ ?_
    rw[map_range_succ,map_range_succ,cntP_no _ h1,cntP_no _ o1,cutWires,cutWires,numsP_no _ s1,e1,e2,q4]
 ·obtain rfl:k=nLinks b:=by omega
  rw[show b.outer.take (nLinks b - b.edges.toNat)=b.outer from List.take_of_length_le (by omega)]
  refine loopW.upL (nLinks b) (fun k t=>t=(List.range (nLinks b)).map (fun i:Nat=>if i<k then rightF b node i else right0 b node i)) _ (by simp) ?_
  rintro k _ K2 hk' rfl IH2
  dsimp only
  have r3:((List.range (nLinks b)).map (fun i:Nat=>if i<k then rightF b node i else right0 b node i)).length=nLinks b:=by simp
  rw[r3]
  refine⟨fun h1=>?_,fun h1=>?_⟩
  ·have hk2:k<nLinks b:=by omega
   have hix:=index_letters (b:=b) (node:=node) hN (l:=k) ⟨by omega,by omega⟩
   have hil:=indexI_lt (numsP (sharedK b node) (nLinks b)) (k:Int)
   have step:∀ v:Int,v=rightF b node k→((List.range (nLinks b)).map (fun i:Nat=>if i<k then rightF b node i else right0 b node i)).set (k:Int).toNat v=(List.range (nLinks b)).map (fun i:Nat=>if i<k+1 then rightF b node i else right0 b node i):=by
    rintro _ rfl
    rw[Int.toNat_natCast,set_range]
    refine List.map_congr_left fun i _=>?_
    by_cases h2:i=k
    ·subst h2;simp
    ·by_cases h3:i<k
     ·rw[if_neg h2,if_pos h3,if_pos (by omega)]
     ·rw[if_neg h2,if_neg h3,if_neg (by omega)]
   rw[l2At,hix]
   refine⟨⟨by omega,by omega⟩,by simp only[l2At_pre,List.length_map];omega,fun h2=>⟨by simp only[I64];omega,⟨by omega,by omega⟩,by simp only[I64];omega,IH2 hk2 _ ?_⟩,fun h2=>⟨by simp only[I64];omega,IH2 hk2 _ ?_⟩⟩
   ·have hm:=hil.2.2.1 h2
    have hs:=((mem_numsP _).1 hm).2
    refine step _ ?_
    rw[index_nums _ hm,rightF,if_neg,if_pos hs]
    simp only[sharedK,Bool.and_eq_true] at hs
    intro h3;rw[h3] at hs;simp at hs
   ·refine List.map_congr_left fun i _=>?_
    by_cases h3:i<k
    ·rw[if_pos h3,if_pos (by omega)]
    ·rw[if_neg h3]
     split
     ·have:i=k:=by omega
      subst this
      have hs:sharedK b node (i:Int)=false:=by
       cases hq:sharedK b node (i:Int) with
       | false=>rfl
       | true=>exact absurd (hil.2.2.2 ((mem_numsP _).2 ⟨⟨by omega,by omega⟩,hq⟩)) h2
      rw[rightF,right0,hs]
      simp
     ·rfl
  ·obtain rfl:k=nLinks b:=by omega
   have er:(List.range (nLinks b)).map (fun i:Nat=>if i<nLinks b then rightF b node i else right0 b node i)=(List.range (nLinks b)).map (fun i:Nat=>rightF b node i):=List.map_congr_left fun i hi=>if_pos (List.mem_range.1 hi)
   rw[er]
   have hrng:∀ f:Int→Int,∀ l:Int,0≤l→l<nLinks b→at' ((List.range (nLinks b)).map (fun i:Nat=>f i)) l=f l:=fun f l h0 h1=>by
    obtain⟨n,rfl⟩:∃ n:Nat,l=n:=⟨l.toNat,by omega⟩
    rw[at_lt (by simp;omega)];simp
   have hlk:∀ k:Int,0≤k→k<b.nodes.length→∀ l ∈ (at' b.nodes k).links,0≤l∧l<nLinks b:=fun k h0 h1 l hl=>by have:=hV.linksAt ⟨h0,h1⟩ l hl;omega
   have t1:l4Take b (l4Below b node) false ((List.range (nLinks b)).map (fun i:Nat=>leftL b node i)) false=takeB b (fun k => !underK b node k) (leftL b node) false:=takeB_congr hV.downB (fun k h0 h1=>by rw[at_below h0 h1];simp) fun k h0 h1 _ l hl=>hrng (leftL b node) l (hlk k h0 h1 l hl).1 (hlk k h0 h1 l hl).2
   have t2:l4Take b (l4Below b node) true ((List.range (nLinks b)).map (fun i:Nat=>rightF b node i)) true=takeB b (underK b node) (rightF b node) true:=takeB_congr hV.downB (fun k h0 h1=>by rw[at_below h0 h1];simp) fun k h0 h1 _ l hl=>hrng (rightF b node) l (hlk k h0 h1 l hl).1 (hlk k h0 h1 l hl).2
   rw[t1,t2]
   refine⟨⟨hV.downB,by simp[l4Below],fun k h0 h1=>by have:=hV.portsLe ⟨h0,h1⟩;omega,fun k h0 h1 _ l hl=>by simpa using hlk k h0 h1 l hl⟩,⟨hV.downB,by simp[l4Below],fun k h0 h1=>by have:=hV.portsLe ⟨h0,h1⟩;omega,fun k h0 h1 _ l hl=>by simpa using hlk k h0 h1 l hl⟩,?_⟩
   refine loopW.upR node.toNat (fun k c=>c=cntP (fun k => !underK b node k) k) 0 rfl ?_
   rintro k _ K3 hk3 rfl IH3
   dsimp only
   have c5:=cntP_le (fun k => !underK b node k) k
   refine⟨fun h1=>⟨⟨by omega,by simp[l4Below];omega⟩,?_⟩,fun h1=>?_⟩
   ·rw[at_below (by omega) (by omega)]
    refine⟨fun h2=>⟨by simp only[I64];omega,IH3 (by omega) _ ?_⟩,fun h2=>⟨by simp only[I64];omega,by simp only[I64];omega,IH3 (by omega) _ ?_⟩⟩
    ·rw[cntP_no];simpa[underK] using h2
    ·rw[cntP_yes];simpa[underK] using h2
   ·rw[show k=node.toNat by omega]
    rfl
theorem port_of {b:Big} {k l:Int} (h0:0≤k) (h1:k<b.nodes.length) (hl:l ∈ (at' b.nodes k).links):∃ q:Int,(k,q) ∈ portsB b l:=by
 obtain⟨n,rfl⟩:∃ n:Nat,k=n:=⟨k.toNat,by omega⟩
 obtain⟨q,hq,he⟩:=List.getElem_of_mem hl
 exact⟨(q:Int),mem_portsTo.2 ⟨n,by omega,rfl,by simp,by simpa using hq,by simp only;rw[at_lt hq,he]⟩⟩
theorem inside_pos {b:Big} {node k l:Int} (h0:0≤k) (h1:k<b.nodes.length) (hl:l ∈ (at' b.nodes k).links) (hu:underK b node k=true):0<insideN b node l:=by
 obtain⟨q,hq⟩:=port_of h0 h1 hl
 have:=List.length_pos_of_mem (List.mem_filter.2 ⟨hq,hu⟩:(k,q) ∈ (portsB b l).filter fun q=>underK b node q.1)
 rw[insideN];omega
theorem inside_lt {b:Big} {node k l:Int} (h0:0≤k) (h1:k<b.nodes.length) (hl:l ∈ (at' b.nodes k).links) (hu:underK b node k=false):ownK b node l=false:=by
 obtain⟨q,hq⟩:=port_of h0 h1 hl
 have:((portsB b l).filter fun q=>underK b node q.1).length<(portsB b l).length:=List.length_filter_lt_length_iff_exists.2 ⟨_,hq,by rw[hu];simp⟩
 rw[ownK,insideN,Bool.and_eq_false_iff,Bool.and_eq_false_iff,decide_eq_false_iff_not,decide_eq_false_iff_not,decide_eq_false_iff_not]
 right;right;omega
theorem letters_lt {p:Int→Bool} {n:Nat} (hn:n≤26):((numsP p n).map linkName).Pairwise (·<·):=by
 rw[List.pairwise_map]
 refine (numsP_lt p n).imp_of_mem fun {x y} hx hy h=>?_
 have h1:=((mem_numsP _).1 hx).1
 have h2:=((mem_numsP _).1 hy).1
 exact letter_lt h1.1 h (by omega)
theorem part_low {sig:Sig} {b:Big} (hV:ValidB sig b) {node:Int} (hn:node<b.nodes.length) :
  (numsP (underK b node) b.nodes.length).map (partNode b (numsP (ownK b node) (nLinks b)) (sortedNames ((numsP (sharedK b node) (nLinks b)).map linkName)) (fun z=>cutP1 z node (numsP (underK b node) b.nodes.length)) (fun z=>linkName z))=takeB b (underK b node) (rightF b node) true:=by
 obtain⟨hN,hN2⟩:=nLinks_le hV
 rw[takeB,sortedNames_of (letters_lt (by omega))]
 refine List.map_congr_left fun k hk=>?_
 obtain⟨⟨h0,h1⟩,hu⟩:=(mem_numsP _).1 hk
 obtain⟨ha,hp⟩:=above_step hV.down h0 h1
 rw[partNode,takeNode]
 congr 1
 ·by_cases he:(at' b.nodes k).parent=node
  ·rw[cutP1,if_pos he,if_neg,if_pos rfl]
   rintro⟨h3,h4⟩
   rw[he,underK,decide_eq_true_eq] at h4
   have:=above_lt hV.down _ node (Nat.le_refl _) hn _ h4
   omega
  ·have h3:node ∈ above b (at' b.nodes k).parent:=by
    have h4:=hu
    rw[underK,decide_eq_true_eq,ha] at h4
    rcases List.mem_cons.1 h4 with h4 | h4
    ·exact absurd h4.symm he
    ·exact h4
   have h5:0≤(at' b.nodes k).parent:=by
    rcases Int.lt_or_le (at' b.nodes k).parent 0 with h6 | h6
    ·rw[above_neg h6] at h3;cases h3
    ·exact h6
   have h6:underK b node (at' b.nodes k).parent=true:=by rw[underK,decide_eq_true_eq];exact h3
   rw[cutP1,if_neg he,if_pos ⟨h5,h6⟩,index_nums _ ((mem_numsP _).2 ⟨⟨h5,by omega⟩,h6⟩)]
 ·refine List.map_congr_left fun l hl=>?_
  have hlr:=hV.linksAt ⟨h0,h1⟩ l hl
  have hpos:=inside_pos h0 h1 hl hu
  rw[rightF]
  cases ho:ownK b node l with
  | true=>
   have hm:l ∈ numsP (ownK b node) (nLinks b):=(mem_numsP _).2 ⟨⟨hlr.1,by omega⟩,ho⟩
   have:=cntP_le (ownK b node) l.toNat
   rw[index_nums _ hm,if_pos (by omega)];simp
  | false=>
   have hm:l ∉ numsP (ownK b node) (nLinks b):=fun h=>by have:=((mem_numsP _).1 h).2;rw[ho] at this;cases this
   have hs:sharedK b node l=true:=by rw[sharedK,ho];simpa using hpos
   rw[index_nums_not _ hm,if_neg (by omega),index_letters hN ⟨hlr.1,by omega⟩,index_nums _ ((mem_numsP _).2 ⟨⟨hlr.1,by omega⟩,hs⟩),hs]
   simp[cntP]
theorem index_outer {l:List Str} (h:l.Pairwise (·<·)) {q:Nat} (hq:q<l.length):indexS l (at' l (q:Int))=q:=by
 refine indexS_yes hq (fun j hj=>?_) rfl
 rw[at_lt hq,at_lt (by omega)]
 exact str_ne (List.pairwise_iff_getElem.1 h j q (by omega) hq hj)
theorem part_over {sig:Sig} {b:Big} (hV:ValidB sig b) (hG:b.outer.Pairwise (·<·)) (node:Int) :
  (numsP (fun k => !underK b node k) b.nodes.length).map (partNode b (numsP (otherK b node) (nLinks b)) (sortedNames b.outer) (fun z=>cutP2 z (numsP (fun k => !underK b node k) b.nodes.length)) (fun z=>cutP3 z b))=takeB b (fun k => !underK b node k) (leftL b node) false:=by
 obtain⟨hN,hN2⟩:=nLinks_le hV
 have hE:=hV.edges
 rw[takeB,sortedNames_of hG]
 refine List.map_congr_left fun k hk=>?_
 obtain⟨⟨h0,h1⟩,hu⟩:=(mem_numsP _).1 hk
 have hu':underK b node k=false:=by simpa using hu
 obtain⟨ha,hp⟩:=above_step hV.down h0 h1
 rw[partNode,takeNode]
 congr 1
 ·by_cases h3:(at' b.nodes k).parent<0
  ·rw[cutP2,if_pos h3,if_neg (fun h=>by omega)];simp
  ·have h6:(fun k => !underK b node k) (at' b.nodes k).parent=true:=by
    have h4:node ∉ above b k:=by rw[underK,decide_eq_false_iff_not] at hu';exact hu'
    rw[ha,List.mem_cons,not_or] at h4
    simp only[underK,Bool.not_eq_true',decide_eq_false_iff_not]
    exact h4.2
   rw[cutP2,if_neg h3,if_pos ⟨by omega,h6⟩,index_nums _ ((mem_numsP _).2 ⟨⟨by omega,by omega⟩,h6⟩)]
 ·refine List.map_congr_left fun l hl=>?_
  have hlr:=hV.linksAt ⟨h0,h1⟩ l hl
  have ho:=inside_lt h0 h1 hl hu'
  rw[leftL,ho,leftF]
  by_cases hle:l<b.edges
  ·have hs:otherK b node l=true:=by rw[otherK,ho];simpa using hle
   have:=cntP_le (otherK b node) l.toNat
   rw[index_nums _ ((mem_numsP _).2 ⟨⟨hlr.1,by omega⟩,hs⟩),if_pos (by omega),if_pos hle];simp
  ·have hm:l ∉ numsP (otherK b node) (nLinks b):=fun h=>by
    have:=((mem_numsP _).1 h).2
    rw[otherK,decide_eq_false hle,Bool.false_and] at this;cases this
   obtain⟨q,hq⟩:∃ q:Nat,l - b.edges=q:=⟨(l - b.edges).toNat,by omega⟩
   rw[index_nums_not _ hm,if_neg (by omega),cutP3,hq,index_outer hG (by omega),if_neg hle]
   have e1:=other_const (b:=b) (node:=node) hE.1 (n:=nLinks b) (by omega)
   have e2:=other_const (b:=b) (node:=node) hE.1 (n:=l.toNat) (by omega)
   rw[e2,← e1]
   simp[cntP]
abbrev z0B:Big:=⟨0,[],[],0,[],[]⟩
def mayCut (sig:Sig) (b:Big) (node:Int):Bool:=agentB sig b && (isNodeB b node && !decide ((at' sig (at' b.nodes node).control).kind=2))
def cutRes (sig:Sig) (b:Big) (node:Int):Big × Big × Bool:=if mayCut sig b node then (if goodB sig (cutOver b node) && goodB sig (cutLow b node) then (cutOver b node,cutLow b node,true) else (z0B,z0B,false)) else (z0B,z0B,false)
theorem takeB_mem {b:Big} {kind:Int→Bool} {links:Int→Int} {one:Bool} {x:GNode} (h:x ∈ takeB b kind links one):∃ k:Int,(0≤k∧k<b.nodes.length)∧x=takeNode kind links one b k:=by
 obtain⟨k,hk,rfl⟩:=List.mem_map.1 h
 exact⟨k,((mem_numsP _).1 hk).1,rfl⟩
theorem takeB_len (b:Big) (kind:Int→Bool) (links:Int→Int) (one:Bool):(takeB b kind links one).length≤b.nodes.length:=by
 rw[takeB,List.length_map];exact numsP_len _ _
theorem take_small {sig:Sig} {b:Big} (hV:ValidB sig b) {kind:Int→Bool} {links:Int→Int} {one:Bool} {x:GNode} (h:x ∈ takeB b kind links one):x.links.length≤1048576∧I64 x.parent:=by
 obtain⟨k,hk,rfl⟩:=takeB_mem h
 have h1:=hV.portsLe hk
 have h2:=hV.parAt hk
 have h3:=hV.roots
 have h4:=hV.len
 have h5:=cntP_le kind (at' b.nodes k).parent.toNat
 refine⟨by simp[takeNode];omega,?_⟩
 simp only[takeNode,I64]
 split
 ·omega
 ·split<;>omega
theorem letter_len {l:Int} (h:0≤l∧l<26):(linkName l).length=1:=by rw[letter_eq h];rfl
theorem cut_small {sig:Sig} {b:Big} (hS:SmallB sig b) (hV:ValidB sig b) {node:Int} (hn:node<b.nodes.length):SmallB sig (cutOver b node)∧SmallB sig (cutLow b node):=by
 obtain⟨hN,hN2⟩:=nLinks_le hV
 have h8:=hV.len
 have t1:=takeB_len b (fun k => !underK b node k) (leftL b node) false
 have t2:=takeB_len b (underK b node) (rightF b node) true
 have s1:=numsP_len (sharedK b node) (nLinks b)
 have c1:=cntP_le (fun k => !underK b node k) node.toNat
 have n8:cntP (fun k => !underK b node k) node.toNat≤node.toNat:=c1.2
 refine⟨⟨hS.sigLen,hS.sigNames,by simp only[cutOver];omega,by simp[cutOver],hS.outerLen,by simp[cutOver,cutWires];omega,hS.outerNames,fun w hw=>?_,fun x hx=>(take_small hV hx).1,fun x hx=>(take_small hV hx).2,fun p hp=>?_⟩,
  ⟨hS.sigLen,hS.sigNames,by simp only[cutLow];omega,by simp[cutLow],by simp[cutLow];omega,by simp[cutLow],fun s hs=>?_,by simp[cutLow],fun x hx=>(take_small hV hx).1,fun x hx=>(take_small hV hx).2,by simp[cutLow]⟩⟩
 ·simp only[cutOver,cutWires,List.mem_map] at hw
  obtain⟨l,hl,rfl⟩:=hw
  have:=((mem_numsP _).1 hl).1
  simp only[letter_len (l:=l) ⟨this.1,by omega⟩];omega
 ·simp only[cutOver,List.mem_singleton] at hp
  subst hp
  simp only[I64];omega
 ·simp only[cutLow,List.mem_map] at hs
  obtain⟨l,hl,rfl⟩:=hs
  have:=((mem_numsP _).1 hl).1
  rw[letter_len (l:=l) ⟨this.1,by omega⟩];omega
theorem validB_2 (sig:Sig) (b:Big):(validB sig b).2=goodB sig b:=by
 rw[validB];split<;>simp_all
theorem validB_1 {sig:Sig} {b:Big} (h:goodB sig b=true):(validB sig b).1=b:=by rw[validB,if_pos h]
theorem mayCut_iff {sig:Sig} {b:Big} {node:Int} (h:mayCut sig b node=true):goodB sig b=true∧0≤node∧node<b.nodes.length:=by
 simp only[mayCut,agentB,isNodeB,within,Bool.and_eq_true,decide_eq_true_eq] at h
 exact⟨h.1.1,by omega,by omega⟩
abbrev CutUnder_pre (sig:Sig) (b:Big) (_:Int):Prop:=SmallB sig b
abbrev CutUnder (sig:Sig) (b:Big) (node:Int):Big × Big × Bool:=cutRes sig b node
theorem has_above {b:Big} {node k:Int}:hasI (above b k) node=underK b node k:=by rw[Bool.eq_iff_iff,hasI_iff,underK,decide_eq_true_eq]
def CutUnder_wp (sig:List Control) (b:Big) (node:Int) (Z:(Big × Big × Bool)→Prop):Prop:=
 joinW (fun (J7:Bool→Prop)=>(agentB_pre sig b)∧∀ r781:Bool,r781=agentB sig b→((r781=true→(b.nodes.length≤1048576)∧∀ r783:Bool,r783=isNodeB b node→((r783=true→(0≤node∧node<b.nodes.length)∧∀ x785:GNode,x785=at' b.nodes node→(0≤x785.control∧x785.control<sig.length)∧∀ x788:Control,x788=at' sig x785.control→∀ c790:Bool,c790=decide (x788.kind=2)→J7 (c790))∧(r783=false→J7 (true))))∧(r781=false→J7 (true)))) (fun b10=>((b10=true→Z ((Big.mk 0 [] [] 0 [] []),(Big.mk 0 [] [] 0 [] []),false))∧(b10=false→∀ len32:Int,len32=(b.nodes.length:Int)→loopW (σ:=Int × (List Int) × (List Int)) (fun (v44,l45,l46) K51=>∀ c52:Bool,c52=decide (v44<len32)→((c52=true→(ancestorsOf_pre b v44)∧∀ r55:List Int,r55=ancestorsOf b v44→(r55.length≤1048576)∧∀ r57:Bool,r57=hasI r55 node→((r57=true→(l45.length+1≤1073741824)∧∀ l59:List Int,l59=l45++[v44]→(I64 (v44+1))∧∀ v71:Int,v71=v44+1→K51 (v71,l59,l46))∧(r57=false→(l46.length+1≤1073741824)∧∀ l74:List Int,l74=l46++[v44]→(I64 (v44+1))∧∀ v86:Int,v86=v44+1→K51 (v86,l45,l74))))∧(c52=false→∀ len97:Int,len97=(b.outer.length:Int)→(I64 (b.edges+len97))∧∀ v100:Int,v100=b.edges+len97→loopW (σ:=Int × (List Int) × (List Int) × (List Int)) (fun (v119,l120,l121,l122) K130=>∀ c131:Bool,c131=decide (v119<v100)→((c131=true→(pointsOf_pre b v119)∧∀ r134:(List (Int × Int)) × (List Str),r134=pointsOf b v119→∀ len154:Int,len154=(r134.1.length:Int)→loopW (σ:=Int × Int) (fun (inside165,v166) K175=>∀ c176:Bool,c176=decide (v166<len154)→((c176=true→(0≤v166∧v166<r134.1.length)∧∀ x183:Int × Int,x183=at' r134.1 v166→(l45.length≤1048576)∧∀ r195:Bool,r195=hasI l45 x183.1→((r195=true→(I64 (inside165+1))∧∀ v197:Int,v197=inside165+1→(I64 (v166+1))∧∀ v200:Int,v200=v166+1→K175 (v197,v200))∧(r195=false→(I64 (v166+1))∧∀ v203:Int,v203=v166+1→K175 (inside165,v203))))∧(c176=false→joinW (fun (J205:Bool→Prop)=>∀ c293:Bool,c293=decide (v119<b.edges)→((c293=true→∀ c295:Bool,c295=decide (0<inside165)→((c295=true→∀ len297:Int,len297=(r134.1.length:Int)→∀ c299:Bool,c299=decide (inside165=len297)→J205 (c299))∧(c295=false→J205 (false))))∧(c293=false→J205 (false)))) (fun b208=>((b208=true→(l120.length+1≤1073741824)∧∀ l217:List Int,l217=l120++[v119]→(I64 (v119+1))∧∀ v231:Int,v231=v119+1→K130 (v231,l217,l121,l122))∧(b208=false→∀ c233:Bool,c233=decide (v119<b.edges)→((c233=true→(l122.length+1≤1073741824)∧∀ l236:List Int,l236=l122++[v119]→∀ c249:Bool,c249=decide (0<inside165)→((c249=true→(l121.length+1≤1073741824)∧∀ l252:List Int,l252=l121++[v119]→(I64 (v119+1))∧∀ v266:Int,v266=v119+1→K130 (v266,l120,l252,l236))∧(c249=false→(I64 (v119+1))∧∀ v269:Int,v269=v119+1→K130 (v269,l120,l121,l236))))∧(c233=false→∀ c271:Bool,c271=decide (0<inside165)→((c271=true→(l121.length+1≤1073741824)∧∀ l274:List Int,l274=l121++[v119]→(I64 (v119+1))∧∀ v288:Int,v288=v119+1→K130 (v288,l120,l274,l122))∧(c271=false→(I64 (v119+1))∧∀ v291:Int,v291=v119+1→K130 (v291,l120,l121,l122))))))))))) (0,0))∧(c131=false→∀ len309:Int,len309=(l121.length:Int)→loopW (σ:=Int × (List Str)) (fun (v328,l329) K338=>∀ c339:Bool,c339=decide (v328<len309)→((c339=true→(0≤v328∧v328<l121.length)∧∀ x346:Int,x346=at' l121 v328→(linkName_pre x346)∧∀ r350:Str,r350=linkName x346→(l329.length+1≤1073741824)∧∀ l352:List Str,l352=l329++[r350]→(I64 (v328+1))∧∀ v367:Int,v367=v328+1→K338 (v367,l352))∧(c339=false→∀ len369:Int,len369=(l329.length:Int)→∀ c371:Bool,c371=decide (16<len369)→((c371=true→Z ((Big.mk 0 [] [] 0 [] []),(Big.mk 0 [] [] 0 [] []),false))∧(c371=false→(partB_pre b l45 l120 l329 (fun z0=>cutP1 z0 node l45) (fun z0=>cutP1_pre z0 node l45) (fun z0=>linkName z0) (fun z0=>linkName_pre z0))∧∀ r386:Big,r386=partB b l45 l120 l329 (fun z0=>cutP1 z0 node l45) (fun z0=>cutP1_pre z0 node l45) (fun z0=>linkName z0) (fun z0=>linkName_pre z0)→(partB_pre b l46 l122 b.outer (fun z0=>cutP2 z0 l46) (fun z0=>cutP2_pre z0 l46) (fun z0=>cutP3 z0 b) (fun z0=>cutP3_pre z0 b))∧∀ r429:Big,r429=partB b l46 l122 b.outer (fun z0=>cutP2 z0 l46) (fun z0=>cutP2_pre z0 l46) (fun z0=>cutP3 z0 b) (fun z0=>cutP3_pre z0 b)→(indexI_pre l46 node)∧∀ r467:Int,r467=indexI l46 node→∀ l468:List Int,l468=[r467]→∀ len488:Int,len488=(l121.length:Int)→loopW (σ:=Int × (List Wire)) (fun (v517,l518) K532=>∀ c533:Bool,c533=decide (v517<len488)→((c533=true→(0≤v517∧v517<l121.length)∧∀ x540:Int,x540=at' l121 v517→(indexI_pre l122 x540)∧∀ r544:Int,r544=indexI l122 x540→∀ c545:Bool,c545=decide (b.edges≤x540)→((c545=true→∀ len547:Int,len547=(l122.length:Int)→(I64 (len547+x540))∧∀ v550:Int,v550=len547+x540→(I64 (v550 - b.edges))∧∀ v553:Int,v553=v550 - b.edges→(0≤v517∧v517<l329.length)∧∀ x572:Str,x572=at' l329 v517→(l518.length+1≤1073741824)∧∀ l576:List Wire,l576=l518++[(Wire.mk x572 v553)]→(I64 (v517+1))∧∀ v597:Int,v597=v517+1→K532 (v597,l576))∧(c545=false→(0≤v517∧v517<l329.length)∧∀ x604:Str,x604=at' l329 v517→(l518.length+1≤1073741824)∧∀ l608:List Wire,l608=l518++[(Wire.mk x604 r544)]→(I64 (v517+1))∧∀ v629:Int,v629=v517+1→K532 (v629,l608))))∧(c533=false→(validI_pre sig (Big.mk r429.roots r429.nodes l468 r429.edges r429.outer l518))∧∀ r632:Big × Bool,r632=validI sig (Big.mk r429.roots r429.nodes l468 r429.edges r429.outer l518)→(validI_pre sig (Big.mk 1 r386.nodes r386.sites r386.edges r386.outer r386.inner))∧∀ r670:Big × Bool,r670=validI sig (Big.mk 1 r386.nodes r386.sites r386.edges r386.outer r386.inner)→joinW (fun (J707:Bool→Prop)=>((r632.2=true→J707 ((!r670.2)))∧(r632.2=false→J707 (true)))) (fun b710=>((b710=true→Z ((Big.mk 0 [] [] 0 [] []),(Big.mk 0 [] [] 0 [] []),false))∧(b710=false→Z (r632.1,r670.1,true))))))) (0,r429.inner)))))) (0,([]:List Str))))) (0,([]:List Int),([]:List Int),([]:List Int))))) (0,([]:List Int),([]:List Int)))))
theorem CutUnder_vc (sig:Sig) (b:Big) (node:Int) (h:CutUnder_pre sig b node):CutUnder_wp sig b node (fun y=>y=CutUnder sig b node):=by
 unfold CutUnder_wp
 have hS:=h
 simp only[forall_eq,decide_eq_true_eq,decide_eq_false_iff_not,pointsOf,ancestorsOf,has_above]
 refine⟨fun c=>c = !mayCut sig b node,⟨h,fun h1=>⟨h.nodesLen,fun h2=>?_,fun h2=>?_⟩,fun h1=>?_⟩,?_⟩
 ·have hG:goodB sig b=true:=by simp only[agentB,Bool.and_eq_true] at h1;exact h1.1
  have hV:=goodB_valid hG
  have hr:0≤node∧node<b.nodes.length:=by simp only[isNodeB,within,Bool.and_eq_true,decide_eq_true_eq] at h2;omega
  refine⟨hr,hV.ctlAt hr,?_⟩
  rw[mayCut,h1,h2];simp
 ·rw[mayCut,h1,show isNodeB b node=false from h2];rfl
 ·rw[mayCut,show agentB sig b=false from h1];rfl
 ·rintro _ rfl
  refine⟨fun h1=>?_,fun h1=>?_⟩
  ·rw[CutUnder,cutRes,if_neg (by simpa using h1)]
  ·have hm:mayCut sig b node=true:=by simpa using h1
   obtain⟨hG,hn0,hn⟩:=mayCut_iff hm
   have hV:=goodB_valid hG
   have hO:=goodB_outer hG
   have h8:=hV.len
   obtain⟨hN,hN2⟩:=nLinks_le hV
   have hE:=hV.edges
   have hOl:=hV.outer
   have hcut:CutUnder sig b node=(if goodB sig (cutOver b node) && goodB sig (cutLow b node) then (cutOver b node,cutLow b node,true) else (z0B,z0B,false)):=by rw[CutUnder,cutRes,if_pos hm]
   rw[hcut]
   refine loopW.up b.nodes.length (fun s=>s.1) (fun k (t:List Int × List Int)=>((k:Int),t)) (fun _ _=>rfl) (fun k t=>t=(numsP (underK b node) k,numsP (fun k => !underK b node k) k)) ([],[]) rfl rfl ?_
   rintro k _ K hk rfl IH
   dsimp only
   have n1:=numsP_len (underK b node) k
   have n2:=numsP_len (fun k => !underK b node k) k
   have hal:=aboveF_len b (b.nodes.length+1) (k:Int)
   refine⟨fun hc=>⟨⟨hV.down,by omega⟩,by simp only[above];omega,fun h2=>⟨by omega,by simp only[I64];omega,?_⟩,fun h2=>⟨by omega,by simp only[I64];omega,?_⟩⟩,fun hc=>?_⟩
   ·rw[show (k:Int)+1=((k+1:Nat):Int) by omega]
    refine IH (by omega) (_,_) ?_
    have h2':underK b node k=true:=decide_eq_true h2
    rw[numsP_yes _ h2',numsP_no (fun k => !underK b node k) (by rw[h2'];rfl)]
   ·rw[show (k:Int)+1=((k+1:Nat):Int) by omega]
    refine IH (by omega) (_,_) ?_
    have h2':underK b node k=false:=decide_eq_false h2
    rw[numsP_no _ h2',numsP_yes (fun k => !underK b node k) (by rw[h2'];rfl)]
   ·obtain rfl:k=b.nodes.length:=by omega
    refine⟨by simp only[I64];omega,?_⟩
    refine loopW.up (nLinks b) (fun s=>s.1) (fun k (t:List Int × List Int × List Int)=>((k:Int),t)) (fun _ _=>rfl) (fun k t=>t=(numsP (ownK b node) k,numsP (sharedK b node) k,numsP (otherK b node) k)) ([],[],[]) rfl rfl ?_
    rintro k _ K hk rfl IH
    dsimp only
    have m1:=numsP_len (ownK b node) k
    have m2:=numsP_len (sharedK b node) k
    have m3:=numsP_len (otherK b node) k
    have hin:=insideN_le b node k
    have hpl:=portsB_le hV.linkSz k
    have hcast:(k:Int)+1=((k+1:Nat):Int):=by omega
    refine⟨fun hc=>⟨hV.linkSz,?_⟩,fun hc=>?_⟩
    ·have hk2:k<nLinks b:=by omega
     refine loopW.upR (portsB b k).length (fun j c=>c=((((portsB b k).take j).filter fun q=>underK b node q.1).length:Int)) 0 (by simp) ?_
     rintro j _ K2 hj rfl IH2
     dsimp only
     have hfl:=List.length_filter_le (fun q:Int × Int=>underK b node q.1) ((portsB b k).take j)
     have htl:((portsB b k).take j).length≤j:=by simp;omega
     refine⟨fun h2=>?_,fun h2=>?_⟩
     ·have hj2:j<(portsB b k).length:=by omega
      have hq:=ports_in (List.getElem_mem hj2)
      rw[at_lt hj2]
      have hu:hasI (numsP (underK b node) b.nodes.length) (portsB b k)[j].1=underK b node (portsB b k)[j].1:=by
       rw[Bool.eq_iff_iff,hasI_iff,mem_numsP];exact⟨fun h=>h.2,fun h=>⟨hq,h⟩⟩
      rw[hu]
      refine⟨⟨by omega,by omega⟩,by omega,fun h3=>⟨by simp only[I64];omega,by simp only[I64];omega,IH2 hj2 _ ?_⟩,fun h3=>⟨by simp only[I64];omega,IH2 hj2 _ ?_⟩⟩
      ·rw[List.take_succ_eq_append_getElem hj2,List.filter_append,List.length_append];simp[h3]
      ·rw[List.take_succ_eq_append_getElem hj2,List.filter_append,List.length_append];simp[h3]
     ·have e:((((portsB b k).take j).filter fun q=>underK b node q.1).length:Int)=insideN b node k:=by rw[show j=(portsB b k).length by omega,List.take_length,insideN]
      rw[e]
      refine⟨fun c=>c=ownK b node k,⟨fun h3=>⟨fun h4=>?_,fun h4=>?_⟩,fun h3=>?_⟩,?_⟩
      ·show (decide _:Bool)=ownK b node k
       rw[ownK,decide_eq_true h3,decide_eq_true h4,Bool.true_and,Bool.true_and]
      ·rw[ownK,decide_eq_false h4,Bool.false_and,Bool.and_false]
      ·rw[ownK,decide_eq_false h3,Bool.false_and]
      ·rintro _ rfl
       refine⟨fun h3=>?_,fun h3=>⟨fun h4=>⟨by omega,fun h5=>?_,fun h5=>?_⟩,fun h4=>⟨fun h5=>?_,fun h5=>?_⟩⟩⟩
       ·have o1:otherK b node k=false:=by rw[otherK,h3];simp
        have s1:sharedK b node k=false:=by rw[sharedK,h3];simp
        refine⟨by omega,by simp only[I64];omega,?_⟩
        rw[hcast];refine IH hk2 _ ?_
        rw[numsP_yes _ h3,numsP_no _ o1,numsP_no _ s1]
       ·have o1:otherK b node k=true:=by rw[otherK,h3];simpa using h4
        have s1:sharedK b node k=true:=by rw[sharedK,h3];simpa using h5
        refine⟨by omega,by simp only[I64];omega,?_⟩
        rw[hcast];refine IH hk2 _ ?_
        rw[numsP_no _ h3,numsP_yes _ o1,numsP_yes _ s1]
       ·have o1:otherK b node k=true:=by rw[otherK,h3];simpa using h4
        have s1:sharedK b node k=false:=by rw[sharedK,decide_eq_false h5,Bool.false_and]
        refine⟨by simp only[I64];omega,?_⟩
        rw[hcast];refine IH hk2 _ ?_
        rw[numsP_no _ h3,numsP_yes _ o1,numsP_no _ s1]
       ·have o1:otherK b node k=false:=by rw[otherK,decide_eq_false h4,Bool.false_and]
        have s1:sharedK b node k=true:=by rw[sharedK,h3];simpa using h5
        refine⟨by omega,by simp only[I64];omega,?_⟩
        rw[hcast];refine IH hk2 _ ?_
        rw[numsP_no _ h3,numsP_no _ o1,numsP_yes _ s1]
       ·have o1:otherK b node k=false:=by rw[otherK,decide_eq_false h4,Bool.false_and]
        have s1:sharedK b node k=false:=by rw[sharedK,decide_eq_false h5,Bool.false_and]
        refine⟨by simp only[I64];omega,?_⟩
        rw[hcast];refine IH hk2 _ ?_
        rw[numsP_no _ h3,numsP_no _ o1,numsP_no _ s1]
    ·obtain rfl:k=nLinks b:=by omega
     refine loopW.upL (numsP (sharedK b node) (nLinks b)).length (fun j t=>t=((numsP (sharedK b node) (nLinks b)).take j).map linkName) [] (by simp) ?_
     rintro j _ K2 hj rfl IH2
     dsimp only
     have hjl:(((numsP (sharedK b node) (nLinks b)).take j).map linkName).length=j:=by simp;omega
     refine⟨fun h2=>?_,fun h2=>?_⟩
     ·have hj2:j<(numsP (sharedK b node) (nLinks b)).length:=by omega
      rw[at_lt hj2]
      have hq:=((mem_numsP _).1 (List.getElem_mem hj2)).1
      refine⟨⟨by omega,by omega⟩,⟨hq.1,by omega⟩,by omega,by simp only[I64];omega,IH2 hj2 _ ?_⟩
      rw[List.take_succ_eq_append_getElem hj2,List.map_append];rfl
     ·rw[hjl,show j=(numsP (sharedK b node) (nLinks b)).length by omega,List.take_length]
      refine⟨fun h3=>?_,fun h3=>?_⟩
      ·rw[if_neg]
       intro h4
       have h5:=(Bool.and_eq_true _ _ ▸ h4).2
       have:=(goodB_valid h5).outer
       simp only[cutLow,List.length_map] at this
       omega
      ·have hli:∀ k:Int,0≤k→k<b.nodes.length→∀ l ∈ (at' b.nodes k).links,0≤l∧l<nLinks b:=fun k h0 h1 l hl=>by have:=hV.linksAt ⟨h0,h1⟩ l hl;omega
       refine⟨⟨by omega,by omega,by simp;omega,fun k hk=>((mem_numsP _).1 hk).1,fun k _=>by simp only[cutP1_pre];omega,fun k hk=>by have:=hV.portsLe ((mem_numsP _).1 hk).1;omega,fun k hk l hl _=>by have:=hli k ((mem_numsP _).1 hk).1.1 ((mem_numsP _).1 hk).1.2 l hl;exact⟨this.1,by omega⟩⟩,⟨by omega,by omega,by omega,fun k hk=>((mem_numsP _).1 hk).1,fun k _=>by simp only[cutP2_pre];omega,fun k hk=>by have:=hV.portsLe ((mem_numsP _).1 hk).1;omega,fun k hk l hl hno=>?_⟩,by simp only[indexI_pre];omega,?_⟩
       ·obtain⟨hkr,hu⟩:=(mem_numsP _).1 hk
        have hlr:=hli k hkr.1 hkr.2 l hl
        have hle:¬ l<b.edges:=fun hle=>hno ((mem_numsP _).2 ⟨hlr,by rw[otherK,inside_lt hkr.1 hkr.2 hl (by simpa using hu)];simpa using hle⟩)
        exact⟨by simp only[I64];omega,by omega,by omega⟩
       ·refine loopW.upL (numsP (sharedK b node) (nLinks b)).length (fun j t=>t=((numsP (sharedK b node) (nLinks b)).take j).map fun l=>(⟨linkName l,leftF b node l⟩:Wire)) _ (by rfl) ?_
        rintro j _ K3 hj rfl IH3
        dsimp only
        have hjl:(((numsP (sharedK b node) (nLinks b)).take j).map fun l=>(⟨linkName l,leftF b node l⟩:Wire)).length=j:=by simp;omega
        refine⟨fun h2=>?_,fun h2=>?_⟩
        ·have hj2:j<(numsP (sharedK b node) (nLinks b)).length:=by omega
         have hjm:j<((numsP (sharedK b node) (nLinks b)).map linkName).length:=by simpa using hj2
         rw[at_lt hj2,at_lt hjm,List.getElem_map]
         obtain⟨hq,hsh⟩:=(mem_numsP _).1 (List.getElem_mem hj2)
         generalize hx:(numsP (sharedK b node) (nLinks b))[j]=x at hq hsh
         have hstep:∀ v:Int,v=leftF b node x→(((numsP (sharedK b node) (nLinks b)).take j).map fun l=>(⟨linkName l,leftF b node l⟩:Wire))++[⟨linkName x,v⟩]=((numsP (sharedK b node) (nLinks b)).take (j+1)).map fun l=>(⟨linkName l,leftF b node l⟩:Wire):=by
          rintro _ rfl
          rw[List.take_succ_eq_append_getElem hj2,List.map_append,hx];rfl
         have c3:=cntP_le (otherK b node) (nLinks b)
         have hol:(((numsP (otherK b node) (nLinks b)).length:Nat):Int)=cntP (otherK b node) (nLinks b):=rfl
         refine⟨⟨by omega,by omega⟩,by simp only[indexI_pre];omega,fun h4=>⟨by simp only[I64];omega,by simp only[I64];omega,⟨by omega,by omega⟩,by omega,by simp only[I64];omega,IH3 hj2 _ (hstep _ ?_)⟩,fun h4=>⟨⟨by omega,by omega⟩,by omega,by simp only[I64];omega,IH3 hj2 _ (hstep _ ?_)⟩⟩
         ·have e1:=other_const (b:=b) (node:=node) hE.1 (n:=nLinks b) (by omega)
          have e2:=other_const (b:=b) (node:=node) hE.1 (n:=x.toNat) (by omega)
          rw[hol,leftF,if_neg (by omega),e2,e1];omega
         ·have hxo:otherK b node x=true:=by
           have h5:ownK b node x=false:=by
            simp only[sharedK,Bool.and_eq_true] at hsh;simpa using hsh.2
           rw[otherK,h5];simp;omega
          rw[index_nums _ ((mem_numsP _).2 ⟨hq,hxo⟩),leftF,if_pos (by omega)];omega
        ·have eO:Big.mk b.roots ((numsP (fun k => !underK b node k) b.nodes.length).map (partNode b (numsP (otherK b node) (nLinks b)) (sortedNames b.outer) (fun z=>cutP2 z (numsP (fun k => !underK b node k) b.nodes.length)) (fun z=>cutP3 z b))) [indexI (numsP (fun k => !underK b node k) b.nodes.length) node] (numsP (otherK b node) (nLinks b)).length (sortedNames b.outer) (((numsP (sharedK b node) (nLinks b)).take j).map fun l=>(⟨linkName l,leftF b node l⟩:Wire))=cutOver b node:=by
          have hnu:(fun k => !underK b node k) node=true:=by
           simp only[underK,Bool.not_eq_true',decide_eq_false_iff_not]
           exact fun hx=>by have:=above_lt hV.down _ node (Nat.le_refl _) hn _ hx;omega
          rw[part_over hV hO,sortedNames_of hO,index_nums _ ((mem_numsP _).2 ⟨⟨hn0,hn⟩,hnu⟩),show j=(numsP (sharedK b node) (nLinks b)).length by omega,List.take_length]
          rfl
         have eL:Big.mk 1 ((numsP (underK b node) b.nodes.length).map (partNode b (numsP (ownK b node) (nLinks b)) (sortedNames ((numsP (sharedK b node) (nLinks b)).map linkName)) (fun z=>cutP1 z node (numsP (underK b node) b.nodes.length)) (fun z=>linkName z))) [] (numsP (ownK b node) (nLinks b)).length (sortedNames ((numsP (sharedK b node) (nLinks b)).map linkName)) []=cutLow b node:=by
          rw[part_low hV hn,sortedNames_of (letters_lt (by omega))];rfl
         simp only[partB]
         rw[eO,eL]
         obtain⟨sO,sL⟩:=cut_small hS hV hn
         refine⟨sO,sL,fun c=>c = !(goodB sig (cutOver b node) && goodB sig (cutLow b node)),⟨fun h3=>?_,fun h3=>?_⟩,?_⟩
         ·rw[validI,validB_2] at h3 ⊢;rw[h3];rfl
         ·rw[validI,validB_2] at h3;rw[h3];rfl
         ·rintro _ rfl
          refine⟨fun h3=>?_,fun h3=>?_⟩
          ·rw[if_neg (fun h4=>by rw[h4] at h3;cases h3)]
          ·have h4:(goodB sig (cutOver b node) && goodB sig (cutLow b node))=true:=by simpa using h3
           rw[if_pos h4]
           rw[Bool.and_eq_true] at h4
           rw[validI,validB_1 h4.1,validB_1 h4.2]
abbrev sCutUnder_pre (sig:Sig) (b:Big) (_:Int):Prop:=SmallB sig b
abbrev sCutUnder (sig:Sig) (b:Big) (node:Int):Big × Big × Bool:=cutRes sig b node
def sCutUnder_wp (sig:List Control) (b:Big) (node:Int) (Z:(Big × Big × Bool)→Prop):Prop:=
 joinW (fun (J6:Bool→Prop)=>(l2Agent_pre sig b)∧∀ r157:Bool,r157=l2Agent sig b→((r157=true→(b.nodes.length≤1048576)∧∀ r159:Bool,r159=isNodeB b node→((r159=true→(0≤node∧node<b.nodes.length)∧∀ x161:GNode,x161=at' b.nodes node→(0≤x161.control∧x161.control<sig.length)∧∀ x164:Control,x164=at' sig x161.control→∀ c166:Bool,c166=decide (x164.kind=2)→J6 (c166))∧(r159=false→J6 (true))))∧(r157=false→J6 (true)))) (fun b9=>((b9=true→Z ((Big.mk 0 [] [] 0 [] []),(Big.mk 0 [] [] 0 [] []),false))∧(b9=false→(l4Cut_pre b node)∧∀ r25:Big × Big,r25=l4Cut b node→joinW (fun (J79:Bool→Prop)=>(SmallB sig r25.1)∧∀ r153:Bool,r153=goodB sig r25.1→((r153=true→(SmallB sig r25.2)∧∀ r155:Bool,r155=goodB sig r25.2→J79 ((!r155)))∧(r153=false→J79 (true)))) (fun b82=>((b82=true→Z ((Big.mk 0 [] [] 0 [] []),(Big.mk 0 [] [] 0 [] []),false))∧(b82=false→Z (r25.1,r25.2,true)))))))
theorem sCutUnder_vc (sig:Sig) (b:Big) (node:Int) (h:sCutUnder_pre sig b node):sCutUnder_wp sig b node (fun y=>y=sCutUnder sig b node):=by
 unfold sCutUnder_wp
 have hS:=h
 simp only[forall_eq,decide_eq_true_eq,decide_eq_false_iff_not,l4Cut]
 refine⟨fun c=>c = !mayCut sig b node,⟨h,fun h1=>⟨h.nodesLen,fun h2=>?_,fun h2=>?_⟩,fun h1=>?_⟩,?_⟩
 ·have h1':agentB sig b=true:=h1
  have hG:goodB sig b=true:=by simp only[agentB,Bool.and_eq_true] at h1';exact h1'.1
  have hV:=goodB_valid hG
  have hr:0≤node∧node<b.nodes.length:=by simp only[isNodeB,within,Bool.and_eq_true,decide_eq_true_eq] at h2;omega
  refine⟨hr,hV.ctlAt hr,?_⟩
  rw[mayCut,h1',h2];simp
 ·rw[mayCut,show agentB sig b=true from h1,show isNodeB b node=false from h2];rfl
 ·rw[mayCut,show agentB sig b=false from h1];rfl
 ·rintro _ rfl
  refine⟨fun h1=>?_,fun h1=>?_⟩
  ·rw[sCutUnder,cutRes,if_neg (by simpa using h1)]
  ·have hm:mayCut sig b node=true:=by simpa using h1
   obtain⟨hG,hn0,hn⟩:=mayCut_iff hm
   have hV:=goodB_valid hG
   obtain⟨sO,sL⟩:=cut_small hS hV hn
   rw[sCutUnder,cutRes,if_pos hm]
   refine⟨⟨⟨sig,hV⟩,hn0,hn⟩,fun c=>c = !(goodB sig (cutOver b node) && goodB sig (cutLow b node)),⟨sO,fun h3=>⟨sL,?_⟩,fun h3=>?_⟩,?_⟩
   ·rw[h3];rfl
   ·rw[h3];rfl
   ·rintro _ rfl
    refine⟨fun h3=>?_,fun h3=>?_⟩
    ·rw[if_neg (fun h4=>by rw[h4] at h3;cases h3)]
    ·rw[if_pos (by simpa using h3)]
end Go.Ab.Vg
/- CutUnder (statement 30): the law. -/
namespace Go.Ab.Vg
set_option linter.unusedSimpArgs false
set_option linter.unusedVariables false
theorem markSeq_sum {α:Type} {m:α→Int→α × Int} {f:α→Nat} (hm:∀ x k,f (m x k).1=f x):∀ (l:List α) (k:Int),((markSeq m l k).1.map f).sum=(l.map f).sum
 | [],_=>rfl
 | x::l,k=>by simp only[markSeq,List.map_cons,List.sum_cons,hm,markSeq_sum hm l]
theorem markSeq_all {α:Type} {m:α→Int→α × Int} {q:α→Prop} (hm:∀ x k,q x→q (m x k).1):∀ (l:List α) (k:Int),(∀ x ∈ l,q x)→∀ x ∈ (markSeq m l k).1,q x
 | [],_,_=>by simp[markSeq]
 | x::l,k,h=>by
  intro y hy
  simp only[markSeq,List.mem_cons] at hy
  rcases hy with rfl | hy
  ·exact hm x k (h x (by simp))
  ·exact markSeq_all hm l _ (fun z hz=>h z (by simp[hz])) y hy
theorem holdB {b:Big} (h:EqB b) (k:Int) (h0:0≤k) (hk:k≤1125899906842624):heldBig_pre (markBig b k).1 k∧heldBig (markBig b k).1 k=(markBig b k).2:=by
 obtain⟨⟨_,_,_,_,_,_,h6⟩,_⟩:=markB h k h0 hk
 obtain⟨h1,h2,h3,h4,h5⟩:=h
 have e1:((markNodeS b.nodes k).1.map nodeSize).sum=(b.nodes.map nodeSize).sum:=markSeq_sum (fun x k=>by simp[nodeSize,nodeMark,markIntS,markL,markPre_len]) _ _
 have e2:∀ x ∈ (markNodeS b.nodes k).1,x.links.length≤1048576:=markSeq_all (q:=fun x:GNode=>x.links.length≤1048576) (fun x k hx=>by simpa[nodeMark,markIntS,markL,markPre_len] using hx) _ _ h2
 have hnl:(markNodeS b.nodes k).1.length=b.nodes.length:=markSeq_len _ _ _
 have hb2:bigSize (markBig b k).1=bigSize b:=by
  simp only[bigSize,markBig,e1]
  simp[markIntS,markStringS,markWireS,markL,markPre_len]
 refine⟨⟨h0,by show (markNodeS b.nodes k).1.length≤_;omega,e2,?_,?_,?_,by omega⟩,heldBig_mark b k h0⟩<;>simp only[markBig,markIntS,markStringS,markWireS,markL,markPre_len]<;>assumption
theorem eqV {sig:Sig} {b:Big} (h:ValidB sig b):EqB b:=by
 refine⟨by have:=h.len;omega,fun z hz=>?_,by have:=h.slen;omega,by have:=h.outer;omega,by have:=h.inner;omega⟩
 obtain⟨i,hi,rfl⟩:=List.getElem_of_mem hz
 have:=h.portsLe (i:=(i:Int)) ⟨by omega,by omega⟩
 rw[at_lt hi] at this
 omega
theorem eqZ:EqB z0B:=⟨by simp,by simp,by simp,by simp,by simp⟩
theorem cut_eq (sig:Sig) (b:Big) (node:Int):EqB (CutUnder sig b node).1∧EqB (CutUnder sig b node).2.1:=by
 unfold CutUnder cutRes
 split
 ·split
  ·rename_i h
   rw[Bool.and_eq_true] at h
   exact⟨eqV (goodB_valid h.1),eqV (goodB_valid h.2)⟩
  ·exact⟨eqZ,eqZ⟩
 ·exact⟨eqZ,eqZ⟩
abbrev lawCut (_:Sig) (_:Big) (_:Int):Bool:=true
abbrev lawCut_pre (sig:Sig) (b:Big) (_:Int):Prop:=HugeS sig∧HugeB b
def lawCut_wp (aSig:List Control) (aB:Big) (aNode:Int) (Z:Bool→Prop):Prop:=
 (((0:Int)≤1048576∧(1048576:Int)≤1048576)∧HugeS aSig)∧∀ r5:Int,r5=szS szC aSig 1048576→∀ c6:Bool,c6=decide (r5<0)→((c6=true→Z true)∧(c6=false→(((0:Int)≤r5∧(r5:Int)≤1048576)∧HugeB aB)∧∀ r9:Int,r9=szB aB r5→∀ c10:Bool,c10=decide (r9<0)→((c10=true→Z true)∧(c10=false→(toControlS_pre aSig)∧∀ r14:List Control,r14=toControlS aSig→(toBigraph_pre aB)∧∀ r16:Big,r16=toBigraph aB→(sCutUnder_pre r14 r16 aNode)∧∀ r18:Big × Big × Bool,r18=sCutUnder r14 r16 aNode→(toControlS_pre aSig)∧∀ r85:List Control,r85=toControlS aSig→(toBigraph_pre aB)∧∀ r96:Big,r96=toBigraph aB→(CutUnder_pre r85 r96 aNode)∧∀ r127:Big × Big × Bool,r127=CutUnder r85 r96 aNode→joinW (fun (J187:Bool→Prop)=>(EqB r127.1)∧∀ r483:Bool,r483=decide (r127.1=r18.1)→((r483=true→(EqB r127.2.1)∧∀ r485:Bool,r485=decide (r127.2.1=r18.2.1)→((r485=true→∀ c486:Bool,c486 = !(r127.2.2 == r18.2.2)→J187 (c486))∧(r485=false→J187 (true))))∧(r483=false→J187 (true)))) (fun b190=>((b190=true→Z false)∧(b190=false→(toControlS_pre aSig)∧∀ r207:List Control,r207=toControlS aSig→(r85.length≤1048576)∧∀ r216:Bool,r216=decide (r85=r207)→((r216=true→(toBigraph_pre aB)∧∀ r232:Big,r232=toBigraph aB→(EqB r96)∧∀ r234:Bool,r234=decide (r96=r232)→((r234=true→(markControlS_pre r85 1)∧∀ r236:(List Control) × Int,r236=markControlS r85 1→(markBig_pre r96 r236.2)∧∀ r257:Big × Int,r257=markBig r96 r236.2→joinW (fun (J278:Bool→Prop)=>∀ c474:Bool,c474=decide (r257.2<0)→((c474=true→J278 (true))∧(c474=false→(EqB r127.1)∧∀ r477:Bool,r477=decide (r127.1=r18.1)→((r477=true→(EqB r127.2.1)∧∀ r479:Bool,r479=decide (r127.2.1=r18.2.1)→((r479=true→∀ c480:Bool,c480 = !(r127.2.2 == r18.2.2)→J278 (c480))∧(r479=false→J278 (true))))∧(r477=false→J278 (true)))))) (fun b281=>((b281=true→Z false)∧(b281=false→(markBig_pre r127.1 1)∧∀ r293:Big × Int,r293=markBig r127.1 1→(markBig_pre r127.2.1 r293.2)∧∀ r315:Big × Int,r315=markBig r127.2.1 r293.2→(heldBig_pre (Big.mk r127.1.roots r293.1.nodes r293.1.sites r127.1.edges r293.1.outer r293.1.inner) 1)∧∀ r337:Int,r337=heldBig (Big.mk r127.1.roots r293.1.nodes r293.1.sites r127.1.edges r293.1.outer r293.1.inner) 1→∀ c338:Bool,c338=decide (r337<0)→((c338=true→Z false)∧(c338=false→(heldBig_pre (Big.mk r127.2.1.roots r315.1.nodes r315.1.sites r127.2.1.edges r315.1.outer r315.1.inner) r337)∧∀ r341:Int,r341=heldBig (Big.mk r127.2.1.roots r315.1.nodes r315.1.sites r127.2.1.edges r315.1.outer r315.1.inner) r337→∀ c342:Bool,c342=decide (r341<0)→((c342=true→Z false)∧(c342=false→∀ c344:Bool,c344=decide (r341 ≠ r315.2)→((c344=true→Z false)∧(c344=false→(toControlS_pre aSig)∧∀ r365:List Control,r365=toControlS aSig→(toBigraph_pre aB)∧∀ r367:Big,r367=toBigraph aB→(CutUnder_pre r365 r367 aNode)∧∀ r369:Big × Big × Bool,r369=CutUnder r365 r367 aNode→joinW (fun (J443:Bool→Prop)=>(EqB r369.1)∧∀ r469:Bool,r469=decide (r369.1=r18.1)→((r469=true→(EqB r369.2.1)∧∀ r471:Bool,r471=decide (r369.2.1=r18.2.1)→((r471=true→∀ c472:Bool,c472 = !(r369.2.2 == r18.2.2)→J443 (c472))∧(r471=false→J443 (true))))∧(r469=false→J443 (true)))) (fun b446=>((b446=true→Z false)∧(b446=false→(heldBig_pre (Big.mk r127.1.roots r293.1.nodes r293.1.sites r127.1.edges r293.1.outer r293.1.inner) 1)∧∀ r458:Int,r458=heldBig (Big.mk r127.1.roots r293.1.nodes r293.1.sites r127.1.edges r293.1.outer r293.1.inner) 1→∀ c459:Bool,c459=decide (r458<0)→((c459=true→Z false)∧(c459=false→(heldBig_pre (Big.mk r127.2.1.roots r315.1.nodes r315.1.sites r127.2.1.edges r315.1.outer r315.1.inner) r458)∧∀ r462:Int,r462=heldBig (Big.mk r127.2.1.roots r315.1.nodes r315.1.sites r127.2.1.edges r315.1.outer r315.1.inner) r458→∀ c463:Bool,c463=decide (r462<0)→((c463=true→Z false)∧(c463=false→∀ c465:Bool,c465=decide (r462 ≠ r315.2)→((c465=true→Z false)∧(c465=false→Z true)))))))))))))))))))∧(r234=false→Z false)))∧(r216=false→Z false)))))))))
theorem remark (b:Big) (k:Int):Big.mk b.roots (markBig b k).1.nodes (markBig b k).1.sites b.edges (markBig b k).1.outer (markBig b k).1.inner=(markBig b k).1:=rfl
theorem lawCut_vc (sig:Sig) (b:Big) (node:Int) (h:lawCut_pre sig b node):lawCut_wp sig b node (fun y=>y=lawCut sig b node):=by
 unfold lawCut_wp
 simp only[forall_eq,decide_eq_true_eq,decide_eq_false_iff_not,toControlS,toBigraph,sCutUnder,CutUnder]
 obtain⟨h1,h2⟩:=h
 refine⟨⟨by omega,h1⟩,fun _=>trivial,fun s1=>?_⟩
 have l1:=szS_le szC sig 1048576 (by omega)
 refine⟨⟨by omega,h2⟩,fun _=>trivial,fun s2=>?_⟩
 have a2:SmallB sig b:=smallB (left:=1048576) (by omega) (by omega) (by omega) (by omega) h2
 have a1:=a2.sigLen
 have hL:=cut_eq sig b node
 simp only[CutUnder] at hL
 generalize cutRes sig b node=F at hL
 refine⟨a1,toOf a2,a2,a1,toOf a2,a2,fun c=>c=false,⟨hL.1,fun _=>⟨hL.2,fun _=>by simp,fun h=>absurd trivial h⟩,fun h=>absurd trivial h⟩,?_⟩
 rintro _ rfl
 have k1:(markControlS sig 1).2=1+3 * sig.length:=rfl
 obtain⟨m1,m2⟩:=markB (eqOf a2) (markControlS sig 1).2 (by omega) (by omega)
 obtain⟨p1,p2⟩:=markB hL.1 1 (by omega) (by omega)
 obtain⟨p3,p4⟩:=markB hL.2 (markBig F.1 1).2 (by omega) (by omega)
 obtain⟨q1,q2⟩:=holdB hL.1 1 (by omega) (by omega)
 obtain⟨q3,q4⟩:=holdB hL.2 (markBig F.1 1).2 (by omega) (by omega)
 simp only[remark,q2,q4]
 refine⟨fun h=>(by cases h),fun _=>⟨a1,a1,fun _=>⟨toOf a2,eqOf a2,fun _=>⟨⟨by omega,by omega,by omega⟩,m1,fun c=>c=false,⟨fun h=>by omega,fun _=>⟨hL.1,fun _=>⟨hL.2,fun _=>by simp,fun h=>absurd trivial h⟩,fun h=>absurd trivial h⟩⟩,?_⟩,fun h=>absurd trivial h⟩,fun h=>absurd trivial h⟩⟩
 rintro _ rfl
 refine⟨fun h=>(by cases h),fun _=>⟨p1,p3,q1,fun h=>by omega,fun _=>⟨q3,fun h=>by omega,fun _=>⟨fun h=>absurd rfl h,fun _=>⟨a1,toOf a2,a2,fun c=>c=false,⟨hL.1,fun _=>⟨hL.2,fun _=>by simp,fun h=>absurd trivial h⟩,fun h=>absurd trivial h⟩,?_⟩⟩⟩⟩⟩
 rintro _ rfl
 exact⟨fun h=>(by cases h),fun _=>⟨q1,fun h=>by omega,fun _=>⟨q3,fun h=>by omega,fun _=>⟨fun h=>absurd rfl h,fun _=>trivial⟩⟩⟩⟩
end Go.Ab.Vg
/- Walks by program for YtbikfokhjdjfpaaGreatDoorAbL2k. -/
namespace Go.Ab.Vg
open Go.Proofs
set_option maxRecDepth 100000
set_option linter.unusedSimpArgs false
set_option linter.unusedVariables false
attribute [local simp] GNode.cells Wire.cells intC sliceC strC bC pA
end Go.Ab.Vg
/- Walks by program for YtbikfokhjdjfpaaGreatDoorAbMa. -/
namespace Go.Ab.Vg
open Go.Proofs
set_option maxRecDepth 100000
set_option linter.unusedSimpArgs false
set_option linter.unusedVariables false
attribute [local simp] Control.cells GNode.cells Wire.cells intC intC2 sliceC strC bC pA
theorem e146:Ent Tryz.prog 146:=Ent.of Tryz.func146 (by kernel_rfl) rfl
theorem l2Ports_walk (b:Big) (link:Int) (Z:(List (Int × Int))→Prop) (h:l2Ports_wp b link Z):OwnS Tryz.prog 146 [.agg (bC false b),int link] (.s [.c,.c]) (fun r=>∃ y:List (Int × Int),Z y∧r = .list true (y.map intC2)):=by
 unfold l2Ports_wp at h
 have sp:Sep noHeap 0 [] []:=Sep.nil (by simp)
 refine OwnS.of Tryz.func146 rfl Tryz.ntmps146 (by simp) fun Q hQ=>?_
 refine Runs.cut (fun ρ H n=>(ρ 0 = .agg (bC false b)∧ρ 1=int link)∧Sep H n [] []) (by refine⟨by simp ,sp⟩) ?_
 rintro ρ H n1 ⟨hh,sp⟩
 refine zE fun k' hk'=>?_
 simp[hh]
 apply hk'
 refine Runs.cut (fun ρ H n=>((ρ 1=int link∧ρ 2=pA n1 2)∧H (n1,2)=some ⟨6,[bC false b]⟩)∧Sep H n [] [(n1,2)]) (by refine⟨by simp[hh],sp.var⟩) ?_
 clear hh
 rintro ρ H n3 ⟨⟨hh,m2_1⟩,sp⟩
 refine zE fun k' hk'=>?_
 simp[hh,m2_1]
 apply hk'
 refine Runs.cut (fun ρ H n=>∃ (v5:AVal),((ρ 1=int link∧ρ 2=pA n1 2∧ρ 5=v5)∧H (n1,2)=some ⟨6,[bC false b]⟩)∧Sep H n [oE [.c,.c] intC2 v5 ([]:List (Int × Int))] [(n1,2)]) (by refine⟨.arr (n3,8) 0 0 0,by simp[hh,m2_1],(Sep.addEmpty (l:=[.c,.c]) sp)⟩) ?_
 clear hh m2_1
 rintro ρ H n6 ⟨v5,⟨hh,m2_1⟩,sp⟩
 refine Runs.seq ?_
 refine zE fun k' hk'=>?_
 simp[hh,m2_1]
 apply hk'
 refine Runs.block ?_
 refine Runs.loopW h (fun (sJ:Int × (List (Int × Int))) ρ H n=>match sJ with | (i14,l15)=>∃ (v16:AVal),((ρ 1=int link∧ρ 2=pA n1 2∧ρ 5=v16∧ρ 6=int i14)∧H (n1,2)=some ⟨6,[bC false b]⟩)∧Sep H n [oE [.c,.c] intC2 v16 l15] [(n1,2)]) (by refine⟨v5,by simp[hh,m2_1],sp⟩) ?_
 clear hh m2_1
 rintro⟨i14,l15⟩ ρ H n17 K h ⟨v16,⟨hh,m2_1⟩,sp⟩ IH18
 refine Runs.seq ?_
 refine zE fun k' hk'=>?_
 obtain⟨len20,elen20,h⟩:=atm h
 have f21:=fun H=>len_list (H:=H) (fr:=false) (f:=(GNode.cells false)) kd_31 elen20
 obtain⟨c22,ec22,h⟩:=atm h
 have f23:=ib_lss (k:=.i64) ec22
 simp[hh,m2_1,f21,f23,-intBin,-lenF]
 apply hk'
 refine Runs.ite (b:=c22) (by simp[hh,m2_1]) (fun dc22=>?_) (fun dc22=>?_)
 ·replace h:=h.1 dc22
  refine Runs.skip ?_
  refine Runs.seq ?_
  refine Runs.block ?_
  refine zE fun k' hk'=>?_
  simp[hh,m2_1,dc22]
  apply hk'
  refine Runs.block ?_
  refine Runs.loopW h (fun (sJ:Int × (List (Int × Int))) ρ H n=>match sJ with | (k31,l32)=>∃ (v33:AVal),((ρ 1=int link∧ρ 2=pA n1 2∧ρ 5=v33∧ρ 6=int i14∧ρ 7=int k31)∧H (n1,2)=some ⟨6,[bC false b]⟩)∧Sep H n [oE [.c,.c] intC2 v33 l32] [(n1,2)]) (by refine⟨v16,by simp[hh,m2_1,dc22],sp⟩) ?_
  clear hh m2_1
  rintro⟨k31,l32⟩ ρ H n34 K h ⟨v33,⟨hh,m2_1⟩,sp⟩ IH35
  refine Runs.seq ?_
  refine zE fun k' hk'=>?_
  obtain⟨hb37,h⟩:=h
  obtain⟨x38,ex38,h⟩:=atm h
  have f39:=fun H=>ix_list (H:=H) (fr:=false) (f:=(GNode.cells false)) (k:=.i64) kd_31 (fun _=>rfl) hb37 ex38
  obtain⟨len40,elen40,h⟩:=atm h
  have f41:=fun H=>len_list (H:=H) (fr:=false) (f:=intC) kd_24 elen40
  obtain⟨c42,ec42,h⟩:=atm h
  have f43:=ib_lss (k:=.i64) ec42
  simp[hh,m2_1,f39,f41,f43,-indexAddrF,-intBin,-lenF]
  apply hk'
  refine Runs.ite (b:=c42) (by simp[hh,m2_1]) (fun dc42=>?_) (fun dc42=>?_)
  ·replace h:=h.1 dc42
   refine Runs.skip ?_
   refine Runs.seq ?_
   refine Runs.block ?_
   refine zE fun k' hk'=>?_
   obtain⟨hb44,h⟩:=h
   obtain⟨x45,ex45,h⟩:=atm h
   have hq46:=ex38.trans ex45.symm
   subst hq46
   have f47:=fun H=>ix_list (H:=H) (fr:=false) (f:=(GNode.cells false)) (k:=.i64) kd_31 (fun _=>rfl) hb44 ex38
   obtain⟨hb48,h⟩:=h
   obtain⟨x49,ex49,h⟩:=atm h
   have f50:=fun H=>ix_list (H:=H) (fr:=false) (f:=intC) (k:=.i64) kd_24 (fun _=>rfl) hb48 ex49
   obtain⟨c51,ec51,h⟩:=atm h
   have f52:=ib_eql (k:=.i64) ec51
   simp[hh,m2_1,f47,f50,f52,dc42,-indexAddrF,-intBin]
   apply hk'
   refine Runs.cut (fun ρ H n=>∃ (v53:AVal),((ρ 1=int link∧ρ 2=pA n1 2∧ρ 5=v53∧ρ 6=int i14∧ρ 7=int k31∧ρ 37=bool c51)∧H (n1,2)=some ⟨6,[bC false b]⟩)∧Sep H n [oE [.c,.c] intC2 v53 l32] [(n1,2)]) (by refine⟨v33,by simp[hh,m2_1,f47,f50,f52,dc42,-indexAddrF,-intBin],sp⟩) ?_
   clear hh m2_1
   rintro ρ H n54 ⟨v53,⟨hh,m2_1⟩,sp⟩
   refine Runs.ite (b:=c51) (by simp[hh,m2_1]) (fun dc51=>?_) (fun dc51=>?_)
   ·replace h:=h.1 dc51
    refine zF fun k' hk'=>?_
    obtain⟨hb55,h⟩:=h
    obtain⟨l56,el56,h⟩:=atm h
    simp[hh,m2_1,dc51,-appendF]
    refine bind_append [] [] [[int i14,int k31]] [intC2 (i14,k31)] sp kd_83 (by simp) (by simp) (by simp) (by simp[-one1,o1x]) (rows_one (Fill.v _ (Fill.v _ Fill.nil))) (by simp) (by simpa using hb55) ?_
    rintro v57 H58 n59 sp hfr60 hle61
    replace sp:Sep H58 n59 [oE [.c,.c] intC2 v57 l56] [(n1,2)]:=Sep.ap el56 sp
    have m2_1:=(hfr60 _ (by simp)).trans m2_1
    simp[hh,m2_1,dc51]
    apply hk'
    refine Runs.cut (fun ρ H n=>∃ (v63:AVal),((ρ 1=int link∧ρ 2=pA n1 2∧ρ 5=v63∧ρ 6=int i14∧ρ 7=int k31)∧H (n1,2)=some ⟨6,[bC false b]⟩)∧Sep H n [oE [.c,.c] intC2 v63 l56] [(n1,2)]) (by refine⟨v57,by simp[hh,m2_1,dc51],sp⟩) ?_
    clear hh m2_1
    rintro ρ H n64 ⟨v63,⟨hh,m2_1⟩,sp⟩
    refine Runs.inBlock ?_
    refine zF fun k' hk'=>?_
    obtain⟨hb65,h⟩:=h
    obtain⟨v66,ev66,h⟩:=atm h
    have f67:=ib_add hb65 ev66
    simp[hh,m2_1,f67,-intBin]
    apply hk'
    refine IH35 (v66,l56) _ _ _ h (by refine⟨v63,by simp[hh,m2_1],sp⟩)
   replace h:=h.2 dc51
   refine Runs.skip ?_
   refine Runs.inBlock ?_
   refine zF fun k' hk'=>?_
   obtain⟨hb68,h⟩:=h
   obtain⟨v69,ev69,h⟩:=atm h
   have f70:=ib_add hb68 ev69
   simp[hh,m2_1,f70,dc51,-intBin]
   apply hk'
   refine IH35 (v69,l32) _ _ _ h (by refine⟨v53,by simp[hh,m2_1,dc51],sp⟩)
  replace h:=h.2 dc42
  refine Runs.exit rfl ?_
  refine Runs.inBlock ?_
  refine zF fun k' hk'=>?_
  obtain⟨hb71,h⟩:=h
  obtain⟨v72,ev72,h⟩:=atm h
  have f73:=ib_add hb71 ev72
  simp[hh,m2_1,f73,dc42,-intBin]
  apply hk'
  refine IH18 (v72,l32) _ _ _ h (by refine⟨v33,by simp[hh,m2_1,dc42],sp⟩)
 replace h:=h.2 dc22
 refine Runs.exit rfl ?_
 refine zE fun k' hk'=>?_
 simp[hh,m2_1,dc22]
 apply hk'
 exact Runs.ret1 (v:=v16) Tryz.func146 Tryz.results146 (by simp[hh,m2_1,dc22]) (hQ _ _ _ _ (Sep.sub (ids':=[]) sp (by simp)) ⟨l15,h,rfl⟩)
theorem l2Ports_ok (b:Big) (link:Int) (hp:l2Ports_pre b link):OwnS Tryz.prog 146 [.agg (bC false b),int link] (.s [.c,.c]) (fun r=>r = .list true ((l2Ports b link).map intC2)):=(l2Ports_walk b link _ (l2Ports_vc b link hp)).mono (by rintro _ ⟨_,rfl,rfl⟩;rfl)
theorem e49:Ent Tryz.prog 49:=Ent.of Tryz.func49 (by kernel_rfl) rfl
theorem pointsOf_walk (b:Big) (link:Int) (Z:((List (Int × Int)) × (List Str))→Prop) (h:pointsOf_wp b link Z):OwnS Tryz.prog 49 [.agg (bC false b),int link] (.t [.s [.c,.c],.s [.c]]) (fun r=>∃ y:(List (Int × Int)) × (List Str),Z y∧r = .tup [.list true (y.1.map intC2),.list true (y.2.map strC)]):=by
 unfold pointsOf_wp at h
 have sp:Sep noHeap 0 [] []:=Sep.nil (by simp)
 refine OwnS.of Tryz.func49 rfl Tryz.ntmps49 (by simp) fun Q hQ=>?_
 refine Runs.cut (fun ρ H n=>(ρ 0 = .agg (bC false b)∧ρ 1=int link)∧Sep H n [] []) (by refine⟨by simp ,sp⟩) ?_
 rintro ρ H n1 ⟨hh,sp⟩
 refine zE fun k' hk'=>?_
 simp[hh]
 apply hk'
 refine Runs.cut (fun ρ H n=>((ρ 1=int link∧ρ 2=pA n1 2)∧H (n1,2)=some ⟨6,[bC false b]⟩)∧Sep H n [] [(n1,2)]) (by refine⟨by simp[hh],sp.var⟩) ?_
 clear hh
 rintro ρ H n3 ⟨⟨hh,m2_1⟩,sp⟩
 refine zE fun k' hk'=>?_
 simp[hh,m2_1]
 apply hk'
 refine Runs.cut (fun ρ H n=>∃ (v6 v7:AVal),((ρ 1=int link∧ρ 2=pA n1 2∧ρ 6=v7∧ρ 7=v6)∧H (n1,2)=some ⟨6,[bC false b]⟩)∧Sep H n [oS v6 ([]:List Str),oE [.c,.c] intC2 v7 ([]:List (Int × Int))] [(n1,2)]) (by refine⟨.arr (n3+1,15) 0 0 0,.arr (n3,14) 0 0 0,by simp[hh,m2_1],(Sep.addEmpty (l:=[.c]) (Sep.addEmpty (l:=[.c,.c]) sp))⟩) ?_
 clear hh m2_1
 rintro ρ H n8 ⟨v6,v7,⟨hh,m2_1⟩,sp⟩
 refine Runs.seq ?_
 refine zE fun k' hk'=>?_
 obtain⟨len9,elen9,h⟩:=atm h
 have f10:=fun H=>len_list (H:=H) (fr:=false) (f:=(GNode.cells false)) kd_31 elen9
 simp[hh,m2_1,f10,-lenF]
 apply hk'
 refine Runs.block ?_
 refine Runs.loopW h (fun (sJ:Int × (List (Int × Int))) ρ H n=>match sJ with | (v20,l21)=>∃ (v22 v23:AVal),((ρ 1=int link∧ρ 2=pA n1 2∧ρ 6=v23∧ρ 7=v22∧ρ 17 = .list false (b.nodes.map (GNode.cells false))∧ρ 18=int len9∧ρ 19=int v20)∧H (n1,2)=some ⟨6,[bC false b]⟩)∧Sep H n [oS v22 ([]:List Str),oE [.c,.c] intC2 v23 l21] [(n1,2)]) (by refine⟨v6,v7,by simp[hh,m2_1],sp⟩) ?_
 clear hh m2_1
 rintro⟨v20,l21⟩ ρ H n24 K h ⟨v22,v23,⟨hh,m2_1⟩,sp⟩ IH25
 refine zE fun k' hk'=>?_
 obtain⟨c27,ec27,h⟩:=atm h
 have f28:=ib_lss (k:=.i64) ec27
 simp[hh,m2_1,f28,-intBin]
 apply hk'
 refine Runs.seq ?_
 refine Runs.ite (b:=c27) (by simp[hh,m2_1]) (fun dc27=>?_) (fun dc27=>?_)
 ·replace h:=h.1 dc27
  refine Runs.skip ?_
  refine Runs.seq ?_
  refine Runs.block ?_
  refine zE fun k' hk'=>?_
  obtain⟨hb29,h⟩:=h
  obtain⟨x30,ex30,h⟩:=atm h
  have f31:=fun H=>ix_list (H:=H) (fr:=false) (f:=(GNode.cells false)) (k:=.i64) kd_31 (fun _=>rfl) hb29 ex30
  simp[hh,m2_1,f31,dc27,-indexAddrF]
  apply hk'
  refine Runs.cut (fun ρ H n=>∃ (v33 v34:AVal),((ρ 1=int link∧ρ 2=pA n1 2∧ρ 6=v34∧ρ 7=v33∧ρ 8=int v20∧ρ 9=pA n24 9∧ρ 17 = .list false (b.nodes.map (GNode.cells false))∧ρ 18=int len9∧ρ 19=int v20)∧H (n1,2)=some ⟨6,[bC false b]⟩∧H (n24,9)=some ⟨3,[[int x30.control,int x30.parent,.list false (x30.links.map intC)]]⟩)∧Sep H n [oS v33 ([]:List Str),oE [.c,.c] intC2 v34 l21] [(n24,9),(n1,2)]) (by refine⟨v22,v23,by simp[hh,m2_1,f31,dc27,-indexAddrF],sp.var⟩) ?_
  clear hh m2_1
  rintro ρ H n35 ⟨v33,v34,⟨hh,m2_1,m9_31⟩,sp⟩
  refine zE fun k' hk'=>?_
  obtain⟨len36,elen36,h⟩:=atm h
  have f37:=fun H=>len_list (H:=H) (fr:=false) (f:=intC) kd_24 elen36
  simp[hh,m2_1,m9_31,f37,-lenF]
  apply hk'
  refine Runs.block ?_
  refine Runs.loopW h (fun (sJ:Int × (List (Int × Int))) ρ H n=>match sJ with | (v47,l48)=>∃ (v49 v50:AVal),((ρ 1=int link∧ρ 2=pA n1 2∧ρ 6=v50∧ρ 7=v49∧ρ 8=int v20∧ρ 17 = .list false (b.nodes.map (GNode.cells false))∧ρ 18=int len9∧ρ 19=int v20∧ρ 25 = .list false (x30.links.map intC)∧ρ 26=int len36∧ρ 27=int v47)∧H (n1,2)=some ⟨6,[bC false b]⟩)∧Sep H n [oS v49 ([]:List Str),oE [.c,.c] intC2 v50 l48] [(n1,2)]) (by refine⟨v33,v34,by simp[hh,m2_1,m9_31],(Sep.sub sp (by simp +contextual))⟩) ?_
  clear hh m2_1 m9_31
  rintro⟨v47,l48⟩ ρ H n51 K h ⟨v49,v50,⟨hh,m2_1⟩,sp⟩ IH52
  refine zE fun k' hk'=>?_
  obtain⟨c54,ec54,h⟩:=atm h
  have f55:=ib_lss (k:=.i64) ec54
  simp[hh,m2_1,f55,-intBin]
  apply hk'
  refine Runs.seq ?_
  refine Runs.ite (b:=c54) (by simp[hh,m2_1]) (fun dc54=>?_) (fun dc54=>?_)
  ·replace h:=h.1 dc54
   refine Runs.skip ?_
   refine Runs.seq ?_
   refine Runs.block ?_
   refine zE fun k' hk'=>?_
   obtain⟨hb56,h⟩:=h
   obtain⟨x57,ex57,h⟩:=atm h
   have f58:=fun H=>ix_list (H:=H) (fr:=false) (f:=intC) (k:=.i64) kd_24 (fun _=>rfl) hb56 ex57
   simp[hh,m2_1,f58,dc54,-indexAddrF]
   apply hk'
   refine zE fun k' hk'=>?_
   obtain⟨c59,ec59,h⟩:=atm h
   have f60:=ib_eql (k:=.i64) ec59
   simp[hh,m2_1,f60,dc54,-intBin]
   apply hk'
   refine Runs.ite (b:=c59) (by simp[hh,m2_1,dc54]) (fun dc59=>?_) (fun dc59=>?_)
   ·replace h:=h.1 dc59
    refine zF fun k' hk'=>?_
    obtain⟨hb61,h⟩:=h
    obtain⟨l62,el62,h⟩:=atm h
    simp[hh,m2_1,dc54,dc59,-appendF]
    refine bind_append [] [oS v49 ([]:List Str)] [[int v20,int v47]] [intC2 (v20,v47)] sp.f1 kd_83 (by simp) (by simp) (by simp) (by simp[-one1,o1x]) (rows_one (Fill.v _ (Fill.v _ Fill.nil))) (by simp) (by simpa using hb61) ?_
    rintro v63 H64 n65 sp hfr66 hle67
    replace sp:Sep H64 n65 [oE [.c,.c] intC2 v63 l62,oS v49 ([]:List Str)] [(n1,2)]:=Sep.ap el62 sp
    have m2_1:=(hfr66 _ (by simp)).trans m2_1
    simp[hh,m2_1,dc54,dc59]
    apply hk'
    refine Runs.cut (fun ρ H n=>∃ (v69 v70:AVal),((ρ 1=int link∧ρ 2=pA n1 2∧ρ 6=v69∧ρ 7=v70∧ρ 8=int v20∧ρ 17 = .list false (b.nodes.map (GNode.cells false))∧ρ 18=int len9∧ρ 19=int v20∧ρ 25 = .list false (x30.links.map intC)∧ρ 26=int len36∧ρ 27=int v47)∧H (n1,2)=some ⟨6,[bC false b]⟩)∧Sep H n [oE [.c,.c] intC2 v69 l62,oS v70 ([]:List Str)] [(n1,2)]) (by refine⟨v63,v49,by simp[hh,m2_1,dc54,dc59],sp⟩) ?_
    clear hh m2_1
    rintro ρ H n71 ⟨v69,v70,⟨hh,m2_1⟩,sp⟩
    refine Runs.inBlock ?_
    refine zF fun k' hk'=>?_
    obtain⟨hb72,h⟩:=h
    obtain⟨v73,ev73,h⟩:=atm h
    have f74:=ib_add hb72 ev73
    simp[hh,m2_1,f74,-intBin]
    apply hk'
    refine IH52 (v73,l62) _ _ _ h (by refine⟨v70,v69,by simp[hh,m2_1],sp.f1⟩)
   replace h:=h.2 dc59
   refine Runs.skip ?_
   refine Runs.inBlock ?_
   refine zF fun k' hk'=>?_
   obtain⟨hb75,h⟩:=h
   obtain⟨v76,ev76,h⟩:=atm h
   have f77:=ib_add hb75 ev76
   simp[hh,m2_1,f77,dc54,dc59,-intBin]
   apply hk'
   refine IH52 (v76,l48) _ _ _ h (by refine⟨v49,v50,by simp[hh,m2_1,dc54,dc59],sp⟩)
  replace h:=h.2 dc54
  refine Runs.exit rfl ?_
  refine Runs.inBlock ?_
  refine zF fun k' hk'=>?_
  obtain⟨hb78,h⟩:=h
  obtain⟨v79,ev79,h⟩:=atm h
  have f80:=ib_add hb78 ev79
  simp[hh,m2_1,f80,dc54,-intBin]
  apply hk'
  refine IH25 (v79,l48) _ _ _ h (by refine⟨v49,v50,by simp[hh,m2_1,dc54],sp⟩)
 replace h:=h.2 dc27
 refine Runs.exit rfl ?_
 refine Runs.seq ?_
 refine zE fun k' hk'=>?_
 obtain⟨len81,elen81,h⟩:=atm h
 have f82:=fun H=>len_list (H:=H) (fr:=false) (f:=Wire.cells) kd_32 elen81
 simp[hh,m2_1,f82,dc27,-lenF]
 apply hk'
 refine Runs.block ?_
 refine Runs.loopW h (fun (sJ:Int × (List Str)) ρ H n=>match sJ with | (v92,l93)=>∃ (v94 v95:AVal),(ρ 1=int link∧ρ 6=v95∧ρ 7=v94∧ρ 44 = .list false (b.inner.map Wire.cells)∧ρ 45=int len81∧ρ 46=int v92)∧Sep H n [oS v94 l93,oE [.c,.c] intC2 v95 l21] []) (by refine⟨v22,v23,by simp[hh,m2_1,dc27],(Sep.sub sp (by simp +contextual))⟩) ?_
 clear hh m2_1
 rintro⟨v92,l93⟩ ρ H n96 K h ⟨v94,v95,hh,sp⟩ IH97
 refine zE fun k' hk'=>?_
 obtain⟨c99,ec99,h⟩:=atm h
 have f100:=ib_lss (k:=.i64) ec99
 simp[hh,f100,-intBin]
 apply hk'
 refine Runs.seq ?_
 refine Runs.ite (b:=c99) (by simp[hh]) (fun dc99=>?_) (fun dc99=>?_)
 ·replace h:=h.1 dc99
  refine Runs.skip ?_
  refine Runs.seq ?_
  refine Runs.block ?_
  refine zE fun k' hk'=>?_
  obtain⟨hb101,h⟩:=h
  obtain⟨x102,ex102,h⟩:=atm h
  have f103:=fun H=>ix_list (H:=H) (fr:=false) (f:=Wire.cells) (k:=.i64) kd_32 (fun _=>rfl) hb101 ex102
  simp[hh,f103,dc99,-indexAddrF]
  apply hk'
  refine Runs.cut (fun ρ H n=>∃ (v105 v106:AVal),((ρ 1=int link∧ρ 6=v106∧ρ 7=v105∧ρ 13=pA n96 13∧ρ 44 = .list false (b.inner.map Wire.cells)∧ρ 45=int len81∧ρ 46=int v92)∧H (n96,13)=some ⟨2,[[str x102.name,int x102.link]]⟩)∧Sep H n [oS v105 l93,oE [.c,.c] intC2 v106 l21] [(n96,13)]) (by refine⟨v94,v95,by simp[hh,f103,dc99,-indexAddrF],sp.var⟩) ?_
  clear hh
  rintro ρ H n107 ⟨v105,v106,⟨hh,m13_103⟩,sp⟩
  refine zE fun k' hk'=>?_
  obtain⟨c108,ec108,h⟩:=atm h
  have f109:=ib_eql (k:=.i64) ec108
  simp[hh,m13_103,f109,-intBin]
  apply hk'
  refine Runs.ite (b:=c108) (by simp[hh,m13_103]) (fun dc108=>?_) (fun dc108=>?_)
  ·replace h:=h.1 dc108
   refine zF fun k' hk'=>?_
   obtain⟨hb110,h⟩:=h
   obtain⟨l111,el111,h⟩:=atm h
   simp[hh,m13_103,dc108,-appendF]
   refine bind_append [] [oE [.c,.c] intC2 v106 l21] [[str x102.name]] [strC x102.name] sp kd_25 (by simp) (by simp) (by simp) (by simp[-one1,o1x]) (rows_one (Fill.v _ Fill.nil)) (by simp) (by simpa using hb110) ?_
   rintro v112 H113 n114 sp hfr115 hle116
   replace sp:Sep H113 n114 [oS v112 l111,oE [.c,.c] intC2 v106 l21] [(n96,13)]:=Sep.ap el111 sp
   have m13_103:=(hfr115 _ (by simp)).trans m13_103
   simp[hh,m13_103,dc108]
   apply hk'
   refine Runs.cut (fun ρ H n=>∃ (v118 v119:AVal),(ρ 1=int link∧ρ 6=v119∧ρ 7=v118∧ρ 44 = .list false (b.inner.map Wire.cells)∧ρ 45=int len81∧ρ 46=int v92)∧Sep H n [oS v118 l111,oE [.c,.c] intC2 v119 l21] []) (by refine⟨v112,v106,by simp[hh,m13_103,dc108],(Sep.sub sp (by simp +contextual))⟩) ?_
   clear hh m13_103
   rintro ρ H n120 ⟨v118,v119,hh,sp⟩
   refine Runs.inBlock ?_
   refine zF fun k' hk'=>?_
   obtain⟨hb121,h⟩:=h
   obtain⟨v122,ev122,h⟩:=atm h
   have f123:=ib_add hb121 ev122
   simp[hh,f123,-intBin]
   apply hk'
   refine IH97 (v122,l111) _ _ _ h (by refine⟨v118,v119,by simp[hh],sp⟩)
  replace h:=h.2 dc108
  refine Runs.skip ?_
  refine Runs.inBlock ?_
  refine zF fun k' hk'=>?_
  obtain⟨hb124,h⟩:=h
  obtain⟨v125,ev125,h⟩:=atm h
  have f126:=ib_add hb124 ev125
  simp[hh,m13_103,f126,dc108,-intBin]
  apply hk'
  refine IH97 (v125,l93) _ _ _ h (by refine⟨v105,v106,by simp[hh,m13_103,dc108],(Sep.sub sp (by simp +contextual))⟩)
 replace h:=h.2 dc99
 refine Runs.exit rfl ?_
 refine zE fun k' hk'=>?_
 simp[hh,dc99]
 apply hk'
 exact Runs.ret2 (v:=v95) (w:=v94) Tryz.func49 Tryz.results49 (by simp[hh,dc99]) (by simp[hh,dc99]) (hQ _ _ _ _ (Sep.sub (ids':=[]) (Sep.packT (Fill.own (Fill.own Fill.nil)) sp.f1) (by simp)) ⟨(l21,l93),h,rfl⟩)
theorem pointsOf_ok (b:Big) (link:Int) (hp:pointsOf_pre b link):OwnS Tryz.prog 49 [.agg (bC false b),int link] (.t [.s [.c,.c],.s [.c]]) (fun r=>r = .tup [.list true (((pointsOf b link).1).map intC2),.list true (((pointsOf b link).2).map strC)]):=(pointsOf_walk b link _ (pointsOf_vc b link hp)).mono (by rintro _ ⟨_,rfl,rfl⟩;rfl)
theorem e108:Ent Tryz.prog 108:=Ent.of Tryz.func108 (by kernel_rfl) rfl
theorem isClosedB_walk (b:Big) (Z:Bool→Prop) (h:isClosedB_wp b Z):PureC Tryz.prog 108 [.agg (bC false b)] (fun r=>∃ y:Bool,Z y∧r=bool y):=by
 unfold isClosedB_wp at h
 refine PureC.of Tryz.func108 rfl Tryz.ntmps108 (by simp) fun Q hQ=>?_
 refine Runs.cut (fun ρ H n=>ρ 0 = .agg (bC false b)) (by simp) ?_
 rintro ρ H n1 hh
 refine zE fun k' hk'=>?_
 simp[hh]
 apply hk'
 refine Runs.cut (fun ρ H n=>ρ 1=pA n1 1∧H (n1,1)=some ⟨6,[bC false b]⟩) (by refine⟨?_,?_⟩<;>simp[hh]) ?_
 clear hh
 rintro ρ H n3 ⟨hh,m1_1⟩
 refine zE fun k' hk'=>?_
 obtain⟨J4,hJ5,hr6⟩:=h
 have fin8:∀ (sJ:Bool) (ρ:Env) (H:Heap) (n:Nat),J4 sJ→(match sJ with | b7=>ρ 2=bool b7)→Runs Tryz.prog 108 13 k' ρ H n Q:=by
  rintro b7 ρ H n9 h hh
  replace h:=hr6 _ h
  apply hk'
  exact Runs.ret1 (v:=bool b7) Tryz.func108 Tryz.results108 (by simp[hh]) (hQ _ _ _ _ (.of (.v _)) ⟨b7,h,rfl⟩)
 replace h:=hJ5
 obtain⟨len10,elen10,h⟩:=atm h
 have f11:=fun H=>len_list (H:=H) (fr:=false) (f:=intC) kd_24 elen10
 obtain⟨c12,ec12,h⟩:=atm h
 have f13:=ib_eql (k:=.i64) ec12
 rcases Bool.eq_false_or_eq_true c12 with dc12 | dc12
 ·replace h:=h.1 dc12
  obtain⟨len14,elen14,h⟩:=atm h
  have f15:=fun H=>len_list (H:=H) (fr:=false) (f:=Wire.cells) kd_32 elen14
  obtain⟨c16,ec16,h⟩:=atm h
  have f17:=ib_eql (k:=.i64) ec16
  simp[hh,m1_1,f11,f13,f15,f17,dc12,-intBin,-lenF]
  exact fin8 (c16) _ _ _ h (by simp[hh,m1_1,f11,f13,f15,f17,dc12,-intBin,-lenF])
 replace h:=h.2 dc12
 simp[hh,m1_1,f11,f13,dc12,-intBin,-lenF]
 exact fin8 (false) _ _ _ h (by simp[hh,m1_1,f11,f13,dc12,-intBin,-lenF])
theorem isClosedB_ok (b:Big) (hp:isClosedB_pre b):PureC Tryz.prog 108 [.agg (bC false b)] (fun r=>r=bool (isClosedB b)):=(isClosedB_walk b _ (isClosedB_vc b hp)).mono (by rintro _ ⟨_,rfl,rfl⟩;rfl)
theorem e45:Ent Tryz.prog 45:=Ent.of Tryz.func45 (by kernel_rfl) rfl
theorem agentB_walk (sig:List Control) (b:Big) (Z:Bool→Prop) (h:agentB_wp sig b Z):PureC Tryz.prog 45 [.list false (sig.map Control.cells),.agg (bC false b)] (fun r=>∃ y:Bool,Z y∧r=bool y):=by
 unfold agentB_wp at h
 refine PureC.of Tryz.func45 rfl Tryz.ntmps45 (by simp) fun Q hQ=>?_
 refine Runs.cut (fun ρ H n=>(ρ 0 = .list false (sig.map Control.cells)∧ρ 1 = .agg (bC false b))) (by simp) ?_
 rintro ρ H n1 hh
 refine zE fun k' hk'=>?_
 simp[hh]
 apply hk'
 refine Runs.cut (fun ρ H n=>(ρ 0 = .list false (sig.map Control.cells)∧ρ 3=pA n1 3)∧H (n1,3)=some ⟨6,[bC false b]⟩) (by refine⟨?_,?_⟩<;>simp[hh]) ?_
 clear hh
 rintro ρ H n3 ⟨hh,m3_1⟩
 refine zE fun k' hk'=>?_
 obtain⟨J4,hJ5,hr6⟩:=h
 have fin8:∀ (sJ:Bool) (ρ:Env) (H:Heap) (n:Nat),J4 sJ→(match sJ with | b7=>ρ 4=bool b7)→Runs Tryz.prog 45 12 k' ρ H n Q:=by
  rintro b7 ρ H n9 h hh
  replace h:=hr6 _ h
  apply hk'
  exact Runs.ret1 (v:=bool b7) Tryz.func45 Tryz.results45 (by simp[hh]) (hQ _ _ _ _ (.of (.v _)) ⟨b7,h,rfl⟩)
 replace h:=hJ5
 obtain⟨hb10,h⟩:=h
 obtain⟨r11,er11,h⟩:=atm h
 simp[hh,m3_1]
 refine RunK.callA Ty_ok (IsBigraph_ok sig b hb10) e107 (.cons (argC false sig) (.cons (argB false b) .nil)) (by decide) (by decide) rfl (by simp[hh,m3_1]) ?_
 rintro _ rfl
 rw[← er11]
 rcases Bool.eq_false_or_eq_true r11 with dr11 | dr11
 ·replace h:=h.1 dr11
  obtain⟨hb12,h⟩:=h
  obtain⟨r13,er13,h⟩:=atm h
  simp[hh,m3_1,dr11]
  refine RunK.callA Ty_ok (isClosedB_ok b hb12) e108 (.cons (argB false b) .nil) (by decide) (by decide) rfl (by simp[hh,m3_1,dr11]) ?_
  rintro _ rfl
  rw[← er13]
  simp[hh,m3_1,dr11]
  exact fin8 (r13) _ _ _ h (by simp[hh,m3_1,dr11])
 replace h:=h.2 dr11
 simp[hh,m3_1,dr11]
 exact fin8 (false) _ _ _ h (by simp[hh,m3_1,dr11])
theorem agentB_ok (sig:List Control) (b:Big) (hp:agentB_pre sig b):PureC Tryz.prog 45 [.list false (sig.map Control.cells),.agg (bC false b)] (fun r=>r=bool (agentB sig b)):=(agentB_walk sig b _ (agentB_vc sig b hp)).mono (by rintro _ ⟨_,rfl,rfl⟩;rfl)
theorem e36:Ent Tryz.prog 36:=Ent.of Tryz.func36 (by kernel_rfl) rfl
theorem l2Agent_walk (sig:List Control) (b:Big) (Z:Bool→Prop) (h:l2Agent_wp sig b Z):PureC Tryz.prog 36 [.list false (sig.map Control.cells),.agg (bC false b)] (fun r=>∃ y:Bool,Z y∧r=bool y):=by
 unfold l2Agent_wp at h
 refine PureC.of Tryz.func36 rfl Tryz.ntmps36 (by simp) fun Q hQ=>?_
 refine Runs.cut (fun ρ H n=>(ρ 0 = .list false (sig.map Control.cells)∧ρ 1 = .agg (bC false b))) (by simp) ?_
 rintro ρ H n1 hh
 refine zE fun k' hk'=>?_
 simp[hh]
 apply hk'
 refine Runs.cut (fun ρ H n=>(ρ 0 = .list false (sig.map Control.cells)∧ρ 3=pA n1 3)∧H (n1,3)=some ⟨6,[bC false b]⟩) (by refine⟨?_,?_⟩<;>simp[hh]) ?_
 clear hh
 rintro ρ H n3 ⟨hh,m3_1⟩
 refine zE fun k' hk'=>?_
 obtain⟨J4,hJ5,hr6⟩:=h
 have fin8:∀ (sJ:Bool) (ρ:Env) (H:Heap) (n:Nat),J4 sJ→(match sJ with | b7=>ρ 4=bool b7)→Runs Tryz.prog 36 20 k' ρ H n Q:=by
  rintro b7 ρ H n9 h hh
  replace h:=hr6 _ h
  apply hk'
  exact Runs.ret1 (v:=bool b7) Tryz.func36 Tryz.results36 (by simp[hh]) (hQ _ _ _ _ (.of (.v _)) ⟨b7,h,rfl⟩)
 replace h:=hJ5
 obtain⟨hb10,h⟩:=h
 obtain⟨r11,er11,h⟩:=atm h
 simp[hh,m3_1]
 refine RunK.callA Ty_ok (l2Good_ok sig b hb10) e39 (.cons (argC false sig) (.cons (argB false b) .nil)) (by decide) (by decide) rfl (by simp[hh,m3_1]) ?_
 rintro _ rfl
 rw[← er11]
 rcases Bool.eq_false_or_eq_true r11 with dr11 | dr11
 ·replace h:=h.1 dr11
  obtain⟨len12,elen12,h⟩:=atm h
  have f13:=fun H=>len_list (H:=H) (fr:=false) (f:=intC) kd_24 elen12
  obtain⟨c14,ec14,h⟩:=atm h
  have f15:=ib_eql (k:=.i64) ec14
  rcases Bool.eq_false_or_eq_true c14 with dc14 | dc14
  ·replace h:=h.1 dc14
   obtain⟨len16,elen16,h⟩:=atm h
   have f17:=fun H=>len_list (H:=H) (fr:=false) (f:=Wire.cells) kd_32 elen16
   obtain⟨c18,ec18,h⟩:=atm h
   have f19:=ib_eql (k:=.i64) ec18
   simp[hh,m3_1,f13,f15,f17,f19,dr11,dc14,-intBin,-lenF]
   exact fin8 (c18) _ _ _ h (by simp[hh,m3_1,f13,f15,f17,f19,dr11,dc14,-intBin,-lenF])
  replace h:=h.2 dc14
  simp[hh,m3_1,f13,f15,dr11,dc14,-intBin,-lenF]
  exact fin8 (false) _ _ _ h (by simp[hh,m3_1,f13,f15,dr11,dc14,-intBin,-lenF])
 replace h:=h.2 dr11
 simp[hh,m3_1,dr11]
 exact fin8 (false) _ _ _ h (by simp[hh,m3_1,dr11])
theorem l2Agent_ok (sig:List Control) (b:Big) (hp:l2Agent_pre sig b):PureC Tryz.prog 36 [.list false (sig.map Control.cells),.agg (bC false b)] (fun r=>r=bool (l2Agent sig b)):=(l2Agent_walk sig b _ (l2Agent_vc sig b hp)).mono (by rintro _ ⟨_,rfl,rfl⟩;rfl)
end Go.Ab.Vg
