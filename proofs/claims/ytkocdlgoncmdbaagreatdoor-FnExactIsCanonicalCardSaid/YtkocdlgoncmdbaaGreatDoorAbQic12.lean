/- Merged texts (12 of 17) of the proof that ends in Icy: Kt Kgw L2kw O. -/
import Derived.Test.YtkocdlgoncmdbaaGreatDoorAbQic11
/- IsCanonical (statement 17): when two bigraphs are the same, number by number; both sides and the law. -/
namespace Go.Ab.Vg
set_option linter.unusedSimpArgs false
set_option linter.unusedVariables false
abbrev eqInts (a b:List Int):Bool:=decide (a=b)
abbrev eqInts_pre (a b:List Int):Prop:=a.length≤1048576∧b.length≤1048576
def eqInts_wp (s1:List Int) (s2:List Int) (Z:Bool→Prop):Prop:=
 ∀ len2:Int,len2=(s1.length:Int)→∀ len4:Int,len4=(s2.length:Int)→∀ c6:Bool,c6=decide (len2 ≠ len4)→((c6=true→Z false)∧(c6=false→∀ len8:Int,len8=(s1.length:Int)→loopW (σ:=Int) (fun v12 K15=>∀ c16:Bool,c16=decide (v12<len8)→((c16=true→(0≤v12∧v12<s1.length)∧∀ x19:Int,x19=at' s1 v12→(0≤v12∧v12<s2.length)∧∀ x22:Int,x22=at' s2 v12→∀ c24:Bool,c24=decide (x19 ≠ x22)→((c24=true→Z false)∧(c24=false→(I64 (v12+1))∧∀ v27:Int,v27=v12+1→K15 (v27))))∧(c16=false→Z true))) (0)))
theorem eqInts_vc (a b:List Int) (h:eqInts_pre a b):eqInts_wp a b (fun y=>y=eqInts a b):=by
 unfold eqInts_wp
 obtain⟨h1,h2⟩:=h
 simp only[forall_eq,decide_eq_true_eq,decide_eq_false_iff_not]
 refine⟨fun h3=>?_,fun h3=>?_⟩
 ·rw[eqInts,decide_eq_false]
  rintro rfl
  exact h3 rfl
 ·have hl:a.length=b.length:=by omega
  refine loopW.up1 a.length (fun i=>∀ j:Nat,j<i→at' a (j:Int)=at' b (j:Int)) (fun j hj=>by omega) ?_
  rintro i K hi hI IH
  refine⟨fun h4=>⟨⟨by omega,by omega⟩,⟨by omega,by omega⟩,fun h5=>?_,fun h5=>⟨by simp only[I64];omega,IH (by omega) fun j hj=>?_⟩⟩,fun h4=>?_⟩
  ·rw[eqInts,decide_eq_false]
   rintro rfl
   exact h5 rfl
  ·rcases Nat.lt_or_ge j i with h6 | h6
   ·exact hI j h6
   ·rw[show j=i by omega];exact Classical.not_not.1 h5
  ·rw[eqInts,decide_eq_true]
   exact ext_at hl fun j hj=>hI j (by omega)
abbrev eqWires (a b:List Wire):Bool:=decide (a=b)
abbrev eqWires_pre (a b:List Wire):Prop:=a.length≤1048576∧b.length≤1048576
def eqWires_wp (s1:List Wire) (s2:List Wire) (Z:Bool→Prop):Prop:=
 ∀ len2:Int,len2=(s1.length:Int)→∀ len4:Int,len4=(s2.length:Int)→∀ c6:Bool,c6=decide (len2 ≠ len4)→((c6=true→Z false)∧(c6=false→∀ len8:Int,len8=(s1.length:Int)→loopW (σ:=Int) (fun v12 K15=>∀ c16:Bool,c16=decide (v12<len8)→((c16=true→(0≤v12∧v12<s1.length)∧∀ x19:Wire,x19=at' s1 v12→(0≤v12∧v12<s2.length)∧∀ x22:Wire,x22=at' s2 v12→∀ c24:Bool,c24 = !(decide (x19=x22))→((c24=true→Z false)∧(c24=false→(I64 (v12+1))∧∀ v26:Int,v26=v12+1→K15 (v26))))∧(c16=false→Z true))) (0)))
theorem eqWires_vc (a b:List Wire) (h:eqWires_pre a b):eqWires_wp a b (fun y=>y=eqWires a b):=by
 unfold eqWires_wp
 obtain⟨h1,h2⟩:=h
 simp only[forall_eq,decide_eq_true_eq,decide_eq_false_iff_not]
 refine⟨fun h3=>?_,fun h3=>?_⟩
 ·rw[eqWires,decide_eq_false]
  rintro rfl
  exact h3 rfl
 ·have hl:a.length=b.length:=by omega
  refine loopW.up1 a.length (fun i=>∀ j:Nat,j<i→at' a (j:Int)=at' b (j:Int)) (fun j hj=>by omega) ?_
  rintro i K hi hI IH
  refine⟨fun h4=>⟨⟨by omega,by omega⟩,⟨by omega,by omega⟩,fun h5=>?_,fun h5=>⟨by simp only[I64];omega,IH (by omega) fun j hj=>?_⟩⟩,fun h4=>?_⟩
  ·rw[eqWires,decide_eq_false]
   rintro rfl
   simp at h5
  ·rcases Nat.lt_or_ge j i with h6 | h6
   ·exact hI j h6
   ·rw[show j=i by omega];simpa using h5
  ·rw[eqWires,decide_eq_true]
   exact ext_at hl fun j hj=>hI j (by omega)
abbrev sameN (m n:GNode):Bool:=decide (m=n)
abbrev sameN_pre (m n:GNode):Prop:=m.links.length≤1048576∧n.links.length≤1048576
def sameN_wp (m:GNode) (n_:GNode) (Z:Bool→Prop):Prop:=
 joinW (fun (J5:Bool→Prop)=>∀ c11:Bool,c11=decide (m.control=n_.control)→((c11=true→∀ c13:Bool,c13=decide (m.parent=n_.parent)→((c13=true→(eqInts_pre m.links n_.links)∧∀ r16:Bool,r16=eqInts m.links n_.links→J5 (r16))∧(c13=false→J5 (false))))∧(c11=false→J5 (false)))) (fun b8=>Z b8)
theorem sameN_vc (m n:GNode) (h:sameN_pre m n):sameN_wp m n (fun y=>y=sameN m n):=by
 unfold sameN_wp
 simp only[forall_eq,decide_eq_true_eq,decide_eq_false_iff_not]
 obtain⟨c,p,l⟩:=m
 obtain⟨c2,p2,l2⟩:=n
 refine⟨fun x=>x=sameN ⟨c,p,l⟩ ⟨c2,p2,l2⟩,⟨fun h1=>⟨fun h2=>⟨h,?_⟩,fun h2=>?_⟩,fun h1=>?_⟩,fun x hx=>hx⟩
 ·simp only at h1 h2;simp[eqInts,sameN,h1,h2]
 ·simp only at h2;simp[sameN,h2]
 ·simp only at h1;simp[sameN,h1]
def eqF (a b:List GNode) (f:GNode→GNode→Bool) (_:GNode→GNode→Prop):Bool:=decide (a.length=b.length) && (List.range a.length).all fun i=>f (at' a (i:Int)) (at' b (i:Int))
structure eqF_pre (a b:List GNode) (f:GNode→GNode→Bool) (D:GNode→GNode→Prop):Prop where
 la:a.length≤1048576
 lb:b.length≤1048576
 d:∀ x ∈ a,∀ y ∈ b,D x y
def eqF_wp (s1:List GNode) (s2:List GNode) (f2:GNode→GNode→Bool) (D2:GNode→GNode→Prop) (Z:Bool→Prop):Prop:=
 ∀ len2:Int,len2=(s1.length:Int)→∀ len4:Int,len4=(s2.length:Int)→∀ c6:Bool,c6=decide (len2 ≠ len4)→((c6=true→Z false)∧(c6=false→∀ len8:Int,len8=(s1.length:Int)→loopW (σ:=Int) (fun v12 K15=>∀ c16:Bool,c16=decide (v12<len8)→((c16=true→(0≤v12∧v12<s1.length)∧∀ x19:GNode,x19=at' s1 v12→(0≤v12∧v12<s2.length)∧∀ x24:GNode,x24=at' s2 v12→(D2 x19 x24)∧∀ r29:Bool,r29=f2 x19 x24→((r29=true→(I64 (v12+1))∧∀ v31:Int,v31=v12+1→K15 (v31))∧(r29=false→Z false)))∧(c16=false→Z true))) (0)))
theorem eqF_vc (a b:List GNode) (f:GNode→GNode→Bool) (D:GNode→GNode→Prop) (h:eqF_pre a b f D):eqF_wp a b f D (fun y=>y=eqF a b f D):=by
 unfold eqF_wp
 obtain⟨h1,h2,hd⟩:=h
 simp only[forall_eq,decide_eq_true_eq,decide_eq_false_iff_not]
 refine⟨fun h3=>?_,fun h3=>?_⟩
 ·rw[eqF,decide_eq_false (by omega)];rfl
 ·have hl:a.length=b.length:=by omega
  refine loopW.up1 a.length (fun i=>∀ j:Nat,j<i→f (at' a (j:Int)) (at' b (j:Int))=true) (fun j hj=>by omega) ?_
  rintro i K hi hI IH
  refine⟨fun h4=>⟨⟨by omega,by omega⟩,⟨by omega,by omega⟩,hd _ (at_mem (by omega)) _ (at_mem (by omega)),fun h5=>⟨by simp only[I64];omega,IH (by omega) fun j hj=>?_⟩,fun h5=>?_⟩,fun h4=>?_⟩
  ·rcases Nat.lt_or_ge j i with h6 | h6
   ·exact hI j h6
   ·rw[show j=i by omega];exact h5
  ·symm;rw[eqF,Bool.and_eq_false_iff];right
   rw[List.all_eq_false]
   exact⟨i,List.mem_range.2 (by omega),by rw[h5];simp⟩
  ·rw[eqF,decide_eq_true hl,Bool.true_and];symm
   rw[List.all_eq_true]
   exact fun j hj=>hI j (by have:=List.mem_range.1 hj;omega)
theorem eqF_same {a b:List GNode} {D:GNode→GNode→Prop}:eqF a b (fun z0 z1=>sameN z0 z1) D=decide (a=b):=by
 rw[Bool.eq_iff_iff,decide_eq_true_eq,eqF,Bool.and_eq_true,decide_eq_true_eq,List.all_eq_true]
 refine⟨fun ⟨h1,h2⟩=>ext_at h1 fun k hk=>by simpa[sameN] using h2 k (List.mem_range.2 hk),?_⟩
 rintro rfl
 exact⟨rfl,fun _ _=>by simp[sameN]⟩
abbrev sameB (a b:Big):Bool:=decide (a=b)
abbrev sameB_pre (a b:Big):Prop:=EqB a∧EqB b
def sameB_wp (a:Big) (b:Big) (Z:Bool→Prop):Prop:=
 joinW (fun (J5:Bool→Prop)=>∀ c11:Bool,c11=decide (a.roots=b.roots)→((c11=true→∀ c13:Bool,c13=decide (a.edges=b.edges)→((c13=true→(eqInts_pre a.sites b.sites)∧∀ r16:Bool,r16=eqInts a.sites b.sites→((r16=true→(eqStrs_pre a.outer b.outer)∧∀ r18:Bool,r18=eqStrs a.outer b.outer→((r18=true→(eqWires_pre a.inner b.inner)∧∀ r20:Bool,r20=eqWires a.inner b.inner→((r20=true→(eqF_pre a.nodes b.nodes (fun z0 z1=>sameN z0 z1) (fun z0 z1=>sameN_pre z0 z1))∧∀ r22:Bool,r22=eqF a.nodes b.nodes (fun z0 z1=>sameN z0 z1) (fun z0 z1=>sameN_pre z0 z1)→J5 (r22))∧(r20=false→J5 (false))))∧(r18=false→J5 (false))))∧(r16=false→J5 (false))))∧(c13=false→J5 (false))))∧(c11=false→J5 (false)))) (fun b8=>Z b8)
theorem sameB_vc (a b:Big) (h:sameB_pre a b):sameB_wp a b (fun y=>y=sameB a b):=by
 unfold sameB_wp
 obtain⟨⟨p1,p2,p3,p4,p5⟩,q1,q2,q3,q4,q5⟩:=h
 simp only[forall_eq,decide_eq_true_eq,decide_eq_false_iff_not]
 obtain⟨r,ns,s,e,o,w⟩:=a
 obtain⟨r2,ns2,s2,e2,o2,w2⟩:=b
 refine⟨fun x=>x=sameB ⟨r,ns,s,e,o,w⟩ ⟨r2,ns2,s2,e2,o2,w2⟩,⟨fun h1=>⟨fun h2=>⟨⟨p3,q3⟩,fun h3=>⟨⟨p4,q4⟩,fun h4=>⟨⟨p5,q5⟩,fun h5=>⟨⟨p1,q1,fun x hx y hy=>⟨p2 x hx,q2 y hy⟩⟩,?_⟩,fun h5=>?_⟩,fun h4=>?_⟩,fun h3=>?_⟩,fun h2=>?_⟩,fun h1=>?_⟩,fun x hx=>hx⟩
 ·rw[eqF_same];simp only at h1 h2 h3 h4 h5;simp[sameB,h1,h2,h3,h4,h5]
 ·simp only at h5;simp[sameB,h5]
 ·simp only at h4;simp[sameB,h4]
 ·simp only at h3;simp[sameB,h3]
 ·simp only at h2;simp[sameB,h2]
 ·simp only at h1;simp[sameB,h1]
abbrev sameS (a b:Big):Bool:=decide (a=b)
abbrev sameS_pre (a b:Big):Prop:=EqB a∧EqB b
def sameS_wp (a:Big) (b:Big) (Z:Bool→Prop):Prop:=
 joinW (fun (J5:Bool→Prop)=>∀ c101:Bool,c101=decide (a.roots ≠ b.roots)→((c101=true→J5 (true))∧(c101=false→∀ c103:Bool,c103=decide (a.edges ≠ b.edges)→((c103=true→J5 (true))∧(c103=false→∀ len105:Int,len105=(a.nodes.length:Int)→∀ len107:Int,len107=(b.nodes.length:Int)→∀ c109:Bool,c109=decide (len105 ≠ len107)→((c109=true→J5 (true))∧(c109=false→∀ len111:Int,len111=(a.outer.length:Int)→∀ len113:Int,len113=(b.outer.length:Int)→∀ c115:Bool,c115=decide (len111 ≠ len113)→((c115=true→J5 (true))∧(c115=false→∀ len117:Int,len117=(a.inner.length:Int)→∀ len119:Int,len119=(b.inner.length:Int)→∀ c121:Bool,c121=decide (len117 ≠ len119)→((c121=true→J5 (true))∧(c121=false→(sameZ_pre a.sites b.sites)∧∀ r124:Bool,r124=sameZ a.sites b.sites→J5 ((!r124))))))))))))) (fun b8=>((b8=true→Z false)∧(b8=false→loopW (σ:=Int) (fun i13 K16=>∀ len17:Int,len17=(a.nodes.length:Int)→∀ c19:Bool,c19=decide (i13<len17)→((c19=true→joinW (fun (J21:Bool→Prop)=>(0≤i13∧i13<a.nodes.length)∧∀ x31:GNode,x31=at' a.nodes i13→(0≤i13∧i13<b.nodes.length)∧∀ x34:GNode,x34=at' b.nodes i13→∀ c36:Bool,c36=decide (x31.control ≠ x34.control)→((c36=true→J21 (true))∧(c36=false→(0≤i13∧i13<a.nodes.length)∧∀ x39:GNode,x39=at' a.nodes i13→(0≤i13∧i13<b.nodes.length)∧∀ x43:GNode,x43=at' b.nodes i13→∀ c46:Bool,c46=decide (x31.parent ≠ x34.parent)→((c46=true→J21 (true))∧(c46=false→(0≤i13∧i13<a.nodes.length)∧∀ x49:GNode,x49=at' a.nodes i13→(0≤i13∧i13<b.nodes.length)∧∀ x53:GNode,x53=at' b.nodes i13→(sameZ_pre x31.links x34.links)∧∀ r57:Bool,r57=sameZ x31.links x34.links→J21 ((!r57))))))) (fun b24=>((b24=true→Z false)∧(b24=false→(I64 (i13+1))∧∀ v28:Int,v28=i13+1→K16 (v28)))))∧(c19=false→loopW (σ:=Int) (fun i60 K63=>∀ len64:Int,len64=(a.outer.length:Int)→∀ c66:Bool,c66=decide (i60<len64)→((c66=true→(0≤i60∧i60<a.outer.length)∧∀ x69:Str,x69=at' a.outer i60→(0≤i60∧i60<b.outer.length)∧∀ x72:Str,x72=at' b.outer i60→∀ c74:Bool,c74=decide (x69 ≠ x72)→((c74=true→Z false)∧(c74=false→(I64 (i60+1))∧∀ v78:Int,v78=i60+1→K63 (v78))))∧(c66=false→loopW (σ:=Int) (fun i82 K85=>∀ len86:Int,len86=(a.inner.length:Int)→∀ c88:Bool,c88=decide (i82<len86)→((c88=true→(0≤i82∧i82<a.inner.length)∧∀ x91:Wire,x91=at' a.inner i82→(0≤i82∧i82<b.inner.length)∧∀ x94:Wire,x94=at' b.inner i82→∀ c96:Bool,c96 = !(decide (x91=x94))→((c96=true→Z false)∧(c96=false→(I64 (i82+1))∧∀ v99:Int,v99=i82+1→K85 (v99))))∧(c88=false→Z true))) (0)))) (0)))) (0))))
theorem sameS_no {a b:Big} (h:a ≠ b):false=sameS a b:=by rw[sameS,decide_eq_false h]
theorem sameS_vc (a b:Big) (h:sameS_pre a b):sameS_wp a b (fun y=>y=sameS a b):=by
 unfold sameS_wp
 obtain⟨⟨p1,p2,p3,p4,p5⟩,q1,q2,q3,q4,q5⟩:=h
 simp only[forall_eq,decide_eq_true_eq,decide_eq_false_iff_not]
 refine⟨fun x=>(x=true→a ≠ b)∧(x=false→a.roots=b.roots∧a.edges=b.edges∧a.nodes.length=b.nodes.length∧a.outer.length=b.outer.length∧a.inner.length=b.inner.length∧a.sites=b.sites),⟨fun h1=>⟨fun _ e=>h1 (e ▸ rfl),fun h=>by cases h⟩,fun h1=>⟨fun h2=>⟨fun _ e=>h2 (e ▸ rfl),fun h=>by cases h⟩,fun h2=>⟨fun h3=>⟨fun _ e=>h3 (e ▸ rfl),fun h=>by cases h⟩,fun h3=>⟨fun h4=>⟨fun _ e=>h4 (e ▸ rfl),fun h=>by cases h⟩,fun h4=>⟨fun h5=>⟨fun _ e=>h5 (e ▸ rfl),fun h=>by cases h⟩,fun h5=>⟨p3,fun h6 e=>?_,fun h6=>?_⟩⟩⟩⟩⟩⟩,?_⟩
 ·subst e;simp[sameZ] at h6
 ·exact⟨Classical.not_not.1 h1,Classical.not_not.1 h2,by omega,by omega,by omega,by simpa[sameZ] using h6⟩
 rintro x ⟨hx1,hx2⟩
 refine⟨fun h1=>sameS_no (hx1 h1),fun h1=>?_⟩
 obtain⟨e1,e2,e3,e4,e5,e6⟩:=hx2 h1
 refine loopW.up1 a.nodes.length (fun i=>∀ j:Nat,j<i→at' a.nodes (j:Int)=at' b.nodes (j:Int)) (fun j hj=>by omega) ?_
 rintro i K hi hI IH
 refine⟨fun h2=>?_,fun h2=>?_⟩
 ·have hb1:0≤(i:Int)∧(i:Int)<a.nodes.length:=by omega
  have hb2:0≤(i:Int)∧(i:Int)<b.nodes.length:=by omega
  refine⟨fun x=>(x=true→a ≠ b)∧(x=false→at' a.nodes (i:Int)=at' b.nodes (i:Int)),⟨hb1,hb2,fun h3=>⟨fun _ e=>h3 (e ▸ rfl),fun h=>by cases h⟩,fun h3=>⟨hb1,hb2,fun h4=>⟨fun _ e=>h4 (e ▸ rfl),fun h=>by cases h⟩,fun h4=>⟨hb1,hb2,p2 _ (at_mem hb1),fun h5 e=>?_,fun h5=>?_⟩⟩⟩,?_⟩
  ·subst e;simp[sameZ] at h5
  ·have h6:(at' a.nodes (i:Int)).links=(at' b.nodes (i:Int)).links:=by simpa[sameZ] using h5
   have h3:=Classical.not_not.1 h3
   have h4:=Classical.not_not.1 h4
   generalize at' a.nodes (i:Int)=m at *
   generalize at' b.nodes (i:Int)=n at *
   obtain⟨c,p,l⟩:=m
   obtain⟨c2,p2,l2⟩:=n
   simp only at h3 h4 h6
   rw[h3,h4,h6]
  rintro x ⟨hx1,hx2⟩
  refine⟨fun h3=>sameS_no (hx1 h3),fun h3=>⟨by simp only[I64];omega,IH (by omega) fun j hj=>?_⟩⟩
  rcases Nat.lt_or_ge j i with h6 | h6
  ·exact hI j h6
  ·rw[show j=i by omega];exact hx2 h3
 ·have en:a.nodes=b.nodes:=ext_at e3 fun k hk=>hI k (by omega)
  refine loopW.up1 a.outer.length (fun i=>∀ j:Nat,j<i→at' a.outer (j:Int)=at' b.outer (j:Int)) (fun j hj=>by omega) ?_
  rintro i K2 hi2 hI2 IH2
  refine⟨fun h3=>⟨⟨by omega,by omega⟩,⟨by omega,by omega⟩,fun h4=>sameS_no fun e=>h4 (e ▸ rfl),fun h4=>⟨by simp only[I64];omega,IH2 (by omega) fun j hj=>?_⟩⟩,fun h3=>?_⟩
  ·rcases Nat.lt_or_ge j i with h6 | h6
   ·exact hI2 j h6
   ·rw[show j=i by omega];exact Classical.not_not.1 h4
  have eo:a.outer=b.outer:=ext_at e4 fun k hk=>hI2 k (by omega)
  refine loopW.up1 a.inner.length (fun i=>∀ j:Nat,j<i→at' a.inner (j:Int)=at' b.inner (j:Int)) (fun j hj=>by omega) ?_
  rintro i K3 hi3 hI3 IH3
  refine⟨fun h4=>⟨⟨by omega,by omega⟩,⟨by omega,by omega⟩,fun h5=>sameS_no fun e=>?_,fun h5=>⟨by simp only[I64];omega,IH3 (by omega) fun j hj=>?_⟩⟩,fun h4=>?_⟩
  ·subst e;simp at h5
  ·rcases Nat.lt_or_ge j i with h6 | h6
   ·exact hI3 j h6
   ·rw[show j=i by omega];simpa using h5
  ·have ei:a.inner=b.inner:=ext_at e5 fun k hk=>hI3 k (by omega)
   symm;rw[sameS,decide_eq_true_eq]
   obtain⟨r,ns,s,e,o,w⟩:=a
   obtain⟨r2,ns2,s2,e2',o2,w2⟩:=b
   simp only at e1 e2 en eo ei e6
   rw[e1,e2,en,eo,ei,e6]
theorem canonEq {sig:Sig} {b:Big} (hs:SmallB sig b) (hv:ValidB sig b):EqB (canonZ b):=by
 have hc:=canO hv
 have h1:=hv.len
 refine⟨?_,fun x hx=>?_,?_,hs.outerLen,?_⟩
 ·simp only[canonZ,List.length_map,hc.len];omega
 ·simp only[canonZ,List.mem_map] at hx
  obtain⟨k,hk,rfl⟩:=hx
  have:=hv.links3 (hc.rng k hk)
  simp only[canNode,List.length_map];omega
 ·simp only[canonZ,List.length_map];exact hs.sitesLen
 ·simp only[canonZ,List.length_map];exact hs.innerLen
noncomputable abbrev isCanon (sig:Sig) (b:Big):Bool:=goodB sig b && decide (b=canonZ b)
abbrev isCanon_pre (sig:Sig) (b:Big):Prop:=SmallB sig b
def isCanon_wp (sig:List Control) (b:Big) (Z:Bool→Prop):Prop:=
 joinW (fun (J4:Bool→Prop)=>(SmallB sig b)∧∀ r11:Bool,r11=goodB sig b→((r11=true→(canonZ_pre b)∧∀ r13:Big,r13=canonZ b→(sameB_pre b r13)∧∀ r15:Bool,r15=sameB b r13→J4 (r15))∧(r11=false→J4 (false)))) (fun b7=>Z b7)
theorem isCanon_vc (sig:Sig) (b:Big) (h:isCanon_pre sig b):isCanon_wp sig b (fun y=>y=isCanon sig b):=by
 unfold isCanon_wp
 simp only[forall_eq,decide_eq_true_eq,decide_eq_false_iff_not]
 refine⟨fun x=>x=isCanon sig b,⟨h,fun h1=>⟨⟨sig,goodB_valid h1⟩,⟨eqOf h,canonEq h (goodB_valid h1)⟩,by rw[isCanon,h1,Bool.true_and]⟩,fun h1=>by rw[isCanon,h1,Bool.false_and]⟩,fun x hx=>hx⟩
noncomputable abbrev sIsCanon (sig:Sig) (b:Big):Bool:=isCanon sig b
abbrev sIsCanon_pre (sig:Sig) (b:Big):Prop:=SmallB sig b
def sIsCanon_wp (sig:List Control) (b:Big) (Z:Bool→Prop):Prop:=
 joinW (fun (J4:Bool→Prop)=>(SmallB sig b)∧∀ r11:Bool,r11=goodB sig b→((r11=true→(canonS_pre b)∧∀ r13:Big,r13=canonS b→(sameS_pre b r13)∧∀ r15:Bool,r15=sameS b r13→J4 (r15))∧(r11=false→J4 (false)))) (fun b7=>Z b7)
theorem sIsCanon_vc (sig:Sig) (b:Big) (h:sIsCanon_pre sig b):sIsCanon_wp sig b (fun y=>y=sIsCanon sig b):=by
 unfold sIsCanon_wp
 simp only[forall_eq,decide_eq_true_eq,decide_eq_false_iff_not]
 refine⟨fun x=>x=isCanon sig b,⟨h,fun h1=>⟨⟨sig,goodB_valid h1⟩,⟨eqOf h,canonEq h (goodB_valid h1)⟩,by rw[isCanon,h1,Bool.true_and]⟩,fun h1=>by rw[isCanon,h1,Bool.false_and]⟩,fun x hx=>hx⟩
abbrev lawIs (_:Sig) (_:Big):Bool:=true
abbrev lawIs_pre (sig:Sig) (b:Big):Prop:=HugeS sig∧HugeB b
def lawIs_wp (aSig:List Control) (aB:Big) (Z:Bool→Prop):Prop:=
 (((0:Int)≤1048576∧(1048576:Int)≤1048576)∧HugeS aSig)∧∀ r5:Int,r5=szS szC aSig 1048576→∀ c6:Bool,c6=decide (r5<0)→((c6=true→Z true)∧(c6=false→(((0:Int)≤r5∧(r5:Int)≤1048576)∧HugeB aB)∧∀ r9:Int,r9=szB aB r5→∀ c10:Bool,c10=decide (r9<0)→((c10=true→Z true)∧(c10=false→(toControlS_pre aSig)∧∀ r13:List Control,r13=toControlS aSig→(toBigraph_pre aB)∧∀ r15:Big,r15=toBigraph aB→(sIsCanon_pre r13 r15)∧∀ r17:Bool,r17=sIsCanon r13 r15→(toControlS_pre aSig)∧∀ r20:List Control,r20=toControlS aSig→(toBigraph_pre aB)∧∀ r22:Big,r22=toBigraph aB→(isCanon_pre r20 r22)∧∀ r26:Bool,r26=isCanon r20 r22→∀ c27:Bool,c27 = !(r26 == r17)→((c27=true→Z false)∧(c27=false→(toControlS_pre aSig)∧∀ r30:List Control,r30=toControlS aSig→(r20.length≤1048576)∧∀ r32:Bool,r32=decide (r20=r30)→((r32=true→(toBigraph_pre aB)∧∀ r34:Big,r34=toBigraph aB→(EqB r22)∧∀ r36:Bool,r36=decide (r22=r34)→((r36=true→Z true)∧(r36=false→Z false)))∧(r32=false→Z false))))))))
theorem lawIs_vc (sig:Sig) (b:Big) (h:lawIs_pre sig b):lawIs_wp sig b (fun y=>y=lawIs sig b):=by
 unfold lawIs_wp
 simp only[forall_eq,decide_eq_true_eq,decide_eq_false_iff_not,toControlS,toBigraph,sIsCanon]
 obtain⟨h1,h2⟩:=h
 refine⟨⟨by omega,h1⟩,fun _=>trivial,fun s1=>?_⟩
 have l1:=szS_le szC sig 1048576 (by omega)
 refine⟨⟨by omega,h2⟩,fun _=>trivial,fun s2=>?_⟩
 have a2:SmallB sig b:=smallB (left:=1048576) (by omega) (by omega) (by omega) (by omega) h2
 have a1:=a2.sigLen
 exact⟨a1,toOf a2,a2,a1,toOf a2,a2,fun h=>by simp at h,fun _=>⟨a1,a1,fun _=>⟨toOf a2,eqOf a2,fun _=>trivial,fun h=>absurd trivial h⟩,fun h=>absurd trivial h⟩⟩
end Go.Ab.Vg
/- Walks by program for YtkocdlgoncmdbaaGreatDoorAbKg. -/
namespace Go.Ab.Vg
open Go.Proofs
set_option maxRecDepth 100000
set_option linter.unusedSimpArgs false
set_option linter.unusedVariables false
attribute [local simp] GNode.cells Wire.cells intC sliceC strC bC pA
theorem e129:Ent Tryz.prog 129:=Ent.of Tryz.func129 (by kernel_rfl) rfl
theorem noneZ_walk (many:Int) (Z:(List Int)→Prop) (h:noneZ_wp many Z):OwnS Tryz.prog 129 [int many] (.s [.c]) (fun r=>∃ y:List Int,Z y∧r = .list true (y.map intC)):=by
 unfold noneZ_wp at h
 have sp:Sep noHeap 0 [] []:=Sep.nil (by simp)
 refine OwnS.of Tryz.func129 rfl Tryz.ntmps129 (by simp) fun Q hQ=>?_
 refine Runs.cut (fun ρ H n=>ρ 0=int many∧Sep H n [] []) (by refine⟨by simp[],sp⟩) ?_
 rintro ρ H n1 ⟨hh,sp⟩
 refine zE fun k' hk'=>?_
 simp[hh]
 apply hk'
 refine zE fun k' hk'=>?_
 simp[hh]
 apply hk'
 refine Runs.cut (fun ρ H n=>∃ (v3:AVal),(ρ 0=int many∧ρ 3=v3)∧Sep H n [oI v3 ([]:List Int)] []) (by refine⟨.arr (n1,5) 0 0 0,by simp[hh],(Sep.addEmpty (l:=[.c]) sp)⟩) ?_
 clear hh
 rintro ρ H n4 ⟨v3,hh,sp⟩
 refine Runs.seq ?_
 refine zE fun k' hk'=>?_
 simp[hh]
 apply hk'
 refine Runs.block ?_
 refine Runs.loopW h (fun (sJ:Int × (List Int)) ρ H n=>match sJ with | (i12,l13)=>∃ (v14:AVal),(ρ 0=int many∧ρ 3=v14∧ρ 4=int i12)∧Sep H n [oI v14 l13] []) (by refine⟨v3,by simp[hh],sp⟩) ?_
 clear hh
 rintro⟨i12,l13⟩ ρ H n15 K h ⟨v14,hh,sp⟩ IH16
 refine Runs.seq ?_
 refine zE fun k' hk'=>?_
 obtain⟨c18,ec18,h⟩:=atm h
 have f19:=ib_lss (k:=.i64) ec18
 simp[hh,f19,-intBin]
 apply hk'
 refine Runs.ite (b:=c18) (by simp[hh]) (fun dc18=>?_) (fun dc18=>?_)
 ·replace h:=h.1 dc18
  refine Runs.skip ?_
  refine Runs.seq ?_
  refine Runs.block ?_
  refine zF fun k' hk'=>?_
  obtain⟨hb20,h⟩:=h
  obtain⟨l21,el21,h⟩:=atm h
  simp[hh,dc18,-appendF]
  refine bind_append [] [] [[int (-1)]] [intC (-1)] sp kd_24 (by simp) (by simp) (by simp) (by simp[-one1,o1x]) (rows_one (Fill.v _ Fill.nil)) (by simp) (by simpa using hb20) ?_
  rintro v22 H23 n24 sp hfr25 hle26
  replace sp:Sep H23 n24 [oI v22 l21] []:=Sep.ap el21 sp
  simp[hh,dc18]
  apply hk'
  refine Runs.cut (fun ρ H n=>∃ (v28:AVal),(ρ 0=int many∧ρ 3=v28∧ρ 4=int i12)∧Sep H n [oI v28 l21] []) (by refine⟨v22,by simp[hh,dc18],sp⟩) ?_
  clear hh
  rintro ρ H n29 ⟨v28,hh,sp⟩
  refine Runs.inBlock ?_
  refine zF fun k' hk'=>?_
  obtain⟨hb30,h⟩:=h
  obtain⟨v31,ev31,h⟩:=atm h
  have f32:=ib_add hb30 ev31
  simp[hh,f32,-intBin]
  apply hk'
  refine IH16 (v31,l21) _ _ _ h (by refine⟨v28,by simp[hh],sp⟩)
 replace h:=h.2 dc18
 refine Runs.exit rfl ?_
 refine zE fun k' hk'=>?_
 simp[hh,dc18]
 apply hk'
 exact Runs.ret1 (v:=v14) Tryz.func129 Tryz.results129 (by simp[hh,dc18]) (hQ _ _ _ _ (Sep.sub (ids':=[]) sp (by simp)) ⟨l13,h,rfl⟩)
theorem noneZ_ok (many:Int) (hp:noneZ_pre many):OwnS Tryz.prog 129 [int many] (.s [.c]) (fun r=>r = .list true ((noneZ many).map intC)):=(noneZ_walk many _ (noneZ_vc many hp)).mono (by rintro _ ⟨_,rfl,rfl⟩;rfl)
theorem e134:Ent Tryz.prog 134:=Ent.of Tryz.func134 (by kernel_rfl) rfl
theorem ownZ_walk (l:List Int) (Z:(List Int)→Prop) (h:ownZ_wp l Z):OwnS Tryz.prog 134 [.list false (l.map intC)] (.s [.c]) (fun r=>∃ y:List Int,Z y∧r = .list true (y.map intC)):=by
 unfold ownZ_wp at h
 have sp:Sep noHeap 0 [] []:=Sep.nil (by simp)
 refine OwnS.of Tryz.func134 rfl Tryz.ntmps134 (by simp) fun Q hQ=>?_
 refine Runs.cut (fun ρ H n=>ρ 0 = .list false (l.map intC)∧Sep H n [] []) (by refine⟨by simp ,sp⟩) ?_
 rintro ρ H n1 ⟨hh,sp⟩
 refine zE fun k' hk'=>?_
 simp[hh]
 apply hk'
 refine zE fun k' hk'=>?_
 obtain⟨hb3,h⟩:=h
 obtain⟨l4,el4,h⟩:=atm h
 simp[hh,-appendF]
 refine bind_append0 (l.map intC) (Sep.addEmpty (l:=[.c]) sp) (by simp) kd_24 (by simp) (by simp) (by simp[srcOf]) (by simp[-one1,o1x]) (by simpa using hb3) ?_
 rintro v5 H6 n7 sp hfr8 hle9
 replace sp:Sep H6 n7 [oI v5 l4] []:=by refine Sep.ap el4 ?_;exact sp
 simp[hh]
 apply hk'
 refine Runs.cut (fun ρ H n=>∃ (v11:AVal),ρ 2=v11∧Sep H n [oI v11 l4] []) (by refine⟨v5,by simp[hh],sp⟩) ?_
 clear hh
 rintro ρ H n12 ⟨v11,hh,sp⟩
 exact Runs.ret1 (v:=v11) Tryz.func134 Tryz.results134 (by simp[hh]) (hQ _ _ _ _ (Sep.sub (ids':=[]) sp (by simp)) ⟨l4,h,rfl⟩)
theorem ownZ_ok (l:List Int) (hp:ownZ_pre l):OwnS Tryz.prog 134 [.list false (l.map intC)] (.s [.c]) (fun r=>r = .list true ((ownZ l).map intC)):=(ownZ_walk l _ (ownZ_vc l hp)).mono (by rintro _ ⟨_,rfl,rfl⟩;rfl)
theorem e166:Ent Tryz.prog 166:=Ent.of Tryz.func166 (by kernel_rfl) rfl
theorem cntZ_walk (edges:List Int) (Z:Int→Prop) (h:cntZ_wp edges Z):PureC Tryz.prog 166 [.list false (edges.map intC)] (fun r=>∃ y:Int,Z y∧r=int y):=by
 unfold cntZ_wp at h
 refine PureC.of Tryz.func166 rfl Tryz.ntmps166 (by simp) fun Q hQ=>?_
 refine Runs.cut (fun ρ H n=>ρ 0 = .list false (edges.map intC)) (by simp) ?_
 rintro ρ H n1 hh
 refine zE fun k' hk'=>?_
 simp[hh]
 apply hk'
 refine zE fun k' hk'=>?_
 simp[hh]
 apply hk'
 refine Runs.seq ?_
 refine zE fun k' hk'=>?_
 simp[hh]
 apply hk'
 refine Runs.block ?_
 refine Runs.loopW h (fun (sJ:Int × Int) ρ H n=>match sJ with | (many5,i6)=>(ρ 0 = .list false (edges.map intC)∧ρ 3=int many5∧ρ 4=int i6)) (by simp[hh]) ?_
 clear hh
 rintro⟨many5,i6⟩ ρ H n7 K h hh IH8
 refine Runs.seq ?_
 refine zE fun k' hk'=>?_
 obtain⟨len10,elen10,h⟩:=atm h
 have f11:=fun H=>len_list (H:=H) (fr:=false) (f:=intC) kd_24 elen10
 obtain⟨c12,ec12,h⟩:=atm h
 have f13:=ib_lss (k:=.i64) ec12
 simp[hh,f11,f13,-intBin,-lenF]
 apply hk'
 refine Runs.ite (b:=c12) (by simp[hh]) (fun dc12=>?_) (fun dc12=>?_)
 ·replace h:=h.1 dc12
  refine Runs.skip ?_
  refine Runs.seq ?_
  refine Runs.block ?_
  refine zE fun k' hk'=>?_
  obtain⟨hb14,h⟩:=h
  obtain⟨x15,ex15,h⟩:=atm h
  have f16:=fun H=>ix_list (H:=H) (fr:=false) (f:=intC) (k:=.i64) kd_24 (fun _=>rfl) hb14 ex15
  obtain⟨c17,ec17,h⟩:=atm h
  have f18:=ib_geq (k:=.i64) ec17
  simp[hh,f16,f18,dc12,-indexAddrF,-intBin]
  apply hk'
  refine Runs.ite (b:=c17) (by simp[hh,dc12]) (fun dc17=>?_) (fun dc17=>?_)
  ·replace h:=h.1 dc17
   refine zF fun k' hk'=>?_
   obtain⟨hb19,h⟩:=h
   obtain⟨v20,ev20,h⟩:=atm h
   have f21:=ib_add hb19 ev20
   simp[hh,f21,dc12,dc17,-intBin]
   apply hk'
   refine Runs.inBlock ?_
   refine zF fun k' hk'=>?_
   obtain⟨hb22,h⟩:=h
   obtain⟨v23,ev23,h⟩:=atm h
   have f24:=ib_add hb22 ev23
   simp[hh,f24,dc12,dc17,-intBin]
   apply hk'
   refine Runs.cut (fun ρ H n=>(ρ 0 = .list false (edges.map intC)∧ρ 3=int v20∧ρ 4=int v23)) (by simp[hh,f24,dc12,dc17,-intBin]) ?_
   clear hh
   rintro ρ H n25 hh
   refine IH8 (v20,v23) _ _ _ h (by simp[hh])
  replace h:=h.2 dc17
  refine Runs.skip ?_
  refine Runs.inBlock ?_
  refine zF fun k' hk'=>?_
  obtain⟨hb26,h⟩:=h
  obtain⟨v27,ev27,h⟩:=atm h
  have f28:=ib_add hb26 ev27
  simp[hh,f28,dc12,dc17,-intBin]
  apply hk'
  refine IH8 (many5,v27) _ _ _ h (by simp[hh,dc12,dc17])
 replace h:=h.2 dc12
 refine Runs.exit rfl ?_
 refine zE fun k' hk'=>?_
 simp[hh,dc12]
 apply hk'
 exact Runs.ret1 (v:=int many5) Tryz.func166 Tryz.results166 (by simp[hh,dc12]) (hQ _ _ _ _ (.of (.v _)) ⟨many5,h,rfl⟩)
theorem cntZ_ok (edges:List Int) (hp:cntZ_pre edges):PureC Tryz.prog 166 [.list false (edges.map intC)] (fun r=>r=int (cntZ edges)):=(cntZ_walk edges _ (cntZ_vc edges hp)).mono (by rintro _ ⟨_,rfl,rfl⟩;rfl)
theorem e155:Ent Tryz.prog 155:=Ent.of Tryz.func155 (by kernel_rfl) rfl
theorem parZ_walk (parent:Int) (places:List Int) (Z:Int→Prop) (h:parZ_wp parent places Z):PureC Tryz.prog 155 [int parent,.list false (places.map intC)] (fun r=>∃ y:Int,Z y∧r=int y):=by
 unfold parZ_wp at h
 refine PureC.of Tryz.func155 rfl Tryz.ntmps155 (by simp) fun Q hQ=>?_
 refine Runs.cut (fun ρ H n=>(ρ 0=int parent∧ρ 1 = .list false (places.map intC))) (by simp) ?_
 rintro ρ H n1 hh
 refine zE fun k' hk'=>?_
 simp[hh]
 apply hk'
 refine Runs.seq ?_
 refine zE fun k' hk'=>?_
 obtain⟨c2,ec2,h⟩:=atm h
 have f3:=ib_lss (k:=.i64) ec2
 simp[hh,f3,-intBin]
 apply hk'
 refine Runs.ite (b:=c2) (by simp[hh]) (fun dc2=>?_) (fun dc2=>?_)
 ·replace h:=h.1 dc2
  refine zE fun k' hk'=>?_
  obtain⟨hb4,h⟩:=h
  obtain⟨v5,ev5,h⟩:=atm h
  have f6:=ib_sub hb4 ev5
  simp[hh,f6,dc2,-intBin]
  apply hk'
  exact Runs.ret1 (v:=int v5) Tryz.func155 Tryz.results155 (by simp[hh,dc2]) (hQ _ _ _ _ (.of (.v _)) ⟨v5,h,rfl⟩)
 replace h:=h.2 dc2
 refine Runs.skip ?_
 refine zE fun k' hk'=>?_
 obtain⟨hb7,h⟩:=h
 obtain⟨x8,ex8,h⟩:=atm h
 have f9:=fun H=>ix_list (H:=H) (fr:=false) (f:=intC) (k:=.i64) kd_24 (fun _=>rfl) hb7 ex8
 obtain⟨hb10,h⟩:=h
 obtain⟨v11,ev11,h⟩:=atm h
 have f12:=ib_add hb10 ev11
 simp[hh,f9,f12,dc2,-indexAddrF,-intBin]
 apply hk'
 exact Runs.ret1 (v:=int v11) Tryz.func155 Tryz.results155 (by simp[hh,dc2]) (hQ _ _ _ _ (.of (.v _)) ⟨v11,h,rfl⟩)
theorem parZ_ok (parent:Int) (places:List Int) (hp:parZ_pre parent places):PureC Tryz.prog 155 [int parent,.list false (places.map intC)] (fun r=>r=int (parZ parent places)):=(parZ_walk parent places _ (parZ_vc parent places hp)).mono (by rintro _ ⟨_,rfl,rfl⟩;rfl)
theorem e154:Ent Tryz.prog 154:=Ent.of Tryz.func154 (by kernel_rfl) rfl
theorem l5Told_walk (b:Big) (links:List Int) (edges:List Int) (Z:((List Int) × (List Int))→Prop) (h:l5Told_wp b links edges Z):OwnS Tryz.prog 154 [.agg (bC false b),.list false (links.map intC),.list false (edges.map intC)] (.t [.s [.c],.s [.c]]) (fun r=>∃ y:(List Int) × (List Int),Z y∧r = .tup [.list true (y.1.map intC),.list true (y.2.map intC)]):=by
 unfold l5Told_wp at h
 have sp:Sep noHeap 0 [] []:=Sep.nil (by simp)
 refine OwnS.of Tryz.func154 rfl Tryz.ntmps154 (by simp) fun Q hQ=>?_
 refine Runs.cut (fun ρ H n=>(ρ 0 = .agg (bC false b)∧ρ 1 = .list false (links.map intC)∧ρ 2 = .list false (edges.map intC))∧Sep H n [] []) (by refine⟨by simp ,sp⟩) ?_
 rintro ρ H n1 ⟨hh,sp⟩
 refine zE fun k' hk'=>?_
 simp[hh]
 apply hk'
 refine Runs.cut (fun ρ H n=>((ρ 1 = .list false (links.map intC)∧ρ 2 = .list false (edges.map intC)∧ρ 3=pA n1 3)∧H (n1,3)=some ⟨6,[bC false b]⟩)∧Sep H n [] [(n1,3)]) (by refine⟨by simp[hh],sp.var⟩) ?_
 clear hh
 rintro ρ H n3 ⟨⟨hh,m3_1⟩,sp⟩
 refine zE fun k' hk'=>?_
 simp[hh,m3_1]
 apply hk'
 refine Runs.cut (fun ρ H n=>∃ (v5:AVal),((ρ 1 = .list false (links.map intC)∧ρ 2 = .list false (edges.map intC)∧ρ 3=pA n1 3∧ρ 8=v5)∧H (n1,3)=some ⟨6,[bC false b]⟩)∧Sep H n [oI v5 ([]:List Int)] [(n1,3)]) (by refine⟨.arr (n3,11) 0 0 0,by simp[hh,m3_1],(Sep.addEmpty (l:=[.c]) sp)⟩) ?_
 clear hh m3_1
 rintro ρ H n6 ⟨v5,⟨hh,m3_1⟩,sp⟩
 refine zE fun k' hk'=>?_
 obtain⟨hb7,h⟩:=h
 obtain⟨r8,er8,h⟩:=atm h
 simp[hh,m3_1]
 refine RunK.callW Ty_ok (ownZ_ok edges hb7) e134 (.cons (argI false edges) .nil) sp (by decide) (by decide) rfl (by simp[hh,m3_1]) ?_
 rintro v9 H10 n11 _ sp rfl hle13 hfr12
 rw[← er8] at sp
 have m3_1:=(hfr12 _ (by simp)).trans m3_1
 simp[hh,m3_1]
 apply hk'
 refine Runs.cut (fun ρ H n=>∃ (v16 v17:AVal),((ρ 1 = .list false (links.map intC)∧ρ 3=pA n1 3∧ρ 8=v17∧ρ 9=v16)∧H (n1,3)=some ⟨6,[bC false b]⟩)∧Sep H n [oI v16 r8,oI v17 ([]:List Int)] [(n1,3)]) (by refine⟨v9,v5,by simp[hh,m3_1],sp⟩) ?_
 clear hh m3_1
 rintro ρ H n18 ⟨v16,v17,⟨hh,m3_1⟩,sp⟩
 refine Runs.seq ?_
 refine zE fun k' hk'=>?_
 simp[hh,m3_1]
 apply hk'
 refine Runs.block ?_
 refine Runs.loopW h (fun (sJ:Int × (List Int) × (List Int)) ρ H n=>match sJ with | (i29,l30,l31)=>∃ (v32 v33:AVal),((ρ 1 = .list false (links.map intC)∧ρ 3=pA n1 3∧ρ 8=v33∧ρ 9=v32∧ρ 10=int i29)∧H (n1,3)=some ⟨6,[bC false b]⟩)∧Sep H n [oI v32 l31,oI v33 l30] [(n1,3)]) (by refine⟨v16,v17,by simp[hh,m3_1],sp⟩) ?_
 clear hh m3_1
 rintro⟨i29,l30,l31⟩ ρ H n34 K h ⟨v32,v33,⟨hh,m3_1⟩,sp⟩ IH35
 refine Runs.seq ?_
 refine zE fun k' hk'=>?_
 obtain⟨len37,elen37,h⟩:=atm h
 have f38:=fun H=>len_list (H:=H) (fr:=false) (f:=intC) kd_24 elen37
 obtain⟨c39,ec39,h⟩:=atm h
 have f40:=ib_lss (k:=.i64) ec39
 simp[hh,m3_1,f38,f40,-intBin,-lenF]
 apply hk'
 refine Runs.ite (b:=c39) (by simp[hh,m3_1]) (fun dc39=>?_) (fun dc39=>?_)
 ·replace h:=h.1 dc39
  refine Runs.skip ?_
  refine Runs.seq ?_
  refine Runs.block ?_
  refine Runs.seq ?_
  refine Runs.seqD Ty_ok kindOp_ok draws (by decide) (by kernel_rfl) fun k' hk'=>?_
  obtain⟨hb41,h⟩:=h
  obtain⟨x42,ex42,h⟩:=atm h
  have f43:=fun H=>ix_list (H:=H) (fr:=false) (f:=intC) (k:=.i64) kd_24 (fun _=>rfl) hb41 ex42
  obtain⟨c44,ec44,h⟩:=atm h
  have f45:=ib_geq (k:=.i64) ec44
  simp[hh,m3_1,f43,f45,dc39,-indexAddrF,-intBin]
  apply hk'
  refine Runs.ite (b:=c44) (by simp[hh,m3_1,dc39]) (fun dc44=>?_) (fun dc44=>?_)
  ·replace h:=h.1 dc44
   refine Runs.seqD Ty_ok kindOp_ok draws (by decide) (by kernel_rfl) fun k' hk'=>?_
   obtain⟨hb46,h⟩:=h
   obtain⟨x47,ex47,h⟩:=atm h
   have hq48:=ex42.trans ex47.symm
   subst hq48
   have f49:=fun H=>ix_list (H:=H) (fr:=false) (f:=intC) (k:=.i64) kd_24 (fun _=>rfl) hb46 ex42
   obtain⟨hb50,h⟩:=h
   obtain⟨v51,ev51,h⟩:=atm h
   have f52:=ib_sub hb50 ev51
   obtain⟨hb53,h⟩:=h
   obtain⟨l54,el54,h⟩:=atm h
   simp[hh,m3_1,f49,f52,dc39,dc44,-indexAddrF,-intBin,-appendF]
   refine bindD_append [] [oI v32 l31] [[int v51]] [intC v51] sp.f1 kd_24 (by simp) (by simp) (by simp) (by simp[-one1,o1x]) (rows_one (Fill.v _ Fill.nil)) (by simp) (by simpa using hb53) ?_
   rintro v55 H56 n57 sp hfr58 hle59
   replace sp:Sep H56 n57 [oI v55 l54,oI v32 l31] [(n1,3)]:=Sep.ap el54 sp
   have m3_1:=(hfr58 _ (by simp)).trans m3_1
   simp[hh,m3_1,f49,f52,dc39,dc44,-indexAddrF,-intBin]
   apply hk'
   refine Runs.cut (fun ρ H n=>∃ (v61 v62:AVal),((ρ 1 = .list false (links.map intC)∧ρ 3=pA n1 3∧ρ 8=v61∧ρ 9=v62∧ρ 10=int i29)∧H (n1,3)=some ⟨6,[bC false b]⟩)∧Sep H n [oI v61 l54,oI v62 l31] [(n1,3)]) (by refine⟨v55,v32,by simp[hh,m3_1,f49,f52,dc39,dc44,-indexAddrF,-intBin],sp⟩) ?_
   clear hh m3_1
   rintro ρ H n63 ⟨v61,v62,⟨hh,m3_1⟩,sp⟩
   refine Runs.exit rfl ?_
   refine zF fun k' hk'=>?_
   obtain⟨hb64,h⟩:=h
   obtain⟨v65,ev65,h⟩:=atm h
   have f66:=ib_add hb64 ev65
   simp[hh,m3_1,f66,-intBin]
   apply hk'
   refine IH35 (v65,l54,l31) _ _ _ h (by refine⟨v62,v61,by simp[hh,m3_1],sp.f1⟩)
  replace h:=h.2 dc44
  refine Runs.skip ?_
  refine Runs.seq ?_
  refine zE fun k' hk'=>?_
  obtain⟨hb67,h⟩:=h
  obtain⟨x68,ex68,h⟩:=atm h
  have hq69:=ex42.trans ex68.symm
  subst hq69
  have f70:=fun H=>ix_list (H:=H) (fr:=false) (f:=intC) (k:=.i64) kd_24 (fun _=>rfl) hb67 ex42
  obtain⟨hb71,h⟩:=h
  obtain⟨id72,hv,mo73,ln74,ni75⟩:=Sep.openF sp (by simp) hb71
  subst hv
  simp at ni75
  obtain⟨x76,ex76,h⟩:=atm h
  have f77:=fun H (hm:H id72=some ⟨1,l31.map intC⟩)=>ix_arr (H:=H) (k:=.i64) (off:=0) (len:=l31.length) (g:=l31.length) kd_24 hm (by simp) rfl hb71
  have f78:=at_some (q:=x42.toNat) hb71 ex76 rfl
  obtain⟨c79,ec79,h⟩:=atm h
  have f80:=ib_lss (k:=.i64) ec79
  simp[hh,m3_1,mo73,ni75,f70,f77,f78,f80,dc39,dc44,-indexAddrF,-intBin]
  apply hk'
  refine Runs.cut (fun ρ H n=>∃ (v81 v82:AVal),((ρ 1 = .list false (links.map intC)∧ρ 3=pA n1 3∧ρ 8=v82∧ρ 9=v81∧ρ 10=int i29∧ρ 44=bool c79)∧H (n1,3)=some ⟨6,[bC false b]⟩)∧Sep H n [oI v81 l31,oI v82 l30] [(n1,3)]) (by refine⟨.arr id72 l31.length 0 l31.length,v33,by simp[hh,m3_1,mo73,ni75,f70,f77,f78,f80,dc39,dc44,-indexAddrF,-intBin],sp⟩) ?_
  clear hh m3_1 mo73 ni75
  rintro ρ H n83 ⟨v81,v82,⟨hh,m3_1⟩,sp⟩
  refine Runs.ite (b:=c79) (by simp[hh,m3_1]) (fun dc79=>?_) (fun dc79=>?_)
  ·replace h:=h.1 dc79
   refine Runs.evalDE Ty_ok kindOp_ok draws (by decide) (by kernel_rfl) fun k' hk'=>?_
   obtain⟨hb84,h⟩:=h
   obtain⟨x85,ex85,h⟩:=atm h
   have f86:=fun H=>ix_list (H:=H) (fr:=false) (f:=intC) (k:=.i64) kd_24 (fun _=>rfl) hb84 ex85
   obtain⟨hb87,h⟩:=h
   obtain⟨r88,er88,h⟩:=atm h
   simp[hh,m3_1,f86,dc79,-indexAddrF]
   refine RunDK.callA Ty_ok kindOp_ok (cntZ_ok l31 hb87) e166 (.cons (Sep.argOk' sp (old_listF (by simp))) .nil) (by decide) rfl (by simp[hh,m3_1,f86,dc79,-indexAddrF]) ?_
   rw[← er88]
   obtain⟨hb89,h⟩:=h
   obtain⟨id90,hv,mo91,ln92,ni93⟩:=Sep.openF sp (by simp) hb89
   subst hv
   simp at ni93
   obtain⟨x94,ex94,h⟩:=atm h
   have f95:=fun H (hm:H id90=some ⟨1,l31.map intC⟩)=>ix_arr (H:=H) (k:=.i64) (off:=0) (len:=l31.length) (g:=l31.length) kd_24 hm (by simp) rfl hb89
   have f96:=at_some (q:=x85.toNat) hb89 ex94 rfl
   obtain⟨l97,el97,h⟩:=atm h
   simp[hh,m3_1,mo91,ni93,f86,f95,f96,dc79,-indexAddrF,-storeF]
   refine bindD_store (q:=x85.toNat) (news:=intC r88) [] [oI v82 l30] sp (by simp) (by simp;omega) (by simp) (by simp[-one1,o1x]) (Fill.v _ Fill.nil) ?_
   rintro H98 sp hfr99
   replace sp:Sep H98 n83 [oI (.arr id90 l31.length 0 l31.length) l97,oI v82 l30] [(n1,3)]:=Sep.st el97 sp
   have m3_1:=(hfr99 _ (by simp)).trans m3_1
   simp[hh,m3_1,ni93,f86,f95,f96,dc79,-indexAddrF]
   apply hk'
   refine Runs.cut (fun ρ H n=>∃ (v101 v102:AVal),((ρ 1 = .list false (links.map intC)∧ρ 3=pA n1 3∧ρ 8=v102∧ρ 9=v101∧ρ 10=int i29)∧H (n1,3)=some ⟨6,[bC false b]⟩)∧Sep H n [oI v101 l97,oI v102 l30] [(n1,3)]) (by refine⟨.arr id90 l31.length 0 l31.length,v82,by simp[hh,m3_1,ni93,f86,f95,f96,dc79,-indexAddrF],sp⟩) ?_
   clear hh m3_1 ni93
   rintro ρ H n103 ⟨v101,v102,⟨hh,m3_1⟩,sp⟩
   refine zF fun k' hk'=>?_
   obtain⟨hb104,h⟩:=h
   obtain⟨x105,ex105,h⟩:=atm h
   have f106:=fun H=>ix_list (H:=H) (fr:=false) (f:=intC) (k:=.i64) kd_24 (fun _=>rfl) hb104 ex105
   obtain⟨hb107,h⟩:=h
   obtain⟨id108,hv,mo109,ln110,ni111⟩:=Sep.openF sp (by simp) hb107
   subst hv
   simp at ni111
   obtain⟨x112,ex112,h⟩:=atm h
   have f113:=fun H (hm:H id108=some ⟨1,l97.map intC⟩)=>ix_arr (H:=H) (k:=.i64) (off:=0) (len:=l97.length) (g:=l97.length) kd_24 hm (by simp) rfl hb107
   have f114:=at_some (q:=x105.toNat) hb107 ex112 rfl
   obtain⟨hb115,h⟩:=h
   obtain⟨v116,ev116,h⟩:=atm h
   have f117:=ib_add hb115 ev116
   obtain⟨hb118,h⟩:=h
   obtain⟨l119,el119,h⟩:=atm h
   simp[hh,m3_1,mo109,ni111,f106,f113,f114,f117,-indexAddrF,-intBin,-appendF]
   refine bind_append [] [oI (.arr id108 l97.length 0 l97.length) l97] [[int v116]] [intC v116] sp.f1 kd_24 (by simp) (by simp) (by simp) (by simp[-one1,o1x]) (rows_one (Fill.v _ Fill.nil)) (by simp) (by simpa using hb118) ?_
   rintro v120 H121 n122 sp hfr123 hle124
   replace sp:Sep H121 n122 [oI v120 l119,oI (.arr id108 l97.length 0 l97.length) l97] [(n1,3)]:=Sep.ap el119 sp
   have m3_1:=(hfr123 _ (by simp)).trans m3_1
   simp[hh,m3_1,ni111,f106,f113,f114,f117,-indexAddrF,-intBin]
   apply hk'
   refine Runs.cut (fun ρ H n=>∃ (v126 v127:AVal),((ρ 1 = .list false (links.map intC)∧ρ 3=pA n1 3∧ρ 8=v126∧ρ 9=v127∧ρ 10=int i29)∧H (n1,3)=some ⟨6,[bC false b]⟩)∧Sep H n [oI v126 l119,oI v127 l97] [(n1,3)]) (by refine⟨v120,.arr id108 l97.length 0 l97.length,by simp[hh,m3_1,ni111,f106,f113,f114,f117,-indexAddrF,-intBin],sp⟩) ?_
   clear hh m3_1 ni111
   rintro ρ H n128 ⟨v126,v127,⟨hh,m3_1⟩,sp⟩
   refine Runs.inBlock ?_
   refine zF fun k' hk'=>?_
   obtain⟨hb129,h⟩:=h
   obtain⟨v130,ev130,h⟩:=atm h
   have f131:=ib_add hb129 ev130
   simp[hh,m3_1,f131,-intBin]
   apply hk'
   refine IH35 (v130,l119,l97) _ _ _ h (by refine⟨v127,v126,by simp[hh,m3_1],sp.f1⟩)
  replace h:=h.2 dc79
  refine Runs.skip ?_
  refine zF fun k' hk'=>?_
  obtain⟨hb132,h⟩:=h
  obtain⟨x133,ex133,h⟩:=atm h
  have f134:=fun H=>ix_list (H:=H) (fr:=false) (f:=intC) (k:=.i64) kd_24 (fun _=>rfl) hb132 ex133
  obtain⟨hb135,h⟩:=h
  obtain⟨id136,hv,mo137,ln138,ni139⟩:=Sep.openF sp (by simp) hb135
  subst hv
  simp at ni139
  obtain⟨x140,ex140,h⟩:=atm h
  have f141:=fun H (hm:H id136=some ⟨1,l31.map intC⟩)=>ix_arr (H:=H) (k:=.i64) (off:=0) (len:=l31.length) (g:=l31.length) kd_24 hm (by simp) rfl hb135
  have f142:=at_some (q:=x133.toNat) hb135 ex140 rfl
  obtain⟨hb143,h⟩:=h
  obtain⟨v144,ev144,h⟩:=atm h
  have f145:=ib_add hb143 ev144
  obtain⟨hb146,h⟩:=h
  obtain⟨l147,el147,h⟩:=atm h
  simp[hh,m3_1,mo137,ni139,f134,f141,f142,f145,dc79,-indexAddrF,-intBin,-appendF]
  refine bind_append [] [oI (.arr id136 l31.length 0 l31.length) l31] [[int v144]] [intC v144] sp.f1 kd_24 (by simp) (by simp) (by simp) (by simp[-one1,o1x]) (rows_one (Fill.v _ Fill.nil)) (by simp) (by simpa using hb146) ?_
  rintro v148 H149 n150 sp hfr151 hle152
  replace sp:Sep H149 n150 [oI v148 l147,oI (.arr id136 l31.length 0 l31.length) l31] [(n1,3)]:=Sep.ap el147 sp
  have m3_1:=(hfr151 _ (by simp)).trans m3_1
  simp[hh,m3_1,ni139,f134,f141,f142,f145,dc79,-indexAddrF,-intBin]
  apply hk'
  refine Runs.cut (fun ρ H n=>∃ (v154 v155:AVal),((ρ 1 = .list false (links.map intC)∧ρ 3=pA n1 3∧ρ 8=v154∧ρ 9=v155∧ρ 10=int i29)∧H (n1,3)=some ⟨6,[bC false b]⟩)∧Sep H n [oI v154 l147,oI v155 l31] [(n1,3)]) (by refine⟨v148,.arr id136 l31.length 0 l31.length,by simp[hh,m3_1,ni139,f134,f141,f142,f145,dc79,-indexAddrF,-intBin],sp⟩) ?_
  clear hh m3_1 ni139
  rintro ρ H n156 ⟨v154,v155,⟨hh,m3_1⟩,sp⟩
  refine Runs.inBlock ?_
  refine zF fun k' hk'=>?_
  obtain⟨hb157,h⟩:=h
  obtain⟨v158,ev158,h⟩:=atm h
  have f159:=ib_add hb157 ev158
  simp[hh,m3_1,f159,-intBin]
  apply hk'
  refine IH35 (v158,l147,l31) _ _ _ h (by refine⟨v155,v154,by simp[hh,m3_1],sp.f1⟩)
 replace h:=h.2 dc39
 refine Runs.exit rfl ?_
 refine zE fun k' hk'=>?_
 simp[hh,m3_1,dc39]
 apply hk'
 exact Runs.ret2 (v:=v33) (w:=v32) Tryz.func154 Tryz.results154 (by simp[hh,m3_1,dc39]) (by simp[hh,m3_1,dc39]) (hQ _ _ _ _ (Sep.sub (ids':=[]) (Sep.packT (Fill.own (Fill.own Fill.nil)) sp.f1) (by simp)) ⟨(l30,l31),h,rfl⟩)
theorem l5Told_ok (b:Big) (links:List Int) (edges:List Int) (hp:l5Told_pre b links edges):OwnS Tryz.prog 154 [.agg (bC false b),.list false (links.map intC),.list false (edges.map intC)] (.t [.s [.c],.s [.c]]) (fun r=>r = .tup [.list true (((l5Told b links edges).1).map intC),.list true (((l5Told b links edges).2).map intC)]):=(l5Told_walk b links edges _ (l5Told_vc b links edges hp)).mono (by rintro _ ⟨_,rfl,rfl⟩;rfl)
theorem e130:Ent Tryz.prog 130:=Ent.of Tryz.func130 (by kernel_rfl) rfl
theorem chunkZ_walk (b:Big) (node:Int) (places:List Int) (edges:List Int) (Z:((List Int) × (List Int))→Prop) (h:chunkZ_wp b node places edges Z):OwnS Tryz.prog 130 [.agg (bC false b),int node,.list false (places.map intC),.list false (edges.map intC)] (.t [.s [.c],.s [.c]]) (fun r=>∃ y:(List Int) × (List Int),Z y∧r = .tup [.list true (y.1.map intC),.list true (y.2.map intC)]):=by
 unfold chunkZ_wp at h
 have sp:Sep noHeap 0 [] []:=Sep.nil (by simp)
 refine OwnS.of Tryz.func130 rfl Tryz.ntmps130 (by simp) fun Q hQ=>?_
 refine Runs.cut (fun ρ H n=>(ρ 0 = .agg (bC false b)∧ρ 1=int node∧ρ 2 = .list false (places.map intC)∧ρ 3 = .list false (edges.map intC))∧Sep H n [] []) (by refine⟨by simp ,sp⟩) ?_
 rintro ρ H n1 ⟨hh,sp⟩
 refine zE fun k' hk'=>?_
 simp[hh]
 apply hk'
 refine Runs.cut (fun ρ H n=>((ρ 1=int node∧ρ 2 = .list false (places.map intC)∧ρ 3 = .list false (edges.map intC)∧ρ 4=pA n1 4)∧H (n1,4)=some ⟨6,[bC false b]⟩)∧Sep H n [] [(n1,4)]) (by refine⟨by simp[hh],sp.var⟩) ?_
 clear hh
 rintro ρ H n3 ⟨⟨hh,m4_1⟩,sp⟩
 refine zE fun k' hk'=>?_
 obtain⟨hb4,h⟩:=h
 obtain⟨x5,ex5,h⟩:=atm h
 have f6:=fun H=>ix_list (H:=H) (fr:=false) (f:=(GNode.cells false)) (k:=.i64) kd_34 (fun _=>rfl) hb4 ex5
 simp[hh,m4_1,f6,-indexAddrF]
 apply hk'
 refine Runs.cut (fun ρ H n=>((ρ 2 = .list false (places.map intC)∧ρ 3 = .list false (edges.map intC)∧ρ 4=pA n1 4∧ρ 10=pA n3 10)∧H (n1,4)=some ⟨6,[bC false b]⟩∧H (n3,10)=some ⟨3,[[int x5.control,int x5.parent,.list false (x5.links.map intC)]]⟩)∧Sep H n [] [(n3,10),(n1,4)]) (by refine⟨by simp[hh,m4_1,f6,-indexAddrF],sp.var⟩) ?_
 clear hh m4_1
 rintro ρ H n8 ⟨⟨hh,m4_1,m10_6⟩,sp⟩
 refine zE fun k' hk'=>?_
 obtain⟨hb9,h⟩:=h
 obtain⟨r10,er10,h⟩:=atm h
 simp[hh,m4_1,m10_6]
 refine RunK.callW Ty_ok (l5Told_ok b x5.links edges hb9) e154 (.cons (argB false b) (.cons (argI false x5.links) (.cons (argI false edges) .nil))) sp (by decide) (by decide) rfl (by simp[hh,m4_1,m10_6]) ?_
 rintro v11 H12 n13 _ sp rfl hle15 hfr14
 rw[← er10] at sp
 have m4_1:=(hfr14 _ (by simp)).trans m4_1
 have m10_6:=(hfr14 _ (by simp)).trans m10_6
 replace sp:=Sep.unpackT sp
 obtain⟨L19,hv,hl20,sp⟩:=sp
 subst hv
 obtain⟨v17,v18,hv⟩:=len2 (by simpa using hl20)
 subst hv
 simp only[zip3,List.cons_append,List.nil_append] at sp
 replace sp:=Sep.rot sp
 try simp only[List.cons_append,List.nil_append,List.append_assoc] at sp
 replace sp:=Sep.rot sp
 try simp only[List.cons_append,List.nil_append,List.append_assoc] at sp
 simp[hh,m4_1,m10_6]
 apply hk'
 refine Runs.cut (fun ρ H n=>∃ (v23 v24:AVal),((ρ 2 = .list false (places.map intC)∧ρ 10=pA n3 10∧ρ 11=v23∧ρ 12=v24)∧H (n3,10)=some ⟨3,[[int x5.control,int x5.parent,.list false (x5.links.map intC)]]⟩)∧Sep H n [oI v23 r10.1,oI v24 r10.2] [(n3,10)]) (by refine⟨v17,v18,by simp[hh,m4_1,m10_6],(Sep.sub sp (by simp +contextual))⟩) ?_
 clear hh m4_1 m10_6
 rintro ρ H n25 ⟨v23,v24,⟨hh,m10_6⟩,sp⟩
 refine Runs.seqM Ty_ok [32] draws (by decide) (by kernel_rfl) fun k' hk'=>?_
 obtain⟨hb26,h⟩:=h
 obtain⟨r27,er27,h⟩:=atm h
 simp[hh,m10_6]
 refine RunXK.callA (M:=[32]) Ty_ok (parZ_ok x5.parent places hb26) e155 (fun _ _ hE hN=>(.cons (.v _ _ _) (.cons (argI false places) .nil))) rfl (by simp[hh,m10_6]) ?_
 rw[← er27]
 obtain⟨l28,el28,h⟩:=atm h
 simp[hh,m10_6,-fillA]
 refine bindM_make (l:=[.c]) (cs:=[int x5.control,int r27]) (([x5.control,r27]:List Int).map intC) sp (by simp) kd_24 (by simp) (by simp) (by simp[hh,m10_6,splice,List.replicate,fillA]) (by simp[chunks,List.range_succ]) (by simp) (by simp) ?_
 rintro id29 H30 n31 sp hfr32 hle33
 replace sp:Sep H30 n31 [oI (.arr id29 2 0 2) l28,oI v23 r10.1,oI v24 r10.2] [(n3,10)]:=by rw[el28];exact sp
 have m10_6:=(hfr32 _ (by simp)).trans m10_6
 obtain⟨hb36,h⟩:=h
 obtain⟨l37,el37,h⟩:=atm h
 simp[hh,m10_6,-appendF]
 refine bindM_append0 (r10.1.map intC) sp (by simp) kd_24 (by simp) (by simp) (Sep.src sp.f1 (by simp)) (by simp[-one1,o1x]) (by simpa using hb36) ?_
 rintro v38 H39 n40 sp hfr41 hle42
 replace sp:Sep H39 n40 [oI v38 l37,oI v23 r10.1,oI v24 r10.2] [(n3,10)]:=by refine Sep.ap el37 ?_;exact sp
 have m10_6:=(hfr41 _ (by simp)).trans m10_6
 simp[hh,m10_6]
 apply hk'
 refine Runs.cut (fun ρ H n=>∃ (v44 v45:AVal),(ρ 8=v44∧ρ 9=v45)∧Sep H n [oI v44 l37,oI v45 r10.2] []) (by refine⟨v38,v24,by simp[hh,m10_6],(Sep.sub sp.f1.dr (by simp +contextual))⟩) ?_
 clear hh m10_6
 rintro ρ H n46 ⟨v44,v45,hh,sp⟩
 exact Runs.ret2 (v:=v44) (w:=v45) Tryz.func130 Tryz.results130 (by simp[hh]) (by simp[hh]) (hQ _ _ _ _ (Sep.sub (ids':=[]) (Sep.packT (Fill.own (Fill.own Fill.nil)) sp) (by simp)) ⟨(l37,r10.2),h,rfl⟩)
theorem chunkZ_ok (b:Big) (node:Int) (places:List Int) (edges:List Int) (hp:chunkZ_pre b node places edges):OwnS Tryz.prog 130 [.agg (bC false b),int node,.list false (places.map intC),.list false (edges.map intC)] (.t [.s [.c],.s [.c]]) (fun r=>r = .tup [.list true (((chunkZ b node places edges).1).map intC),.list true (((chunkZ b node places edges).2).map intC)]):=(chunkZ_walk b node places edges _ (chunkZ_vc b node places edges hp)).mono (by rintro _ ⟨_,rfl,rfl⟩;rfl)
theorem e131:Ent Tryz.prog 131:=Ent.of Tryz.func131 (by kernel_rfl) rfl
theorem tailZ_walk (b:Big) (places:List Int) (edges:List Int) (Z:((List Int) × (List Int))→Prop) (h:tailZ_wp b places edges Z):OwnS Tryz.prog 131 [.agg (bC false b),.list false (places.map intC),.list false (edges.map intC)] (.t [.s [.c],.s [.c]]) (fun r=>∃ y:(List Int) × (List Int),Z y∧r = .tup [.list true (y.1.map intC),.list true (y.2.map intC)]):=by
 unfold tailZ_wp at h
 have sp:Sep noHeap 0 [] []:=Sep.nil (by simp)
 refine OwnS.of Tryz.func131 rfl Tryz.ntmps131 (by simp) fun Q hQ=>?_
 refine Runs.cut (fun ρ H n=>(ρ 0 = .agg (bC false b)∧ρ 1 = .list false (places.map intC)∧ρ 2 = .list false (edges.map intC))∧Sep H n [] []) (by refine⟨by simp ,sp⟩) ?_
 rintro ρ H n1 ⟨hh,sp⟩
 refine zE fun k' hk'=>?_
 simp[hh]
 apply hk'
 refine Runs.cut (fun ρ H n=>((ρ 1 = .list false (places.map intC)∧ρ 2 = .list false (edges.map intC)∧ρ 3=pA n1 3)∧H (n1,3)=some ⟨6,[bC false b]⟩)∧Sep H n [] [(n1,3)]) (by refine⟨by simp[hh],sp.var⟩) ?_
 clear hh
 rintro ρ H n3 ⟨⟨hh,m3_1⟩,sp⟩
 refine zE fun k' hk'=>?_
 simp[hh,m3_1]
 apply hk'
 refine Runs.cut (fun ρ H n=>∃ (v5:AVal),((ρ 1 = .list false (places.map intC)∧ρ 2 = .list false (edges.map intC)∧ρ 3=pA n1 3∧ρ 8=v5)∧H (n1,3)=some ⟨6,[bC false b]⟩)∧Sep H n [oI v5 ([]:List Int)] [(n1,3)]) (by refine⟨.arr (n3,14) 0 0 0,by simp[hh,m3_1],(Sep.addEmpty (l:=[.c]) sp)⟩) ?_
 clear hh m3_1
 rintro ρ H n6 ⟨v5,⟨hh,m3_1⟩,sp⟩
 refine Runs.seq ?_
 refine zE fun k' hk'=>?_
 simp[hh,m3_1]
 apply hk'
 refine Runs.block ?_
 refine Runs.loopW h (fun (sJ:Int × (List Int)) ρ H n=>match sJ with | (i14,l15)=>∃ (v16:AVal),((ρ 1 = .list false (places.map intC)∧ρ 2 = .list false (edges.map intC)∧ρ 3=pA n1 3∧ρ 8=v16∧ρ 9=int i14)∧H (n1,3)=some ⟨6,[bC false b]⟩)∧Sep H n [oI v16 l15] [(n1,3)]) (by refine⟨v5,by simp[hh,m3_1],sp⟩) ?_
 clear hh m3_1
 rintro⟨i14,l15⟩ ρ H n17 K h ⟨v16,⟨hh,m3_1⟩,sp⟩ IH18
 refine Runs.seq ?_
 refine zE fun k' hk'=>?_
 obtain⟨len20,elen20,h⟩:=atm h
 have f21:=fun H=>len_list (H:=H) (fr:=false) (f:=intC) kd_24 elen20
 obtain⟨c22,ec22,h⟩:=atm h
 have f23:=ib_lss (k:=.i64) ec22
 simp[hh,m3_1,f21,f23,-intBin,-lenF]
 apply hk'
 refine Runs.ite (b:=c22) (by simp[hh,m3_1]) (fun dc22=>?_) (fun dc22=>?_)
 ·replace h:=h.1 dc22
  refine Runs.skip ?_
  refine Runs.seq ?_
  refine Runs.block ?_
  refine zF fun k' hk'=>?_
  obtain⟨hb24,h⟩:=h
  obtain⟨x25,ex25,h⟩:=atm h
  have f26:=fun H=>ix_list (H:=H) (fr:=false) (f:=intC) (k:=.i64) kd_24 (fun _=>rfl) hb24 ex25
  obtain⟨hb27,h⟩:=h
  obtain⟨r28,er28,h⟩:=atm h
  simp[hh,m3_1,f26,dc22,-indexAddrF]
  refine RunK.callA Ty_ok (parZ_ok x25 places hb27) e155 (.cons (.v _ _ _) (.cons (argI false places) .nil)) (by decide) (by decide) rfl (by simp[hh,m3_1,f26,dc22,-indexAddrF]) ?_
  rintro _ rfl
  rw[← er28]
  obtain⟨hb29,h⟩:=h
  obtain⟨l30,el30,h⟩:=atm h
  simp[hh,m3_1,f26,dc22,-indexAddrF,-appendF]
  refine bind_append [] [] [[int r28]] [intC r28] sp kd_24 (by simp) (by simp) (by simp) (by simp[-one1,o1x]) (rows_one (Fill.v _ Fill.nil)) (by simp) (by simpa using hb29) ?_
  rintro v31 H32 n33 sp hfr34 hle35
  replace sp:Sep H32 n33 [oI v31 l30] [(n1,3)]:=Sep.ap el30 sp
  have m3_1:=(hfr34 _ (by simp)).trans m3_1
  simp[hh,m3_1,f26,dc22,-indexAddrF]
  apply hk'
  refine Runs.cut (fun ρ H n=>∃ (v37:AVal),((ρ 1 = .list false (places.map intC)∧ρ 2 = .list false (edges.map intC)∧ρ 3=pA n1 3∧ρ 8=v37∧ρ 9=int i14)∧H (n1,3)=some ⟨6,[bC false b]⟩)∧Sep H n [oI v37 l30] [(n1,3)]) (by refine⟨v31,by simp[hh,m3_1,f26,dc22,-indexAddrF],sp⟩) ?_
  clear hh m3_1
  rintro ρ H n38 ⟨v37,⟨hh,m3_1⟩,sp⟩
  refine Runs.inBlock ?_
  refine zF fun k' hk'=>?_
  obtain⟨hb39,h⟩:=h
  obtain⟨v40,ev40,h⟩:=atm h
  have f41:=ib_add hb39 ev40
  simp[hh,m3_1,f41,-intBin]
  apply hk'
  refine IH18 (v40,l30) _ _ _ h (by refine⟨v37,by simp[hh,m3_1],sp⟩)
 replace h:=h.2 dc22
 refine Runs.exit rfl ?_
 refine zE fun k' hk'=>?_
 simp[hh,m3_1,dc22]
 apply hk'
 refine Runs.cut (fun ρ H n=>∃ (v43 v44:AVal),((ρ 2 = .list false (edges.map intC)∧ρ 3=pA n1 3∧ρ 8=v44∧ρ 10=v43)∧H (n1,3)=some ⟨6,[bC false b]⟩)∧Sep H n [oI v43 ([]:List Int),oI v44 l15] [(n1,3)]) (by refine⟨.arr (n17,32) 0 0 0,v16,by simp[hh,m3_1,dc22],(Sep.addEmpty (l:=[.c]) sp)⟩) ?_
 clear hh m3_1
 rintro ρ H n45 ⟨v43,v44,⟨hh,m3_1⟩,sp⟩
 refine Runs.seq ?_
 refine zE fun k' hk'=>?_
 simp[hh,m3_1]
 apply hk'
 refine Runs.block ?_
 refine Runs.loopW h (fun (sJ:Int × (List Int)) ρ H n=>match sJ with | (i55,l56)=>∃ (v57 v58:AVal),((ρ 2 = .list false (edges.map intC)∧ρ 3=pA n1 3∧ρ 8=v58∧ρ 10=v57∧ρ 11=int i55)∧H (n1,3)=some ⟨6,[bC false b]⟩)∧Sep H n [oI v57 l56,oI v58 l15] [(n1,3)]) (by refine⟨v43,v44,by simp[hh,m3_1],sp⟩) ?_
 clear hh m3_1
 rintro⟨i55,l56⟩ ρ H n59 K h ⟨v57,v58,⟨hh,m3_1⟩,sp⟩ IH60
 refine Runs.seq ?_
 refine zE fun k' hk'=>?_
 obtain⟨len62,elen62,h⟩:=atm h
 have f63:=fun H=>len_list (H:=H) (fr:=false) (f:=Wire.cells) kd_35 elen62
 obtain⟨c64,ec64,h⟩:=atm h
 have f65:=ib_lss (k:=.i64) ec64
 simp[hh,m3_1,f63,f65,-intBin,-lenF]
 apply hk'
 refine Runs.ite (b:=c64) (by simp[hh,m3_1]) (fun dc64=>?_) (fun dc64=>?_)
 ·replace h:=h.1 dc64
  refine Runs.skip ?_
  refine Runs.seq ?_
  refine Runs.block ?_
  refine zF fun k' hk'=>?_
  obtain⟨hb66,h⟩:=h
  obtain⟨x67,ex67,h⟩:=atm h
  have f68:=fun H=>ix_list (H:=H) (fr:=false) (f:=Wire.cells) (k:=.i64) kd_35 (fun _=>rfl) hb66 ex67
  obtain⟨hb69,h⟩:=h
  obtain⟨l70,el70,h⟩:=atm h
  simp[hh,m3_1,f68,dc64,-indexAddrF,-appendF]
  refine bind_append [] [oI v58 l15] [[int x67.link]] [intC x67.link] sp kd_24 (by simp) (by simp) (by simp) (by simp[-one1,o1x]) (rows_one (Fill.v _ Fill.nil)) (by simp) (by simpa using hb69) ?_
  rintro v71 H72 n73 sp hfr74 hle75
  replace sp:Sep H72 n73 [oI v71 l70,oI v58 l15] [(n1,3)]:=Sep.ap el70 sp
  have m3_1:=(hfr74 _ (by simp)).trans m3_1
  simp[hh,m3_1,f68,dc64,-indexAddrF]
  apply hk'
  refine Runs.cut (fun ρ H n=>∃ (v77 v78:AVal),((ρ 2 = .list false (edges.map intC)∧ρ 3=pA n1 3∧ρ 8=v78∧ρ 10=v77∧ρ 11=int i55)∧H (n1,3)=some ⟨6,[bC false b]⟩)∧Sep H n [oI v77 l70,oI v78 l15] [(n1,3)]) (by refine⟨v71,v58,by simp[hh,m3_1,f68,dc64,-indexAddrF],sp⟩) ?_
  clear hh m3_1
  rintro ρ H n79 ⟨v77,v78,⟨hh,m3_1⟩,sp⟩
  refine Runs.inBlock ?_
  refine zF fun k' hk'=>?_
  obtain⟨hb80,h⟩:=h
  obtain⟨v81,ev81,h⟩:=atm h
  have f82:=ib_add hb80 ev81
  simp[hh,m3_1,f82,-intBin]
  apply hk'
  refine IH60 (v81,l70) _ _ _ h (by refine⟨v77,v78,by simp[hh,m3_1],sp⟩)
 replace h:=h.2 dc64
 refine Runs.exit rfl ?_
 refine zE fun k' hk'=>?_
 obtain⟨hb83,h⟩:=h
 obtain⟨r84,er84,h⟩:=atm h
 simp[hh,m3_1,dc64]
 refine RunK.callW Ty_ok (l5Told_ok b l56 edges hb83) e154 (.cons (argB false b) (.cons (Sep.argOk' sp (old_listF (by simp))) (.cons (argI false edges) .nil))) sp (by decide) (by decide) rfl (by simp[hh,m3_1,dc64]) ?_
 rintro v85 H86 n87 _ sp rfl hle89 hfr88
 rw[← er84] at sp
 have m3_1:=(hfr88 _ (by simp)).trans m3_1
 replace sp:=Sep.unpackT sp
 obtain⟨L93,hv,hl94,sp⟩:=sp
 subst hv
 obtain⟨v91,v92,hv⟩:=len2 (by simpa using hl94)
 subst hv
 simp only[zip3,List.cons_append,List.nil_append] at sp
 replace sp:=Sep.rot sp
 try simp only[List.cons_append,List.nil_append,List.append_assoc] at sp
 replace sp:=Sep.rot sp
 try simp only[List.cons_append,List.nil_append,List.append_assoc] at sp
 simp[hh,m3_1,dc64]
 apply hk'
 refine Runs.cut (fun ρ H n=>∃ (v97 v98 v99:AVal),(ρ 8=v97∧ρ 12=v98∧ρ 13=v99)∧Sep H n [oI v97 l15,oI v98 r84.1,oI v99 r84.2] []) (by refine⟨v58,v91,v92,by simp[hh,m3_1,dc64],(Sep.sub sp.dr (by simp +contextual))⟩) ?_
 clear hh m3_1
 rintro ρ H n100 ⟨v97,v98,v99,hh,sp⟩
 refine zE fun k' hk'=>?_
 obtain⟨hb101,h⟩:=h
 obtain⟨l102,el102,h⟩:=atm h
 simp[hh,-appendF]
 refine bind_append0 (r84.1.map intC) sp (by simp) kd_24 (by simp) (by simp) (Sep.src sp.f1 (by simp)) (by simp[-one1,o1x]) (by simpa using hb101) ?_
 rintro v103 H104 n105 sp hfr106 hle107
 replace sp:Sep H104 n105 [oI v103 l102,oI v98 r84.1,oI v99 r84.2] []:=by refine Sep.ap el102 ?_;exact sp
 simp[hh]
 apply hk'
 refine Runs.cut (fun ρ H n=>∃ (v109 v110:AVal),(ρ 6=v109∧ρ 7=v110)∧Sep H n [oI v109 l102,oI v110 r84.2] []) (by refine⟨v103,v99,by simp[hh],sp.f1.dr⟩) ?_
 clear hh
 rintro ρ H n111 ⟨v109,v110,hh,sp⟩
 exact Runs.ret2 (v:=v109) (w:=v110) Tryz.func131 Tryz.results131 (by simp[hh]) (by simp[hh]) (hQ _ _ _ _ (Sep.sub (ids':=[]) (Sep.packT (Fill.own (Fill.own Fill.nil)) sp) (by simp)) ⟨(l102,r84.2),h,rfl⟩)
theorem tailZ_ok (b:Big) (places:List Int) (edges:List Int) (hp:tailZ_pre b places edges):OwnS Tryz.prog 131 [.agg (bC false b),.list false (places.map intC),.list false (edges.map intC)] (.t [.s [.c],.s [.c]]) (fun r=>r = .tup [.list true (((tailZ b places edges).1).map intC),.list true (((tailZ b places edges).2).map intC)]):=(tailZ_walk b places edges _ (tailZ_vc b places edges hp)).mono (by rintro _ ⟨_,rfl,rfl⟩;rfl)
theorem e84:Ent Tryz.prog 84:=Ent.of Tryz.func84 (by kernel_rfl) rfl
theorem l5Code_walk (b:Big) (order:List Int) (Z:((List Int) × (List Int))→Prop) (h:l5Code_wp b order Z):OwnS Tryz.prog 84 [.agg (bC false b),.list false (order.map intC)] (.t [.s [.c],.s [.c]]) (fun r=>∃ y:(List Int) × (List Int),Z y∧r = .tup [.list true (y.1.map intC),.list true (y.2.map intC)]):=by
 unfold l5Code_wp at h
 have sp:Sep noHeap 0 [] []:=Sep.nil (by simp)
 refine OwnS.of Tryz.func84 rfl Tryz.ntmps84 (by simp) fun Q hQ=>?_
 refine Runs.cut (fun ρ H n=>(ρ 0 = .agg (bC false b)∧ρ 1 = .list false (order.map intC))∧Sep H n [] []) (by refine⟨by simp ,sp⟩) ?_
 rintro ρ H n1 ⟨hh,sp⟩
 refine zE fun k' hk'=>?_
 simp[hh]
 apply hk'
 refine Runs.cut (fun ρ H n=>((ρ 1 = .list false (order.map intC)∧ρ 2=pA n1 2)∧H (n1,2)=some ⟨6,[bC false b]⟩)∧Sep H n [] [(n1,2)]) (by refine⟨by simp[hh],sp.var⟩) ?_
 clear hh
 rintro ρ H n3 ⟨⟨hh,m2_1⟩,sp⟩
 refine zE fun k' hk'=>?_
 simp[hh,m2_1]
 apply hk'
 refine Runs.cut (fun ρ H n=>∃ (v5:AVal),((ρ 1 = .list false (order.map intC)∧ρ 2=pA n1 2∧ρ 6=v5)∧H (n1,2)=some ⟨6,[bC false b]⟩)∧Sep H n [oI v5 ([]:List Int)] [(n1,2)]) (by refine⟨.arr (n3,14) 0 0 0,by simp[hh,m2_1],(Sep.addEmpty (l:=[.c]) sp)⟩) ?_
 clear hh m2_1
 rintro ρ H n6 ⟨v5,⟨hh,m2_1⟩,sp⟩
 refine zE fun k' hk'=>?_
 obtain⟨hb7,h⟩:=h
 obtain⟨r8,er8,h⟩:=atm h
 simp[hh,m2_1]
 refine RunK.callW Ty_ok (noneZ_ok b.edges hb7) e129 (.cons (.v _ _ _) .nil) sp (by decide) (by decide) rfl (by simp[hh,m2_1]) ?_
 rintro v9 H10 n11 _ sp rfl hle13 hfr12
 rw[← er8] at sp
 have m2_1:=(hfr12 _ (by simp)).trans m2_1
 simp[hh,m2_1]
 apply hk'
 refine Runs.cut (fun ρ H n=>∃ (v16 v17:AVal),((ρ 1 = .list false (order.map intC)∧ρ 2=pA n1 2∧ρ 6=v17∧ρ 7=v16)∧H (n1,2)=some ⟨6,[bC false b]⟩)∧Sep H n [oI v16 r8,oI v17 ([]:List Int)] [(n1,2)]) (by refine⟨v9,v5,by simp[hh,m2_1],sp⟩) ?_
 clear hh m2_1
 rintro ρ H n18 ⟨v16,v17,⟨hh,m2_1⟩,sp⟩
 refine zE fun k' hk'=>?_
 obtain⟨len19,elen19,h⟩:=atm h
 have f20:=fun H=>len_list (H:=H) (fr:=false) (f:=(GNode.cells false)) kd_34 elen19
 obtain⟨hb21,h⟩:=h
 obtain⟨r22,er22,h⟩:=atm h
 simp[hh,m2_1,f20,-lenF]
 refine RunK.callW Ty_ok (noneZ_ok len19 hb21) e129 (.cons (.v _ _ _) .nil) sp (by decide) (by decide) rfl (by simp[hh,m2_1,f20,-lenF]) ?_
 rintro v23 H24 n25 _ sp rfl hle27 hfr26
 rw[← er22] at sp
 have m2_1:=(hfr26 _ (by simp)).trans m2_1
 simp[hh,m2_1,f20,-lenF]
 apply hk'
 refine Runs.cut (fun ρ H n=>∃ (v30 v31 v32:AVal),((ρ 1 = .list false (order.map intC)∧ρ 2=pA n1 2∧ρ 6=v32∧ρ 7=v31∧ρ 8=v30)∧H (n1,2)=some ⟨6,[bC false b]⟩)∧Sep H n [oI v30 r22,oI v31 r8,oI v32 ([]:List Int)] [(n1,2)]) (by refine⟨v23,v16,v17,by simp[hh,m2_1,f20,-lenF],sp⟩) ?_
 clear hh m2_1
 rintro ρ H n33 ⟨v30,v31,v32,⟨hh,m2_1⟩,sp⟩
 refine Runs.seq ?_
 refine zE fun k' hk'=>?_
 simp[hh,m2_1]
 apply hk'
 refine Runs.block ?_
 refine Runs.loopW h (fun (sJ:Int × (List Int) × (List Int) × (List Int)) ρ H n=>match sJ with | (i47,l48,l49,l50)=>∃ (v51 v52 v53:AVal),((ρ 1 = .list false (order.map intC)∧ρ 2=pA n1 2∧ρ 6=v53∧ρ 7=v52∧ρ 8=v51∧ρ 9=int i47)∧H (n1,2)=some ⟨6,[bC false b]⟩)∧Sep H n [oI v51 l48,oI v52 l49,oI v53 l50] [(n1,2)]) (by refine⟨v30,v31,v32,by simp[hh,m2_1],sp⟩) ?_
 clear hh m2_1
 rintro⟨i47,l48,l49,l50⟩ ρ H n54 K h ⟨v51,v52,v53,⟨hh,m2_1⟩,sp⟩ IH55
 refine Runs.seq ?_
 refine zE fun k' hk'=>?_
 obtain⟨len57,elen57,h⟩:=atm h
 have f58:=fun H=>len_list (H:=H) (fr:=false) (f:=intC) kd_24 elen57
 obtain⟨c59,ec59,h⟩:=atm h
 have f60:=ib_lss (k:=.i64) ec59
 simp[hh,m2_1,f58,f60,-intBin,-lenF]
 apply hk'
 refine Runs.ite (b:=c59) (by simp[hh,m2_1]) (fun dc59=>?_) (fun dc59=>?_)
 ·replace h:=h.1 dc59
  refine Runs.skip ?_
  refine Runs.seq ?_
  refine Runs.block ?_
  refine Runs.cut (fun ρ H n=>∃ (v61 v62 v63:AVal),((ρ 1 = .list false (order.map intC)∧ρ 2=pA n1 2∧ρ 6=v63∧ρ 7=v62∧ρ 8=v61∧ρ 9=int i47)∧H (n1,2)=some ⟨6,[bC false b]⟩)∧Sep H n [oI v61 l48,oI v62 l49,oI v63 l50] [(n1,2)]) (by refine⟨v51,v52,v53,by simp[hh,m2_1,dc59],sp⟩) ?_
  clear hh m2_1
  rintro ρ H n64 ⟨v61,v62,v63,⟨hh,m2_1⟩,sp⟩
  obtain⟨hb65,h⟩:=h
  obtain⟨x66,ex66,h⟩:=atm h
  have f67:=fun H=>ix_list (H:=H) (fr:=false) (f:=intC) (k:=.i64) kd_24 (fun _=>rfl) hb65 ex66
  obtain⟨hb68,h⟩:=h
  obtain⟨r69,er69,h⟩:=atm h
  refine Runs.seqC (fun H n=>H (n1,2)=some ⟨6,[bC false b]⟩∧Sep H n [oI v61 l48,oI v62 l49,oI v63 l50] [(n1,2)]) [7,8,9,10,11,12] (.free 0 (.free 1 (.free 2 (.free 3 (.free 4 (.free 5 (.free 6 (.hard 7 (.hard 8 (.hard 9 (.hard 10 (.hard 11 (.hard 12 (.fin) (.stop)) (.stop)) (.hard 11 (.hard 10 (.hard 12 (.fin) (.stop)) (.stop)) (.stop))) (.hard 10 (.hard 9 (.hard 11 (.hard 12 (.fin) (.stop)) (.stop)) (.stop)) (.stop))) (.stop)) (.stop))))))))) (fun ρ H n=>∃ (v72 v73 v74 v75:AVal),((ρ 1 = .list false (order.map intC)∧ρ 2=pA n1 2∧ρ 6=v75∧ρ 8=v74∧ρ 9=int i47∧ρ 10=v72∧ρ 11=v73)∧H (n1,2)=some ⟨6,[bC false b]⟩)∧Sep H n [oI v72 r69.1,oI v73 r69.2,oI v74 l48,oI v75 l50] [(n1,2)]) draws (by decide) (by kernel_rfl) ?_ ?_
  ·refine RunT.free (.agg (bC false b)) rfl rfl ⟨m2_1,sp⟩ (fun H n hS=>by obtain⟨m2_1,sp⟩:=hS;exact (by exact stepF_ok Ty_ok (by rw[stepF_loc];simp[hh,m2_1,f67,-indexAddrF]))) ?_
   refine RunT.free (.list false (order.map intC)) rfl rfl ⟨m2_1,sp⟩ (fun H n hS=>by obtain⟨m2_1,sp⟩:=hS;exact (by exact stepF_ok Ty_ok (by rw[stepF_loc];simp[hh,m2_1,f67,-indexAddrF]))) ?_
   refine RunT.free (int i47) rfl rfl ⟨m2_1,sp⟩ (fun H n hS=>by obtain⟨m2_1,sp⟩:=hS;exact (by exact stepF_ok Ty_ok (by rw[stepF_loc];simp[hh,m2_1,f67,-indexAddrF]))) ?_
   refine RunT.free (.iptr false [int x66]) rfl rfl ⟨m2_1,sp⟩ (fun H n hS=>by obtain⟨m2_1,sp⟩:=hS;exact (by have f67:=fun H=>ix_list (H:=H) (fr:=false) (f:=intC) (k:=.i64) kd_24 (fun _=>rfl) hb65 ex66;exact stepF_ok Ty_ok (by rw[stepF_loc];simp[hh,m2_1,f67,-indexAddrF]))) ?_
   refine RunT.free (int x66) rfl rfl ⟨m2_1,sp⟩ (fun H n hS=>by obtain⟨m2_1,sp⟩:=hS;exact (by exact stepF_ok Ty_ok (by rw[stepF_loc];simp[hh,m2_1,f67,-indexAddrF]))) ?_
   refine RunT.free v61 rfl rfl ⟨m2_1,sp⟩ (fun H n hS=>by obtain⟨m2_1,sp⟩:=hS;exact (by exact stepF_ok Ty_ok (by rw[stepF_loc];simp[hh,m2_1,f67,-indexAddrF]))) ?_
   refine RunT.free v62 rfl rfl ⟨m2_1,sp⟩ (fun H n hS=>by obtain⟨m2_1,sp⟩:=hS;exact (by exact stepF_ok Ty_ok (by rw[stepF_loc];simp[hh,m2_1,f67,-indexAddrF]))) ?_
   refine⟨?_,trivial⟩
   refine RunT.callW (as1:=[.agg (bC false b),int x66,v61,v62]) rfl rfl (chunkZ_ok b x66 l48 l49 hb68) e130 (.cons (argB false b) (.cons (.v _ _ _) (.cons (Sep.argOk' sp (old_listF (by simp))) (.cons (Sep.argOk' sp.f1 (old_listF (by simp))) .nil)))) sp (by simp[hh,m2_1,f67,-indexAddrF]) (by simp[hh,m2_1,f67,-indexAddrF]) ?_
   rintro v81 H77 n78 _ sp rfl hle80 hfr79
   rw[← er69] at sp
   replace sp:=Sep.unpackT sp
   obtain⟨L85,hv,hl86,sp⟩:=sp
   subst hv
   obtain⟨v83,v84,hv⟩:=len2 (by simpa using hl86)
   subst hv
   simp only[zip3,List.cons_append,List.nil_append] at sp
   replace sp:=Sep.rot sp
   try simp only[List.cons_append,List.nil_append,List.append_assoc] at sp
   replace sp:=Sep.rot sp
   try simp only[List.cons_append,List.nil_append,List.append_assoc] at sp
   replace sp:Sep H77 n78 [oI v61 l48,oI v62 l49,oI v63 l50,oI v83 r69.1,oI v84 r69.2] [(n1,2)]:=sp
   have m2_1:=(hfr79 _ (by simp)).trans m2_1
   refine⟨(fun hl=>absurd (hl.symm.trans (show lateC _ _ _=true by kernel_rfl)) (by decide)),?_⟩
   refine⟨?_,trivial⟩
   refine RunT.same (v:=(.tup [v83,v84])) Ty_ok rfl rfl (by simp[hh,m2_1,f67,-indexAddrF]) (fun hl=>absurd (hl.symm.trans (show lateC _ _ _=true by kernel_rfl)) (by decide)) ?_
   refine⟨?_,?_,trivial⟩
   ·have f100:=Sep.oc sp.f3
    refine RunT.same (v:=v83) Ty_ok rfl rfl (by simp[hh,m2_1,f67,f100,-cellsA,-indexAddrF,-one1,cAx,o1x]) (fun hl=>absurd (hl.symm.trans (show lateC _ _ _=true by kernel_rfl)) (by decide)) ?_
    refine⟨?_,?_,trivial⟩
    ·have f107:=Sep.oc sp.f4
     refine RunT.same (v:=v84) Ty_ok rfl rfl (by simp[hh,m2_1,f67,f100,f107,-cellsA,-indexAddrF,-one1,cAx,o1x]) (fun hl=>absurd (hl.symm.trans (show lateC _ _ _=true by kernel_rfl)) (by decide)) ?_
     refine⟨?_,trivial⟩
     have f114:=Sep.oc sp.f3
     refine RunT.same (v:=v83) Ty_ok rfl rfl (by simp[hh,m2_1,f67,f100,f107,f114,-cellsA,-indexAddrF,-one1,cAx,o1x]) (fun hl=>absurd (hl.symm.trans (show lateC _ _ _=true by kernel_rfl)) (by decide)) ?_
     refine⟨?_,trivial⟩
     have f121:=Sep.oc sp.f4
     refine RunT.same (v:=v84) Ty_ok rfl rfl (by simp[hh,m2_1,f67,f100,f107,f114,f121,-cellsA,-indexAddrF,-one1,cAx,o1x]) (fun hl=>absurd (hl.symm.trans (show lateC _ _ _=true by kernel_rfl)) (by decide)) ?_
     refine RunT.fin (by refine⟨v83,v84,v61,v63,by simp[hh,m2_1,f67,f100,f107,f114,f121,-cellsA,-indexAddrF,-one1,cAx,o1x],sp.f1.dr.f3.f3⟩)
    have f128:=Sep.oc sp.f3
    refine RunT.same (v:=v83) Ty_ok rfl rfl (by simp[hh,m2_1,f67,f100,f128,-cellsA,-indexAddrF,-one1,cAx,o1x]) (fun hl=>absurd (hl.symm.trans (show lateC _ _ _=true by kernel_rfl)) (by decide)) ?_
    refine⟨?_,trivial⟩
    have f135:=Sep.oc sp.f4
    refine RunT.same (v:=v84) Ty_ok rfl rfl (by simp[hh,m2_1,f67,f100,f128,f135,-cellsA,-indexAddrF,-one1,cAx,o1x]) (fun hl=>absurd (hl.symm.trans (show lateC _ _ _=true by kernel_rfl)) (by decide)) ?_
    refine⟨?_,trivial⟩
    have f142:=Sep.oc sp.f4
    refine RunT.same (v:=v84) Ty_ok rfl rfl (by simp[hh,m2_1,f67,f100,f128,f135,f142,-cellsA,-indexAddrF,-one1,cAx,o1x]) (fun hl=>absurd (hl.symm.trans (show lateC _ _ _=true by kernel_rfl)) (by decide)) ?_
    refine RunT.fin (by refine⟨v83,v84,v61,v63,by simp[hh,m2_1,f67,f100,f128,f135,f142,-cellsA,-indexAddrF,-one1,cAx,o1x],sp.f1.dr.f3.f3⟩)
   have f149:=Sep.oc sp.f4
   refine RunT.same (v:=v84) Ty_ok rfl rfl (by simp[hh,m2_1,f67,f149,-cellsA,-indexAddrF,-one1,cAx,o1x]) (fun hl=>absurd (hl.symm.trans (show lateC _ _ _=true by kernel_rfl)) (by decide)) ?_
   refine⟨?_,trivial⟩
   have f156:=Sep.oc sp.f3
   refine RunT.same (v:=v83) Ty_ok rfl rfl (by simp[hh,m2_1,f67,f149,f156,-cellsA,-indexAddrF,-one1,cAx,o1x]) (fun hl=>absurd (hl.symm.trans (show lateC _ _ _=true by kernel_rfl)) (by decide)) ?_
   refine⟨?_,trivial⟩
   have f163:=Sep.oc sp.f3
   refine RunT.same (v:=v83) Ty_ok rfl rfl (by simp[hh,m2_1,f67,f149,f156,f163,-cellsA,-indexAddrF,-one1,cAx,o1x]) (fun hl=>absurd (hl.symm.trans (show lateC _ _ _=true by kernel_rfl)) (by decide)) ?_
   refine⟨?_,trivial⟩
   have f170:=Sep.oc sp.f4
   refine RunT.same (v:=v84) Ty_ok rfl rfl (by simp[hh,m2_1,f67,f149,f156,f163,f170,-cellsA,-indexAddrF,-one1,cAx,o1x]) (fun hl=>absurd (hl.symm.trans (show lateC _ _ _=true by kernel_rfl)) (by decide)) ?_
   refine RunT.fin (by refine⟨v83,v84,v61,v63,by simp[hh,m2_1,f67,f149,f156,f163,f170,-cellsA,-indexAddrF,-one1,cAx,o1x],sp.f1.dr.f3.f3⟩)
  clear hh m2_1
  rintro ρ H n76 ⟨v72,v73,v74,v75,⟨hh,m2_1⟩,sp⟩
  refine zE fun k' hk'=>?_
  obtain⟨hb171,h⟩:=h
  obtain⟨x172,ex172,h⟩:=atm h
  have f173:=fun H=>ix_list (H:=H) (fr:=false) (f:=intC) (k:=.i64) kd_24 (fun _=>rfl) hb171 ex172
  obtain⟨hb174,h⟩:=h
  obtain⟨id175,hv,mo176,ln177,ni178⟩:=Sep.openF sp.f2 (by simp) hb174
  subst hv
  simp at ni178
  obtain⟨x179,ex179,h⟩:=atm h
  have f180:=fun H (hm:H id175=some ⟨1,l48.map intC⟩)=>ix_arr (H:=H) (k:=.i64) (off:=0) (len:=l48.length) (g:=l48.length) kd_24 hm (by simp) rfl hb174
  have f181:=at_some (q:=x172.toNat) hb174 ex179 rfl
  obtain⟨l182,el182,h⟩:=atm h
  simp[hh,m2_1,mo176,ni178,f173,f180,f181,-indexAddrF,-storeF]
  refine bind_store (q:=x172.toNat) (news:=intC i47) [] [oI v72 r69.1,oI v73 r69.2,oI v75 l50] sp.f2 (by simp) (by simp;omega) (by simp) (by simp[-one1,o1x]) (Fill.v _ Fill.nil) ?_
  rintro H183 sp hfr184
  replace sp:Sep H183 n76 [oI (.arr id175 l48.length 0 l48.length) l182,oI v72 r69.1,oI v73 r69.2,oI v75 l50] [(n1,2)]:=Sep.st el182 sp
  have m2_1:=(hfr184 _ (by simp)).trans m2_1
  simp[hh,m2_1,ni178,f173,f180,f181,-indexAddrF]
  apply hk'
  refine Runs.cut (fun ρ H n=>∃ (v186 v187 v188 v189:AVal),((ρ 1 = .list false (order.map intC)∧ρ 2=pA n1 2∧ρ 6=v189∧ρ 8=v186∧ρ 9=int i47∧ρ 10=v187∧ρ 11=v188)∧H (n1,2)=some ⟨6,[bC false b]⟩)∧Sep H n [oI v186 l182,oI v187 r69.1,oI v188 r69.2,oI v189 l50] [(n1,2)]) (by refine⟨.arr id175 l48.length 0 l48.length,v72,v73,v75,by simp[hh,m2_1,ni178,f173,f180,f181,-indexAddrF],sp⟩) ?_
  clear hh m2_1 ni178
  rintro ρ H n190 ⟨v186,v187,v188,v189,⟨hh,m2_1⟩,sp⟩
  refine zE fun k' hk'=>?_
  simp[hh,m2_1]
  apply hk'
  refine zF fun k' hk'=>?_
  obtain⟨hb191,h⟩:=h
  obtain⟨l192,el192,h⟩:=atm h
  simp[hh,m2_1,-appendF]
  refine bind_append0 (r69.1.map intC) sp.f3 (by simp) kd_24 (by simp) (by simp) (Sep.src sp.f1 (by simp)) (by simp[-one1,o1x]) (by simpa using hb191) ?_
  rintro v193 H194 n195 sp hfr196 hle197
  replace sp:Sep H194 n195 [oI v193 l192,oI v186 l182,oI v187 r69.1,oI v188 r69.2] [(n1,2)]:=by refine Sep.ap el192 ?_;exact sp
  have m2_1:=(hfr196 _ (by simp)).trans m2_1
  simp[hh,m2_1]
  apply hk'
  refine Runs.cut (fun ρ H n=>∃ (v199 v200 v201:AVal),((ρ 1 = .list false (order.map intC)∧ρ 2=pA n1 2∧ρ 6=v199∧ρ 7=v201∧ρ 8=v200∧ρ 9=int i47)∧H (n1,2)=some ⟨6,[bC false b]⟩)∧Sep H n [oI v199 l192,oI v200 l182,oI v201 r69.2] [(n1,2)]) (by refine⟨v193,v186,v188,by simp[hh,m2_1],sp.f2.dr⟩) ?_
  clear hh m2_1
  rintro ρ H n202 ⟨v199,v200,v201,⟨hh,m2_1⟩,sp⟩
  refine Runs.inBlock ?_
  refine zF fun k' hk'=>?_
  obtain⟨hb203,h⟩:=h
  obtain⟨v204,ev204,h⟩:=atm h
  have f205:=ib_add hb203 ev204
  simp[hh,m2_1,f205,-intBin]
  apply hk'
  refine IH55 (v204,l182,r69.2,l192) _ _ _ h (by refine⟨v200,v201,v199,by simp[hh,m2_1],sp.f2.f2⟩)
 replace h:=h.2 dc59
 refine Runs.exit rfl ?_
 refine zE fun k' hk'=>?_
 obtain⟨hb206,h⟩:=h
 obtain⟨r207,er207,h⟩:=atm h
 simp[hh,m2_1,dc59]
 refine RunK.callW Ty_ok (tailZ_ok b l48 l49 hb206) e131 (.cons (argB false b) (.cons (Sep.argOk' sp (old_listF (by simp))) (.cons (Sep.argOk' sp.f1 (old_listF (by simp))) .nil))) sp (by decide) (by decide) rfl (by simp[hh,m2_1,dc59]) ?_
 rintro v208 H209 n210 _ sp rfl hle212 hfr211
 rw[← er207] at sp
 have m2_1:=(hfr211 _ (by simp)).trans m2_1
 replace sp:=Sep.unpackT sp
 obtain⟨L216,hv,hl217,sp⟩:=sp
 subst hv
 obtain⟨v214,v215,hv⟩:=len2 (by simpa using hl217)
 subst hv
 simp only[zip3,List.cons_append,List.nil_append] at sp
 replace sp:=Sep.rot sp
 try simp only[List.cons_append,List.nil_append,List.append_assoc] at sp
 replace sp:=Sep.rot sp
 try simp only[List.cons_append,List.nil_append,List.append_assoc] at sp
 simp[hh,m2_1,dc59]
 apply hk'
 refine Runs.cut (fun ρ H n=>∃ (v220 v221 v222:AVal),(ρ 6=v220∧ρ 12=v221∧ρ 13=v222)∧Sep H n [oI v220 l50,oI v221 r207.1,oI v222 r207.2] []) (by refine⟨v53,v214,v215,by simp[hh,m2_1,dc59],(Sep.sub sp.dr.dr (by simp +contextual))⟩) ?_
 clear hh m2_1
 rintro ρ H n223 ⟨v220,v221,v222,hh,sp⟩
 refine zE fun k' hk'=>?_
 obtain⟨hb224,h⟩:=h
 obtain⟨l225,el225,h⟩:=atm h
 simp[hh,-appendF]
 refine bind_append0 (r207.1.map intC) sp (by simp) kd_24 (by simp) (by simp) (Sep.src sp.f1 (by simp)) (by simp[-one1,o1x]) (by simpa using hb224) ?_
 rintro v226 H227 n228 sp hfr229 hle230
 replace sp:Sep H227 n228 [oI v226 l225,oI v221 r207.1,oI v222 r207.2] []:=by refine Sep.ap el225 ?_;exact sp
 simp[hh]
 apply hk'
 refine Runs.cut (fun ρ H n=>∃ (v232 v233:AVal),(ρ 4=v232∧ρ 5=v233)∧Sep H n [oI v232 l225,oI v233 r207.2] []) (by refine⟨v226,v222,by simp[hh],sp.f1.dr⟩) ?_
 clear hh
 rintro ρ H n234 ⟨v232,v233,hh,sp⟩
 exact Runs.ret2 (v:=v232) (w:=v233) Tryz.func84 Tryz.results84 (by simp[hh]) (by simp[hh]) (hQ _ _ _ _ (Sep.sub (ids':=[]) (Sep.packT (Fill.own (Fill.own Fill.nil)) sp) (by simp)) ⟨(l225,r207.2),h,rfl⟩)
theorem l5Code_ok (b:Big) (order:List Int) (hp:l5Code_pre b order):OwnS Tryz.prog 84 [.agg (bC false b),.list false (order.map intC)] (.t [.s [.c],.s [.c]]) (fun r=>r = .tup [.list true (((l5Code b order).1).map intC),.list true (((l5Code b order).2).map intC)]):=(l5Code_walk b order _ (l5Code_vc b order hp)).mono (by rintro _ ⟨_,rfl,rfl⟩;rfl)
end Go.Ab.Vg
/- Walks by program for YtkocdlgoncmdbaaGreatDoorAbL2k. -/
namespace Go.Ab.Vg
open Go.Proofs
set_option maxRecDepth 100000
set_option linter.unusedSimpArgs false
set_option linter.unusedVariables false
attribute [local simp] GNode.cells Wire.cells intC sliceC strC bC pA
theorem e179:Ent Tryz.prog 179:=Ent.of Tryz.func179 (by kernel_rfl) rfl
theorem l2Kids_walk (b:Big) (parent:Int) (Z:(List Int)→Prop) (h:l2Kids_wp b parent Z):OwnS Tryz.prog 179 [.agg (bC false b),int parent] (.s [.c]) (fun r=>∃ y:List Int,Z y∧r = .list true (y.map intC)):=by
 unfold l2Kids_wp at h
 have sp:Sep noHeap 0 [] []:=Sep.nil (by simp)
 refine OwnS.of Tryz.func179 rfl Tryz.ntmps179 (by simp) fun Q hQ=>?_
 refine Runs.cut (fun ρ H n=>(ρ 0 = .agg (bC false b)∧ρ 1=int parent)∧Sep H n [] []) (by refine⟨by simp ,sp⟩) ?_
 rintro ρ H n1 ⟨hh,sp⟩
 refine zE fun k' hk'=>?_
 simp[hh]
 apply hk'
 refine Runs.cut (fun ρ H n=>((ρ 1=int parent∧ρ 2=pA n1 2)∧H (n1,2)=some ⟨6,[bC false b]⟩)∧Sep H n [] [(n1,2)]) (by refine⟨by simp[hh],sp.var⟩) ?_
 clear hh
 rintro ρ H n3 ⟨⟨hh,m2_1⟩,sp⟩
 refine zE fun k' hk'=>?_
 simp[hh,m2_1]
 apply hk'
 refine Runs.cut (fun ρ H n=>∃ (v5:AVal),((ρ 1=int parent∧ρ 2=pA n1 2∧ρ 5=v5)∧H (n1,2)=some ⟨6,[bC false b]⟩)∧Sep H n [oI v5 ([]:List Int)] [(n1,2)]) (by refine⟨.arr (n3,7) 0 0 0,by simp[hh,m2_1],(Sep.addEmpty (l:=[.c]) sp)⟩) ?_
 clear hh m2_1
 rintro ρ H n6 ⟨v5,⟨hh,m2_1⟩,sp⟩
 refine Runs.seq ?_
 refine zE fun k' hk'=>?_
 simp[hh,m2_1]
 apply hk'
 refine Runs.block ?_
 refine Runs.loopW h (fun (sJ:Int × (List Int)) ρ H n=>match sJ with | (i14,l15)=>∃ (v16:AVal),((ρ 1=int parent∧ρ 2=pA n1 2∧ρ 5=v16∧ρ 6=int i14)∧H (n1,2)=some ⟨6,[bC false b]⟩)∧Sep H n [oI v16 l15] [(n1,2)]) (by refine⟨v5,by simp[hh,m2_1],sp⟩) ?_
 clear hh m2_1
 rintro⟨i14,l15⟩ ρ H n17 K h ⟨v16,⟨hh,m2_1⟩,sp⟩ IH18
 refine Runs.seq ?_
 refine zE fun k' hk'=>?_
 obtain⟨len20,elen20,h⟩:=atm h
 have f21:=fun H=>len_list (H:=H) (fr:=false) (f:=(GNode.cells false)) kd_34 elen20
 obtain⟨c22,ec22,h⟩:=atm h
 have f23:=ib_lss (k:=.i64) ec22
 simp[hh,m2_1,f21,f23,-intBin,-lenF]
 apply hk'
 refine Runs.ite (b:=c22) (by simp[hh,m2_1]) (fun dc22=>?_) (fun dc22=>?_)
 ·replace h:=h.1 dc22
  refine Runs.skip ?_
  refine Runs.seq ?_
  refine Runs.block ?_
  refine zE fun k' hk'=>?_
  obtain⟨hb24,h⟩:=h
  obtain⟨x25,ex25,h⟩:=atm h
  have f26:=fun H=>ix_list (H:=H) (fr:=false) (f:=(GNode.cells false)) (k:=.i64) kd_34 (fun _=>rfl) hb24 ex25
  obtain⟨c27,ec27,h⟩:=atm h
  have f28:=ib_eql (k:=.i64) ec27
  simp[hh,m2_1,f26,f28,dc22,-indexAddrF,-intBin]
  apply hk'
  refine Runs.ite (b:=c27) (by simp[hh,m2_1,dc22]) (fun dc27=>?_) (fun dc27=>?_)
  ·replace h:=h.1 dc27
   refine zF fun k' hk'=>?_
   obtain⟨hb29,h⟩:=h
   obtain⟨l30,el30,h⟩:=atm h
   simp[hh,m2_1,dc22,dc27,-appendF]
   refine bind_append [] [] [[int i14]] [intC i14] sp kd_24 (by simp) (by simp) (by simp) (by simp[-one1,o1x]) (rows_one (Fill.v _ Fill.nil)) (by simp) (by simpa using hb29) ?_
   rintro v31 H32 n33 sp hfr34 hle35
   replace sp:Sep H32 n33 [oI v31 l30] [(n1,2)]:=Sep.ap el30 sp
   have m2_1:=(hfr34 _ (by simp)).trans m2_1
   simp[hh,m2_1,dc22,dc27]
   apply hk'
   refine Runs.cut (fun ρ H n=>∃ (v37:AVal),((ρ 1=int parent∧ρ 2=pA n1 2∧ρ 5=v37∧ρ 6=int i14)∧H (n1,2)=some ⟨6,[bC false b]⟩)∧Sep H n [oI v37 l30] [(n1,2)]) (by refine⟨v31,by simp[hh,m2_1,dc22,dc27],sp⟩) ?_
   clear hh m2_1
   rintro ρ H n38 ⟨v37,⟨hh,m2_1⟩,sp⟩
   refine Runs.inBlock ?_
   refine zF fun k' hk'=>?_
   obtain⟨hb39,h⟩:=h
   obtain⟨v40,ev40,h⟩:=atm h
   have f41:=ib_add hb39 ev40
   simp[hh,m2_1,f41,-intBin]
   apply hk'
   refine IH18 (v40,l30) _ _ _ h (by refine⟨v37,by simp[hh,m2_1],sp⟩)
  replace h:=h.2 dc27
  refine Runs.skip ?_
  refine Runs.inBlock ?_
  refine zF fun k' hk'=>?_
  obtain⟨hb42,h⟩:=h
  obtain⟨v43,ev43,h⟩:=atm h
  have f44:=ib_add hb42 ev43
  simp[hh,m2_1,f44,dc22,dc27,-intBin]
  apply hk'
  refine Runs.cut (fun ρ H n=>∃ (v45:AVal),((ρ 1=int parent∧ρ 2=pA n1 2∧ρ 5=v45∧ρ 6=int v43)∧H (n1,2)=some ⟨6,[bC false b]⟩)∧Sep H n [oI v45 l15] [(n1,2)]) (by refine⟨v16,by simp[hh,m2_1,f44,dc22,dc27,-intBin],sp⟩) ?_
  clear hh m2_1
  rintro ρ H n46 ⟨v45,⟨hh,m2_1⟩,sp⟩
  refine IH18 (v43,l15) _ _ _ h (by refine⟨v45,by simp[hh,m2_1],sp⟩)
 replace h:=h.2 dc22
 refine Runs.exit rfl ?_
 refine zE fun k' hk'=>?_
 simp[hh,m2_1,dc22]
 apply hk'
 exact Runs.ret1 (v:=v16) Tryz.func179 Tryz.results179 (by simp[hh,m2_1,dc22]) (hQ _ _ _ _ (Sep.sub (ids':=[]) sp (by simp)) ⟨l15,h,rfl⟩)
theorem l2Kids_ok (b:Big) (parent:Int) (hp:l2Kids_pre b parent):OwnS Tryz.prog 179 [.agg (bC false b),int parent] (.s [.c]) (fun r=>r = .list true ((l2Kids b parent).map intC)):=(l2Kids_walk b parent _ (l2Kids_vc b parent hp)).mono (by rintro _ ⟨_,rfl,rfl⟩;rfl)
theorem e180:Ent Tryz.prog 180:=Ent.of Tryz.func180 (by kernel_rfl) rfl
theorem l2Holes_walk (b:Big) (parent:Int) (Z:(List Int)→Prop) (h:l2Holes_wp b parent Z):OwnS Tryz.prog 180 [.agg (bC false b),int parent] (.s [.c]) (fun r=>∃ y:List Int,Z y∧r = .list true (y.map intC)):=by
 unfold l2Holes_wp at h
 have sp:Sep noHeap 0 [] []:=Sep.nil (by simp)
 refine OwnS.of Tryz.func180 rfl Tryz.ntmps180 (by simp) fun Q hQ=>?_
 refine Runs.cut (fun ρ H n=>(ρ 0 = .agg (bC false b)∧ρ 1=int parent)∧Sep H n [] []) (by refine⟨by simp ,sp⟩) ?_
 rintro ρ H n1 ⟨hh,sp⟩
 refine zE fun k' hk'=>?_
 simp[hh]
 apply hk'
 refine Runs.cut (fun ρ H n=>((ρ 1=int parent∧ρ 2=pA n1 2)∧H (n1,2)=some ⟨6,[bC false b]⟩)∧Sep H n [] [(n1,2)]) (by refine⟨by simp[hh],sp.var⟩) ?_
 clear hh
 rintro ρ H n3 ⟨⟨hh,m2_1⟩,sp⟩
 refine zE fun k' hk'=>?_
 simp[hh,m2_1]
 apply hk'
 refine Runs.cut (fun ρ H n=>∃ (v5:AVal),((ρ 1=int parent∧ρ 2=pA n1 2∧ρ 5=v5)∧H (n1,2)=some ⟨6,[bC false b]⟩)∧Sep H n [oI v5 ([]:List Int)] [(n1,2)]) (by refine⟨.arr (n3,7) 0 0 0,by simp[hh,m2_1],(Sep.addEmpty (l:=[.c]) sp)⟩) ?_
 clear hh m2_1
 rintro ρ H n6 ⟨v5,⟨hh,m2_1⟩,sp⟩
 refine Runs.seq ?_
 refine zE fun k' hk'=>?_
 simp[hh,m2_1]
 apply hk'
 refine Runs.block ?_
 refine Runs.loopW h (fun (sJ:Int × (List Int)) ρ H n=>match sJ with | (i14,l15)=>∃ (v16:AVal),((ρ 1=int parent∧ρ 2=pA n1 2∧ρ 5=v16∧ρ 6=int i14)∧H (n1,2)=some ⟨6,[bC false b]⟩)∧Sep H n [oI v16 l15] [(n1,2)]) (by refine⟨v5,by simp[hh,m2_1],sp⟩) ?_
 clear hh m2_1
 rintro⟨i14,l15⟩ ρ H n17 K h ⟨v16,⟨hh,m2_1⟩,sp⟩ IH18
 refine Runs.seq ?_
 refine zE fun k' hk'=>?_
 obtain⟨len20,elen20,h⟩:=atm h
 have f21:=fun H=>len_list (H:=H) (fr:=false) (f:=intC) kd_24 elen20
 obtain⟨c22,ec22,h⟩:=atm h
 have f23:=ib_lss (k:=.i64) ec22
 simp[hh,m2_1,f21,f23,-intBin,-lenF]
 apply hk'
 refine Runs.ite (b:=c22) (by simp[hh,m2_1]) (fun dc22=>?_) (fun dc22=>?_)
 ·replace h:=h.1 dc22
  refine Runs.skip ?_
  refine Runs.seq ?_
  refine Runs.block ?_
  refine zE fun k' hk'=>?_
  obtain⟨hb24,h⟩:=h
  obtain⟨x25,ex25,h⟩:=atm h
  have f26:=fun H=>ix_list (H:=H) (fr:=false) (f:=intC) (k:=.i64) kd_24 (fun _=>rfl) hb24 ex25
  obtain⟨c27,ec27,h⟩:=atm h
  have f28:=ib_eql (k:=.i64) ec27
  simp[hh,m2_1,f26,f28,dc22,-indexAddrF,-intBin]
  apply hk'
  refine Runs.ite (b:=c27) (by simp[hh,m2_1,dc22]) (fun dc27=>?_) (fun dc27=>?_)
  ·replace h:=h.1 dc27
   refine zF fun k' hk'=>?_
   obtain⟨hb29,h⟩:=h
   obtain⟨l30,el30,h⟩:=atm h
   simp[hh,m2_1,dc22,dc27,-appendF]
   refine bind_append [] [] [[int i14]] [intC i14] sp kd_24 (by simp) (by simp) (by simp) (by simp[-one1,o1x]) (rows_one (Fill.v _ Fill.nil)) (by simp) (by simpa using hb29) ?_
   rintro v31 H32 n33 sp hfr34 hle35
   replace sp:Sep H32 n33 [oI v31 l30] [(n1,2)]:=Sep.ap el30 sp
   have m2_1:=(hfr34 _ (by simp)).trans m2_1
   simp[hh,m2_1,dc22,dc27]
   apply hk'
   refine Runs.cut (fun ρ H n=>∃ (v37:AVal),((ρ 1=int parent∧ρ 2=pA n1 2∧ρ 5=v37∧ρ 6=int i14)∧H (n1,2)=some ⟨6,[bC false b]⟩)∧Sep H n [oI v37 l30] [(n1,2)]) (by refine⟨v31,by simp[hh,m2_1,dc22,dc27],sp⟩) ?_
   clear hh m2_1
   rintro ρ H n38 ⟨v37,⟨hh,m2_1⟩,sp⟩
   refine Runs.inBlock ?_
   refine zF fun k' hk'=>?_
   obtain⟨hb39,h⟩:=h
   obtain⟨v40,ev40,h⟩:=atm h
   have f41:=ib_add hb39 ev40
   simp[hh,m2_1,f41,-intBin]
   apply hk'
   refine IH18 (v40,l30) _ _ _ h (by refine⟨v37,by simp[hh,m2_1],sp⟩)
  replace h:=h.2 dc27
  refine Runs.skip ?_
  refine Runs.inBlock ?_
  refine zF fun k' hk'=>?_
  obtain⟨hb42,h⟩:=h
  obtain⟨v43,ev43,h⟩:=atm h
  have f44:=ib_add hb42 ev43
  simp[hh,m2_1,f44,dc22,dc27,-intBin]
  apply hk'
  refine Runs.cut (fun ρ H n=>∃ (v45:AVal),((ρ 1=int parent∧ρ 2=pA n1 2∧ρ 5=v45∧ρ 6=int v43)∧H (n1,2)=some ⟨6,[bC false b]⟩)∧Sep H n [oI v45 l15] [(n1,2)]) (by refine⟨v16,by simp[hh,m2_1,f44,dc22,dc27,-intBin],sp⟩) ?_
  clear hh m2_1
  rintro ρ H n46 ⟨v45,⟨hh,m2_1⟩,sp⟩
  refine IH18 (v43,l15) _ _ _ h (by refine⟨v45,by simp[hh,m2_1],sp⟩)
 replace h:=h.2 dc22
 refine Runs.exit rfl ?_
 refine zE fun k' hk'=>?_
 simp[hh,m2_1,dc22]
 apply hk'
 exact Runs.ret1 (v:=v16) Tryz.func180 Tryz.results180 (by simp[hh,m2_1,dc22]) (hQ _ _ _ _ (Sep.sub (ids':=[]) sp (by simp)) ⟨l15,h,rfl⟩)
theorem l2Holes_ok (b:Big) (parent:Int) (hp:l2Holes_pre b parent):OwnS Tryz.prog 180 [.agg (bC false b),int parent] (.s [.c]) (fun r=>r = .list true ((l2Holes b parent).map intC)):=(l2Holes_walk b parent _ (l2Holes_vc b parent hp)).mono (by rintro _ ⟨_,rfl,rfl⟩;rfl)
end Go.Ab.Vg
/- The abstract machine, part O: regions that draw their order and make variables. -/
namespace Go.Ab
def kindN:Op→Nat
 | .move _ | .assign _ | .pick .. | .binOp .. | .unOp .. | .convert .. | .makeFunc .. | .extract .. | .field .. | .index .. | .build ..=>0
 | .load .. | .fieldAddr .. | .indexAddr .. | .nilCheck _ | .call ⟨.builtin .len,_,_⟩=>1
 | .alloc _=>3
 | .store ..=>4
 | _=>2
def compatN (a b:Nat):Bool:=a == 0 || b == 0 || (a == 1 && (b == 1 || b == 3 || b == 4)) || (a == 3 && (b == 1 || b == 3 || b == 4)) || (a == 4 && (b == 1 || b == 3))
def idOk (n0:Nat):AVal→Prop
 | .ptr id _ _ _ | .arr id _ _ _=>id.1<n0
 | _=>True
def condN (n0:Nat) (op:Op) (ρ:Env):Prop:=
 match op with
 | .load _ a | .fieldAddr _ a _ | .nilCheck a=>idOk n0 (ρ.ev a)
 | .indexAddr _ x _=>idOk n0 (ρ.ev x)
 | .call ⟨.builtin .len,args,_⟩=>∀ x ∈ args.toList,idOk n0 (ρ.ev x)
 | .store _ a _=>∃ id g idx off,ρ.ev a = .ptr id g idx off∧n0≤id.1
 | _=>kindN op=0
theorem view_agree {n0:Nat} {H H2:Heap} (hag:∀ id:Id,id.1<n0→H2 id=H id) {p:AVal} (hp:idOk n0 p):viewOf H2 p=viewOf H p:=by
 cases p with
 | ptr id g idx off=>simp only[viewOf];rw[hag id hp]
 | _=>rfl
theorem live_agree {n0:Nat} {H H2:Heap} (hag:∀ id:Id,id.1<n0→H2 id=H id) {id:Id} {g:Nat} (hp:id.1<n0):live H2 id g=live H id g:=by
 unfold live
 rw[hag id hp]
section
variable {Ty:Types} {ρ:Env} {H H2 H':Heap} {n n2 n' n0:Nat} {d:Option Tmp} {v:AVal} {op:Op}
theorem stepF_n0 (hk:kindN op=0) (h:stepF Ty d op ρ H n=some (v,H',n')):H'=H∧n'=n∧∀ H2 n2,stepF Ty d op ρ H2 n2=some (v,H2,n2):=by
 refine stepF_k0 ?_ h
 cases op with
 | call c=>
  obtain⟨cal,args,ats⟩:=c
  cases cal with
  | builtin b=>cases b<;>simp[kindN] at hk
  | _=>simp[kindN] at hk
 | _=>first | rfl | (simp[kindN] at hk)
theorem stepF_n1 (hk:kindN op=1) (hc:condN n0 op ρ) (hag:∀ id:Id,id.1<n0→H2 id=H id) (h:stepF Ty d op ρ H n=some (v,H',n')):H'=H∧n'=n∧stepF Ty d op ρ H2 n2=some (v,H2,n2):=by
 cases op with
 | load t a=>
  simp only[stepF] at h ⊢
  rw[view_agree hag hc]
  split at h
  ·split at h
   ·cases h;exact⟨rfl,rfl,rfl⟩
   ·cases h
  ·cases h
 | fieldAddr t a f=>
  simp only[stepF] at h ⊢
  rw[view_agree hag hc]
  split at h
  ·split at h
   ·split at h
    ·cases h
    ·rename_i hz
     cases h
     exact⟨rfl,rfl,by rw[if_neg hz]⟩
   ·cases h
  ·cases h
 | nilCheck a=>
  simp only[stepF] at h ⊢
  rw[view_agree hag hc]
  split at h
  ·cases h;exact⟨rfl,rfl,rfl⟩
  ·cases h
 | indexAddr t x ix=>
  obtain⟨h1,h2,h3⟩:=map_some_eq h
  refine⟨h2,h3,?_⟩
  have:indexAddrF Ty H2 t (ρ.ev x) (ρ.ev ix)=indexAddrF Ty H t (ρ.ev x) (ρ.ev ix):=by
   simp only[condN] at hc
   unfold indexAddrF
   split
   ·generalize ρ.ev x=p at hc
    cases hkd:kd Ty t with
    | slice j=>cases p with
     | arr id g off len=>simp only[live_agree hag (show id.1<n0 from hc)]
     | _=>rfl
    | arr len j=>simp only[view_agree hag hc]
    | _=>rfl
   ·rfl
  simp only[stepF,this,h1,Option.map_some]
 | call c=>
  obtain⟨cal,args,ats⟩:=c
  cases cal with
  | builtin b=>
   cases b<;>simp[kindN] at hk
   simp only[stepF] at h ⊢
   split at h
   ·rename_i x t hx ht
    obtain⟨h1,h2,h3⟩:=map_some_eq h
    refine⟨h2,h3,?_⟩
    have hcx:idOk n0 (ρ.ev x):=hc x (by rw[hx];simp)
    have:lenF Ty H2 t (ρ.ev x)=lenF Ty H t (ρ.ev x):=by
     unfold lenF
     generalize ρ.ev x=p at hcx
     cases hkd:kd Ty t with
     | slice j=>cases p with
      | arr id g off len=>simp only[live_agree hag (show id.1<n0 from hcx)]
      | v x=>cases x<;>rfl
      | _=>rfl
     | string=>cases p with
      | v x=>cases x<;>rfl
      | _=>rfl
     | _=>rfl
    simp only[this,h1,Option.map_some]
   ·cases h
  | _=>simp[kindN] at hk
 | _=>simp[kindN] at hk
def tgt:Op→Env→Option Id
 | .store _ a _,ρ=>match ρ.ev a with
  | .ptr id _ _ _=>some id
  | _=>none
 | _,_=>none
theorem stepF_n4 (hk:kindN op=4) (hc:condN n0 op ρ) (h:stepF Ty d op ρ H n=some (v,H',n')) :
  ∃ id ob ob',tgt op ρ=some id∧n0≤id.1∧H id=some ob∧H'=H.set id ob'∧n'=n∧∀ H2 n2,H2 id=some ob→stepF Ty d op ρ H2 n2=some (v,H2.set id ob',n2):=by
 cases op with
 | store t a x=>
  obtain⟨id,g,idx,off,ha,hid⟩:=hc
  simp only[stepF] at h ⊢
  rw[ha] at h ⊢
  split at h
  ·rename_i H1 hs
   cases h
   unfold storeF at hs
   split at hs
   ·rename_i i id1 g1 idx1 off1 new e1 e2 e3
    cases e2
    split at hs
    ·rename_i o hl
     split at hs
     ·rename_i hcond
      cases hs
      obtain⟨l1,l2⟩:=live_some hl
      refine⟨id,o,o.write idx off new,by simp only[tgt,ha],hid,l1,rfl,rfl,fun H2 n2 h2=>?_⟩
      have hl2:live H2 id g=some o:=by
       unfold live
       rw[h2]
       simp[l2]
      simp only[storeF,e1,e3,hl2,if_pos hcond]
     ·cases hs
    ·cases hs
   ·cases hs
  ·cases h
 | call c=>
  obtain⟨cal,args,ats⟩:=c
  cases cal with
  | builtin b=>cases b<;>simp[kindN] at hk
  | _=>simp[kindN] at hk
 | _=>simp[kindN] at hk
end
theorem condN_loc {n0:Nat} {op:Op} {ρ:Env}:condN n0 op (loc op ρ)↔condN n0 op ρ:=by
 have h:∀ x,x ∈ op.operands→(loc op ρ).ev x=ρ.ev x:=fun x hx=>loc_ev hx
 generalize loc op ρ=ρ' at h
 cases op with
 | call c=>
  obtain⟨cal,args,ats⟩:=c
  cases cal with
  | builtin b=>
   cases b<;>try rfl
   have ha:∀ x,x ∈ args.toList→ρ'.ev x=ρ.ev x:=fun x hx=>h x (by simp[Op.operands,Call.operands];simpa using hx)
   simp only[condN]
   exact⟨fun hc x hx=>by rw[← ha x hx];exact hc x hx,fun hc x hx=>by rw[ha x hx];exact hc x hx⟩
  | _=>rfl
 | load t a=>simp only[condN];rw[h a (by simp[Op.operands])]
 | fieldAddr t a f=>simp only[condN];rw[h a (by simp[Op.operands])]
 | nilCheck a=>simp only[condN];rw[h a (by simp[Op.operands])]
 | indexAddr t x i=>simp only[condN];rw[h x (by simp[Op.operands])]
 | store t a x=>simp only[condN];rw[h a (by simp[Op.operands])]
 | _=>rfl
section
variable (Ty:Types) (ops:Array Oper) (n0:Nat)
def DoN (o:Oper) (s:AS) (R:AS→Prop):Prop:=
 (gok ops o s.1=some false∧R (s.1.put o.dst skv,s.2)) ∨
 (gok ops o s.1=some true∧kindN o.op ≠ 3∧condN n0 o.op s.1∧∃ v H',stepF Ty o.dst o.op s.1 s.2.1 s.2.2=some (v,H',s.2.2)∧R (s.1.put o.dst v,H',s.2.2)) ∨
 (gok ops o s.1=some true∧∃ t k i,o.op = .alloc t∧o.dst=some k∧Ty t=some i∧∀ a,n0≤a→(∀ j,s.2.1 (a,j)=none)→R (s.1.put (some k) (.ptr (a,k) 1 0 0),s.2.1.set (a,k) ⟨i.zero.length,[i.zero.map .v]⟩,max s.2.2 (a+1)))
def Bd (s:AS):Prop:=n0≤s.2.2∧∀ id o,s.2.1 id=some o→id.1<s.2.2
end
theorem set_comm {H:Heap} {i j:Id} (o p:Ob) (h:i ≠ j):(H.set i o).set j p=(H.set j p).set i o:=by
 funext x
 simp only[Heap.set]
 by_cases h1:x=i<;>by_cases h2:x=j<;>simp_all
section
variable {Ty:Types} {ops:Array Oper} {n0:Nat}
theorem DoN.mono {o:Oper} {s:AS} {R R':AS→Prop} (h:DoN Ty ops n0 o s R) (hR:∀ s,R s→R' s):DoN Ty ops n0 o s R':=by
 rcases h with ⟨h1,h2⟩ | ⟨h1,h2,h3,v,H',h4,h5⟩ | ⟨h1,t,k,i,h2,h3,h4,h5⟩
 ·exact .inl ⟨h1,hR _ h2⟩
 ·exact .inr (.inl ⟨h1,h2,h3,v,H',h4,hR _ h5⟩)
 ·exact .inr (.inr ⟨h1,t,k,i,h2,h3,h4,fun a ha hf=>hR _ (h5 a ha hf)⟩)
theorem kind_cond {op:Op} {ρ:Env} (h3:kindN op ≠ 3) (h:condN n0 op ρ):kindN op=0∨kindN op=1∨kindN op=4:=by
 cases op with
 | call c=>
  obtain⟨cal,args,ats⟩:=c
  cases cal with
  | builtin b=>cases b<;>first | (simp[kindN];done) | (simp[condN,kindN] at h)
  | _=>simp[condN,kindN] at h
 | buildSlice t len ps=>simp only[condN] at h;exact .inl h
 | _=>first | (simp[kindN];done) | (simp[condN,kindN] at h;done) | (simp[kindN] at h3)
theorem fresh_ex {s:AS} (hb:Bd n0 s) (j:Nat):s.2.1 (s.2.2,j)=none:=by
 cases h:s.2.1 (s.2.2,j) with
 | none=>rfl
 | some o=>have:=hb.2 _ o h;simp at this
theorem DoN.bd {o:Oper} {s:AS} {R:AS→Prop} (hb:Bd n0 s) (h:DoN Ty ops n0 o s R):DoN Ty ops n0 o s fun s'=>Bd n0 s'∧R s':=by
 rcases h with ⟨h1,h2⟩ | ⟨h1,h2,h3,v,H',h4,h5⟩ | ⟨h1,t,k,i,h2,h3,h4,h5⟩
 ·exact .inl ⟨h1,hb,h2⟩
 ·refine .inr (.inl ⟨h1,h2,h3,v,H',h4,⟨hb.1,?_⟩,h5⟩)
  rcases kind_cond h2 h3 with hk | hk | hk
  ·obtain⟨rfl,_⟩:=stepF_n0 hk h4;exact hb.2
  ·obtain⟨rfl,_⟩:=stepF_n1 (H2:=s.2.1) (n2:=s.2.2) hk h3 (fun _ _=>rfl) h4;exact hb.2
  ·obtain⟨id,ob,ob',_,_,e2,rfl,_⟩:=stepF_n4 hk h3 h4
   intro id' o' ho'
   simp only at ho' ⊢
   by_cases he:id'=id
   ·rw[he];exact hb.2 _ _ e2
   ·rw[Heap.get_set_ne _ _ he] at ho';exact hb.2 _ _ ho'
 ·refine .inr (.inr ⟨h1,t,k,i,h2,h3,h4,fun a ha hf=>⟨⟨?_,?_⟩,h5 a ha hf⟩⟩)
  ·have:=hb.1;simp only;omega
  ·intro id' o' ho'
   simp only at ho' ⊢
   by_cases he:id'=(a,k)
   ·rw[he];simp only;omega
   ·rw[Heap.get_set_ne _ _ he] at ho'
    have:=hb.2 _ _ ho'
    omega
theorem DoN.swap {oi oj:Oper} (hap:oi.apart ops oj=true) (hc:compatN (kindN oi.op) (kindN oj.op)=true) {s:AS} (hb:Bd n0 s) {R:AS→Prop} (h:DoN Ty ops n0 oi s fun si=>DoN Ty ops n0 oj si R) :
  DoN Ty ops n0 oj s fun sj=>DoN Ty ops n0 oi sj R:=by
 obtain⟨h1,h2,h3⟩:=Oper.apart_spec hap
 have sj:∀ v H n,stepF Ty oj.dst oj.op (s.1.put oi.dst v) H n=stepF Ty oj.dst oj.op s.1 H n:=fun v H n=>by rw[← stepF_loc,loc_put (looks_tmps h1),stepF_loc]
 have si:∀ v H n,stepF Ty oi.dst oi.op (s.1.put oj.dst v) H n=stepF Ty oi.dst oi.op s.1 H n:=fun v H n=>by rw[← stepF_loc,loc_put (looks_tmps h3),stepF_loc]
 have cj:∀ v,condN n0 oj.op (s.1.put oi.dst v)↔condN n0 oj.op s.1:=fun v=>by rw[← condN_loc,loc_put (looks_tmps h1),condN_loc]
 have ci:∀ v,condN n0 oi.op (s.1.put oj.dst v)↔condN n0 oi.op s.1:=fun v=>by rw[← condN_loc,loc_put (looks_tmps h3),condN_loc]
 have gj:∀ v,gok ops oj (s.1.put oi.dst v)=gok ops oj s.1:=fun v=>gok_put h1
 have gi:∀ v,gok ops oi (s.1.put oj.dst v)=gok ops oi s.1:=fun v=>gok_put h3
 have pc:∀ v u,(s.1.put oi.dst v).put oj.dst u=(s.1.put oj.dst u).put oi.dst v:=fun v u=>put_comm v u h2
 obtain⟨ρ,H,n⟩:=s
 simp only at sj si cj ci gj gi pc
 rcases h with ⟨hgi,h⟩ | ⟨hgi,hki,hci,v,Hi,hsi,h⟩ | ⟨hgi,t,k,i,hop,hd,hT,h⟩
 ·-- oi is skipped
  rcases h with ⟨hgj,h⟩ | ⟨hgj,hkj,hcj,u,Hj,hsj,h⟩ | ⟨hgj,t',k',i',hop',hd',hT',h⟩
  ·simp only[gj] at hgj
   exact .inl ⟨hgj,.inl ⟨by simpa only [gi] using hgi,by simpa only [pc] using h⟩⟩
  ·simp only[gj,cj,sj] at hgj hcj hsj
   exact .inr (.inl ⟨hgj,hkj,hcj,u,Hj,hsj,.inl ⟨by simpa only [gi] using hgi,by simpa only [pc] using h⟩⟩)
  ·simp only[gj] at hgj
   rw[hd'] at pc gi
   exact .inr (.inr ⟨hgj,t',k',i',hop',hd',hT',fun a ha hf=>.inl ⟨by simpa only [gi] using hgi,by simpa only [pc] using h a ha hf⟩⟩)
 ·-- oi runs
  rcases h with ⟨hgj,h⟩ | ⟨hgj,hkj,hcj,u,Hj,hsj,h⟩ | ⟨hgj,t',k',i',hop',hd',hT',h⟩
  ·simp only[gj] at hgj
   exact .inl ⟨hgj,.inr (.inl ⟨by simpa only [gi] using hgi,hki,by simpa only [ci] using hci,v,Hi,by simpa only [si] using hsi,by simpa only [pc] using h⟩)⟩
  ·simp only[gj,cj,sj] at hgj hcj hsj
   simp only at hsi hci hgi h
   -- both run
   have key:∃ Hj',stepF Ty oj.dst oj.op ρ H n=some (u,Hj',n)∧stepF Ty oi.dst oi.op ρ Hj' n=some (v,Hj,n):=by
    rcases kind_cond hki hci with ki | ki | ki
    ·obtain⟨rfl,_,hall⟩:=stepF_n0 ki hsi
     exact⟨Hj,hsj,hall Hj n⟩
    ·obtain⟨rfl,_,_⟩:=stepF_n1 (H2:=H) (n2:=n) ki hci (fun _ _=>rfl) hsi
     rcases kind_cond hkj hcj with kj | kj | kj
     ·obtain⟨rfl,_,hall⟩:=stepF_n0 kj hsj
      exact⟨_,hsj,hsi⟩
     ·obtain⟨rfl,_,_⟩:=stepF_n1 (H2:=Hi) (n2:=n) kj hcj (fun _ _=>rfl) hsj
      exact⟨_,hsj,hsi⟩
     ·obtain⟨id,ob,ob',_,e1,e2,rfl,_,_⟩:=stepF_n4 kj hcj hsj
      refine⟨_,hsj,?_⟩
      exact (stepF_n1 ki hci (fun id' hid=>Heap.get_set_ne _ _ (by rintro rfl;omega)) hsi).2.2
    ·obtain⟨id,ob,ob',_,e1,e2,rfl,_,hall⟩:=stepF_n4 ki hci hsi
     rcases kind_cond hkj hcj with kj | kj | kj
     ·obtain⟨rfl,_,hall'⟩:=stepF_n0 kj hsj
      exact⟨H,hall' H n,hsi⟩
     ·obtain⟨rfl,_,hst⟩:=stepF_n1 (H2:=H) (n2:=n) kj hcj (fun id' hid=>(Heap.get_set_ne _ _ (by rintro rfl;omega)).symm) hsj
      exact⟨H,hst,hsi⟩
     ·rw[ki,kj] at hc;simp[compatN] at hc
   obtain⟨Hj',k1,k2⟩:=key
   exact .inr (.inl ⟨hgj,hkj,hcj,u,Hj',k1,.inr (.inl ⟨by simpa only [gi] using hgi,hki,by simpa only [ci] using hci,v,Hj,by simpa only [si] using k2,by simpa only [pc] using h⟩)⟩)
  ·-- oj makes a variable
   simp only[gj] at hgj
   rw[hd'] at pc gi si ci
   refine .inr (.inr ⟨hgj,t',k',i',hop',hd',hT',fun a ha hf=>?_⟩)
   simp only at hsi hci hgi h hf
   rcases kind_cond hki hci with ki | ki | ki
   ·obtain⟨rfl,_,hall⟩:=stepF_n0 ki hsi
    exact .inr (.inl ⟨by simpa only [gi] using hgi,hki,by simpa only [ci] using hci,v,_,by simpa only [si] using hall _ _,by simpa only [pc] using h a ha hf⟩)
   ·obtain⟨rfl,_,_⟩:=stepF_n1 (H2:=H) (n2:=n) ki hci (fun _ _=>rfl) hsi
    have hst:=(stepF_n1 (n2:=max n (a+1)) ki hci (fun id' hid=>Heap.get_set_ne Hi ⟨i'.zero.length,[i'.zero.map .v]⟩ (i:=(a,k')) (by rintro rfl;simp only at hid;omega)) hsi).2.2
    exact .inr (.inl ⟨by simpa only [gi] using hgi,hki,by simpa only [ci] using hci,v,_,by simpa only [si] using hst,by simpa only [pc] using h a ha hf⟩)
   ·obtain⟨id,ob,ob',_,e1,e2,rfl,_,hall⟩:=stepF_n4 ki hci hsi
    have hne:id ≠ (a,k'):=by rintro rfl;rw[hf k'] at e2;cases e2
    have hf':∀ j,(H.set id ob') (a,j)=none:=fun j=>by
     rw[Heap.get_set_ne _ _ (by rintro rfl;rw[hf j] at e2;cases e2)]
     exact hf j
    have hst:=hall (H.set (a,k') ⟨i'.zero.length,[i'.zero.map .v]⟩) (max n (a+1)) (by rw[Heap.get_set_ne _ _ hne];exact e2)
    have hfin:=h a ha hf'
    rw[set_comm _ _ hne] at hfin
    exact .inr (.inl ⟨by simpa only [gi] using hgi,hki,by simpa only [ci] using hci,v,_,by simpa only [si] using hst,by simpa only [pc] using hfin⟩)
 ·-- oi makes a variable
  simp only at hgi h
  rw[hd] at pc gj sj cj
  have hf0:∀ j,H (n,j)=none:=fun j=>fresh_ex hb j
  have hn0:n0≤n:=hb.1
  have hi3:kindN oi.op=3:=by rw[hop];rfl
  rcases h n hn0 hf0 with ⟨hgj,_⟩ | ⟨hgj,hkj,hcj,u,Hj,hsj,_⟩ | ⟨hgj,t',k',i',hop',hd',hT',_⟩
  ·simp only[gj] at hgj
   refine .inl ⟨hgj,.inr (.inr ⟨by simpa only [gi] using hgi,t,k,i,hop,hd,hT,fun a ha hf=>?_⟩)⟩
   rcases h a ha hf with ⟨_,h⟩ | ⟨hg,_⟩ | ⟨hg,_⟩
   ·simpa only [pc] using h
   ·simp only[gj,hgj] at hg;cases hg
   ·simp only[gj,hgj] at hg;cases hg
  ·simp only[gj,cj,sj] at hgj hcj hsj
   have back:∀ a,n0≤a→(∀ j,H (a,j)=none)→∃ ua Ha,stepF Ty oj.dst oj.op ρ (H.set (a,k) ⟨i.zero.length,[i.zero.map .v]⟩) (max n (a+1))=some (ua,Ha,max n (a+1))∧R ((ρ.put (some k) (.ptr (a,k) 1 0 0)).put oj.dst ua,Ha,max n (a+1)):=by
    intro a ha hf
    rcases h a ha hf with ⟨hg,_⟩ | ⟨_,_,_,ua,Ha,hs,hR⟩ | ⟨_,t',_,_,hop',_⟩
    ·simp only[gj,hgj] at hg;cases hg
    ·simp only[sj] at hs
     exact⟨ua,Ha,hs,hR⟩
    ·exact absurd (by rw[hop'];rfl) hkj
   have hout:∀ (a:Nat) (id':Id),n0≤a→id'.1<n0→(H.set (a,k) ⟨i.zero.length,[i.zero.map .v]⟩) id'=H id':=fun a id' ha hid=>Heap.get_set_ne _ _ (by rintro rfl;simp only at hid;omega)
   rcases kind_cond hkj hcj with kj | kj | kj
   ·obtain⟨rfl,_,hall⟩:=stepF_n0 kj hsj
    refine .inr (.inl ⟨hgj,hkj,hcj,u,H,hall H n,.inr (.inr ⟨by simpa only [gi] using hgi,t,k,i,hop,hd,hT,fun a ha hf=>?_⟩)⟩)
    obtain⟨ua,Ha,hs,hR⟩:=back a ha hf
    rw[hall] at hs
    cases hs
    simpa only [pc] using hR
   ·have hst:=(stepF_n1 (H2:=H) (n2:=n) kj hcj (fun id' hid=>(hout n id' hn0 hid).symm) hsj).2.2
    refine .inr (.inl ⟨hgj,hkj,hcj,u,H,hst,.inr (.inr ⟨by simpa only [gi] using hgi,t,k,i,hop,hd,hT,fun a ha hf=>?_⟩)⟩)
    obtain⟨ua,Ha,hs,hR⟩:=back a ha hf
    have hst2:=(stepF_n1 (H2:=H.set (a,k) ⟨i.zero.length,[i.zero.map .v]⟩) (n2:=max n (a+1)) kj hcj (fun id' hid=>hout a id' ha hid) hst).2.2
    rw[hst2] at hs
    cases hs
    simpa only [pc] using hR
   ·obtain⟨id,o1,o1',t1,_,e2,rfl,_,hall⟩:=stepF_n4 kj hcj hsj
    obtain⟨u2,H2,hs2,_⟩:=back (n+1) (by omega) (fun j=>by
     cases hx:H (n+1,j) with
     | none=>rfl
     | some o=>have:=hb.2 (n+1,j) o hx;simp only at this;omega)
    obtain⟨id2,o2,o2',t2,_,e2',_⟩:=stepF_n4 kj hcj hs2
    rw[t1] at t2
    cases t2
    have hne:id ≠ (n,k):=by
     rintro rfl
     rw[Heap.get_set_ne _ _ (by intro he;have:=congrArg Prod.fst he;simp only at this;omega),hf0 k] at e2'
     cases e2'
    rw[Heap.get_set_ne _ _ hne] at e2
    refine .inr (.inl ⟨hgj,hkj,hcj,u,H.set id o1',hall H n e2,.inr (.inr ⟨by simpa only [gi] using hgi,t,k,i,hop,hd,hT,fun a ha hf=>?_⟩)⟩)
    simp only at hf ⊢
    have hf':∀ j,H (a,j)=none:=fun j=>by
     have:=hf j
     by_cases he:(a,j)=id
     ·rw[he,Heap.get_set_self] at this;cases this
     ·rwa [Heap.get_set_ne _ _ he] at this
    have hne':id ≠ (a,k):=by
     rintro rfl
     rw[hf' k] at e2
     cases e2
    obtain⟨ua,Ha,hs,hR⟩:=back a ha hf'
    rw[hall _ _ (by rw[Heap.get_set_ne _ _ hne'];exact e2)] at hs
    cases hs
    rw[set_comm _ _ hne',← pc]
    exact hR
  ·simp only[gj] at hgj
   rw[hd'] at pc gi
   refine .inr (.inr ⟨hgj,t',k',i',hop',hd',hT',fun b hb' hfb=>.inr (.inr ⟨by simpa only [gi] using hgi,t,k,i,hop,hd,hT,fun a ha hfa=>?_⟩)⟩)
   simp only at hfa ⊢
   have hab:a ≠ b:=by
    rintro rfl
    have:=hfa k'
    rw[Heap.get_set_self] at this
    cases this
   have hfa':∀ j,H (a,j)=none:=fun j=>by
    have:=hfa j
    rwa [Heap.get_set_ne _ _ (by intro he;exact hab (congrArg Prod.fst he))] at this
   rcases h a ha hfa' with ⟨hg,_⟩ | ⟨_,hk3,_⟩ | ⟨_,t2,k2,i2,hop2,hd2,hT2,h2'⟩
   ·simp only[gj,hgj] at hg;cases hg
   ·exact absurd (by rw[hop'];rfl) hk3
   ·rw[hop'] at hop2
    cases hop2
    rw[hd'] at hd2
    cases hd2
    rw[hT'] at hT2
    cases hT2
    have hfin:=h2' b hb' (fun j=>by simp only;rw[Heap.get_set_ne _ _ (by intro he;exact hab (congrArg Prod.fst he).symm)];exact hfb j)
    simp only at hfin
    rw[set_comm _ _ (by intro he;exact hab (congrArg Prod.fst he)),pc] at hfin
    have hm:max (max n (b+1)) (a+1)=max (max n (a+1)) (b+1):=by omega
    rw[hm]
    exact hfin
theorem DoN.some_ {o:Oper} {s:AS} {q:Prop} (hb:Bd n0 s) (h:DoN Ty ops n0 o s fun _=>q):q:=by
 rcases h with ⟨_,h⟩ | ⟨_,_,_,_,_,_,h⟩ | ⟨_,_,_,_,_,_,_,h⟩
 ·exact h
 ·exact h
 ·exact h s.2.2 hb.1 (fun j=>fresh_ex hb j)
variable (Ty ops n0) in
def AnyN (R:AS→Prop):Nat→Array Bool→AS→Prop
 | 0,listed,s=>Region.ready .any ops listed=[]∧R s
 | fuel+1,listed,s=>(Region.ready .any ops listed=[]→R s)∧∀ i ∈ Region.ready .any ops listed,∃ o,ops[i]?=some o∧DoN Ty ops n0 o s (AnyN R fuel (listed.setIfInBounds i true))
variable (Ty ops n0) in
def RunN (R:AS→Prop):List Oper→AS→Prop
 | [],s=>R s
 | o::l,s=>DoN Ty ops n0 o s (RunN R l)
theorem AnyN.first {R:AS→Prop} {i:Nat} {oi:Oper} (hi:ops[i]?=some oi) (D:List Nat) (hD:∀ j oj,ops[j]?=some oj→j ∈ D→j ≠ i→∃ e ∈ oj.after,Region.binds .any e=true∧e.on ∈ D):∀ (fuel:Nat) (listed:Array Bool) (s:AS),Bd n0 s →
  (∀ j ∈ D,listed.getD j true=false)→(∀ j oj,ops[j]?=some oj→j ≠ i→listed.getD j true=false→j ∉ D→oi.apart ops oj=true∧compatN (kindN oi.op) (kindN oj.op)=true) →
  i ∈ Region.ready .any ops listed→DoN Ty ops n0 oi s (AnyN Ty ops n0 R fuel (listed.setIfInBounds i true))→AnyN Ty ops n0 R (fuel+1) listed s:=by
 intro fuel
 induction fuel with
 | zero=>
  intro listed s hb _ _ hr H
  refine⟨fun h=>(by rw[h] at hr;cases hr),fun j hj=>?_⟩
  by_cases hji:j=i
  ·subst hji;exact⟨oi,hi,H⟩
  ·have:=ready_mono hj hji
   have h0:Region.ready .any ops (listed.setIfInBounds i true)=[]:=DoN.some_ hb (H.mono fun s' h=>h.1)
   rw[h0] at this
   cases this
 | succ fuel ih=>
  intro listed s hb hinv hfree hr H
  refine⟨fun h=>(by rw[h] at hr;cases hr),fun j hj=>?_⟩
  by_cases hji:j=i
  ·subst hji;exact⟨oi,hi,H⟩
  ·obtain⟨hjun,oj,hoj,hall⟩:=mem_ready.1 hj
   have hnot:j ∉ D:=fun hd=>by
    obtain⟨e,he,hb',hed⟩:=hD j oj hoj hd hji
    have h1:=hall e he hb'
    have h0:=hinv e.on hed
    rcases Nat.lt_or_ge e.on listed.size with h' | h'
    ·simp[h'] at h0 h1;rw[h0] at h1;cases h1
    ·simp[Array.getElem?_eq_none h'] at h1
   obtain⟨hap,hco⟩:=hfree j oj hoj hji hjun hnot
   have H2:DoN Ty ops n0 oi s fun s'=>DoN Ty ops n0 oj s' (AnyN Ty ops n0 R fuel ((listed.setIfInBounds i true).setIfInBounds j true)):=H.mono fun s' h=>by
    obtain⟨oj',hoj',h'⟩:=h.2 j (ready_mono hj hji)
    rw[hoj] at hoj'
    cases hoj'
    exact h'
   refine⟨oj,hoj,(DoN.bd hb (DoN.swap hap hco hb H2)).mono fun sj ⟨hbj,hsj⟩=>ih (listed.setIfInBounds j true) sj hbj (fun k hk=>?_) (fun k ok hk hki hun hno=>?_) (ready_mono hr (Ne.symm hji)) ?_⟩
   ·have hjk:j ≠ k:=fun he=>hnot (he ▸ hk)
    rw[getD_set_ne true hjk]
    exact hinv k hk
   ·refine hfree k ok hk hki ?_ hno
    by_cases hjk:j=k
    ·subst hjk;exact hjun
    ·rw[getD_set_ne true hjk] at hun;exact hun
   ·rw[Array.setIfInBounds_comm _ _ hji]
    exact hsj
variable (ops) in
def freeN (listed:Array Bool) (i:Nat):Bool:=
 match ops[i]? with
 | none=>false
 | some oi=>((behind ops i).all fun j => !(listed.getD j true) && match ops[j]? with
   | none=>true
   | some oj=>j == i || oj.after.any (fun e=>Region.binds .any e && (behind ops i).contains e.on)) &&
  (List.range ops.size).all fun j=>match ops[j]? with
  | none=>true
  | some oj=>j == i || listed.getD j true || (behind ops i).contains j || (oi.apart ops oj && compatN (kindN oi.op) (kindN oj.op))
variable (ops) in
def lexN:Nat→Nat→Array Bool→Bool
 | 0,_,listed=>(Region.ready .any ops listed).isEmpty
 | fuel+1,k,listed=>(Region.ready .any ops listed).contains k && freeN ops listed k && lexN fuel (k+1) (listed.setIfInBounds k true)
variable (ops) in
def drawN:Bool:=lexN ops ops.size 0 (Array.replicate ops.size false)
theorem freeN_spec {listed:Array Bool} {i:Nat} {oi:Oper} (hi:ops[i]?=some oi) (h:freeN ops listed i=true) :
  (∀ j oj,ops[j]?=some oj→j ∈ behind ops i→j ≠ i→∃ e ∈ oj.after,Region.binds .any e=true∧e.on ∈ behind ops i)∧(∀ j ∈ behind ops i,listed.getD j true=false) ∧
  ∀ j oj,ops[j]?=some oj→j ≠ i→listed.getD j true=false→j ∉ behind ops i→oi.apart ops oj=true∧compatN (kindN oi.op) (kindN oj.op)=true:=by
 unfold freeN at h
 simp only[hi,Bool.and_eq_true] at h
 obtain⟨h1,h2⟩:=h
 refine⟨fun j oj hj hd hji=>?_,fun j hd=>?_,fun j oj hj hji hun hno=>?_⟩
 ·have:=List.all_eq_true.1 h1 j hd
  simp only[hj,Bool.and_eq_true,Bool.or_eq_true,beq_iff_eq] at this
  rcases this.2 with h3 | h3
  ·exact absurd h3 hji
  ·obtain⟨e,he,hb⟩:=Array.any_eq_true'.1 h3
   simp only[Bool.and_eq_true,List.contains_iff_mem] at hb
   exact⟨e,he,hb.1,hb.2⟩
 ·have:=List.all_eq_true.1 h1 j hd
  simp only[Bool.and_eq_true,Bool.not_eq_true'] at this
  exact this.1
 ·have hlt:j<ops.size:=(Array.getElem?_eq_some_iff.1 hj).1
  have:=List.all_eq_true.1 h2 j (List.mem_range.2 hlt)
  simp only[hj,hun,Bool.or_false,Bool.or_eq_true,beq_iff_eq,Bool.and_eq_true,List.contains_iff_mem] at this
  rcases this with (h1 | h1) | h1
  ·exact absurd h1 hji
  ·exact absurd h1 hno
  ·exact h1
theorem AnyN.lex {R:AS→Prop}:∀ (l:List Oper) (k:Nat) (listed:Array Bool) (s:AS),Bd n0 s→(∀ j:Nat,l[j]?=ops[k+j]?)→lexN ops l.length k listed=true→RunN Ty ops n0 R l s→AnyN Ty ops n0 R l.length listed s
 | [],_,_,_,_,_,hB,h=>⟨by simpa[lexN] using hB,h⟩
 | o::l,k,listed,s,hb,hl,hB,h=>by
  have h0:ops[k]?=some o:=by simpa using (hl 0).symm
  simp only[List.length_cons,lexN,Bool.and_eq_true] at hB
  obtain⟨⟨hr,hf⟩,hB'⟩:=hB
  obtain⟨f1,f2,f3⟩:=freeN_spec h0 hf
  exact AnyN.first h0 (behind ops k) f1 l.length listed s hb f2 f3 (by simpa using hr)
   ((DoN.bd hb h).mono fun s' ⟨hb',h'⟩=>AnyN.lex l (k+1) _ s' hb' (fun j=>by have:=hl (j+1);simpa[Nat.add_assoc,Nat.add_comm 1 j] using this) hB' h')
end
section
variable {P:Program} {N:Nat} {Ty:Types} {ops:Array Oper} {n0:Nat}
theorem AnyN.sound (hT:TypesOk P Ty) {R:AS→Prop} (hN:ops.toList.all (fun o=>dok N o.dst)=true) {Q:Exit→Act→World→Prop} {c0:Ctx} (hQ:∀ a c ρ,Keeps c0 c→Good c→RelE N c ρ a→R (ρ,c.H,c.n)→Q .normal a c.w) :
  ∀ (fuel:Nat) (listed:Array Bool) (ρ:Env) (c:Ctx) (a:Act),n0≤c.n→Keeps c0 c→Good c→RelE N c ρ a→AnyN Ty ops n0 R fuel listed (ρ,c.H,c.n)→wpAny P .any ops Q fuel listed a c.w
 | 0,_,_,_,_,_,hk,g,r,h=>⟨h.1,hQ _ _ _ hk g r h.2⟩
 | fuel+1,listed,ρ,c,a,hn0,hk,g,r,h=>by
  refine⟨fun h0=>hQ _ _ _ hk g r (h.1 h0),fun i hi=>?_⟩
  obtain⟨o,ho,hst⟩:=h.2 i hi
  have hd:dok N o.dst=true:=List.all_eq_true.1 hN o (by rw[← Array.getElem?_toList] at ho;exact List.mem_of_getElem? ho)
  unfold wpOp
  simp only[ho]
  rcases hst with ⟨hg,hrest⟩ | ⟨hg,hk3,hc,v,H',hs,hrest⟩ | ⟨hg,t,k,i',hop,hdst,hTy,hrest⟩
  ·rw[if_neg (by rw[wanted_of_gok r hN hg];simp)]
   exact AnyN.sound hT hN hQ fuel _ _ c _ hn0 hk g (r.put hd (.v _)) hrest
  ·rw[if_pos (wanted_of_gok r hN hg)]
   simp only at hs hrest
   refine .inl (stepF_ok hT hs c a rfl rfl g r _ _ ?_)
   rintro v1 x c' ⟨rfl,hH,hn⟩ hrep hgood hkeep
   exact AnyN.sound hT hN hQ fuel _ _ c' _ (by rw[hn];exact hn0) (hk.trans hkeep) hgood ((r.keeps hkeep).put hd hrep) (by rw[hH,hn];exact hrest)
  ·rw[if_pos (wanted_of_gok r hN hg)]
   have hs:stepF Ty o.dst o.op ρ c.H c.n=some (.ptr (c.n,k) 1 0 0,c.H.set (c.n,k) ⟨i'.zero.length,[i'.zero.map .v]⟩,c.n+1):=by rw[hop,hdst];simp only[stepF,hTy]
   refine .inl (stepF_ok hT hs c a rfl rfl g r _ _ ?_)
   rintro v1 x c' ⟨rfl,hH,hn⟩ hrep hgood hkeep
   have hr:=hrest c.n hn0 (fun j=>by
    show c.H (c.n,j)=none
    cases hx:c.H (c.n,j) with
    | none=>rfl
    | some ob=>have:=g.stamp _ _ hx;simp only at this;omega)
   have hm:max c.n (c.n+1)=c.n+1:=by omega
   simp only[hm] at hr
   rw[← hdst] at hr
   exact AnyN.sound hT hN hQ fuel _ _ c' _ (by rw[hn];omega) (hk.trans hkeep) hgood ((r.keeps hkeep).put hd hrep) (by rw[hH,hn];exact hr)
end
section
variable {P:Program} {f:FuncId} {N:Nat} {k:List Item} {ρ:Env} {H:Heap} {n:Nat} {Q:AVal→Heap→Nat→Prop} {Ty:Types}
theorem Runs.drawN (hT:TypesOk P Ty) {id:Nat} {ops:List Oper} (hm:P.follows .mixedOrders=true) (hN:ops.all (fun o=>dok N o.dst)=true) (hB:drawN ops.toArray=true)
  (h:RunN Ty ops.toArray n (fun s=>Runs P f N k s.1 s.2.1 s.2.2 Q) ops (ρ,H,n)):Runs P f N (.code (.region id ops.toArray true)::k) ρ H n Q:=by
 intro c a hH hn g r b cs hf hk
 subst hH
 subst hn
 obtain⟨d1,d2⟩:=draw_keeps g
 have hany:=AnyN.lex (Ty:=Ty) (ops:=ops.toArray) (n0:=c.n) ops 0 (Array.replicate ops.toArray.size false) (ρ,c.H,c.n) ⟨Nat.le_refl _,fun id o ho=>g.stamp id o ho⟩ (by simp) (by simpa[Ab.drawN] using hB) h
 have hw:(Code.region id ops.toArray true).wp P (fun e a' w'=>e = .normal∧∃ c' ρ',c'.w=w'∧Keeps c c'∧Good c'∧RelE N c' ρ' a'∧Runs P f N k ρ' c'.H c'.n Q) a c.w:=by
  refine wp_region_any hm ?_
  have:=AnyN.sound (P:=P) (N:=N) (Ty:=Ty) (ops:=ops.toArray) (n0:=c.n) (c0:=c) hT (by simpa using hN) (Q:=fun e a' w'=>e = .normal∧∃ c' ρ',c'.w=w'∧Keeps c c'∧Good c'∧RelE N c' ρ' a'∧Runs P f N k ρ' c'.H c'.n Q)
   (R:=fun s=>Runs P f N k s.1 s.2.1 s.2.2 Q) (fun a' c' ρ' hk' hg' hr' hR=>⟨rfl,c',ρ',rfl,hk',hg',hr',hR⟩) ops.length (Array.replicate ops.toArray.size false) ρ { c with w:={ c.w with drawn:=c.w.drawn+1 } } a (Nat.le_refl _) d1 d2 (r.keeps d1) hany
  simpa using this
 obtain⟨e,a',w',⟨rfl,c',ρ',rfl,hk',hg',hr',hR⟩,harr⟩:=hw b k cs
 obtain⟨x,v,c'',fr,q,hr,hg,hke,hst,rest⟩:=hR c' a' rfl rfl hg' hr' b cs hf hk
 exact⟨x,v,c'',fr,q,hr,hg,hk'.trans hke,Steps.trans harr hst,rest⟩
end
def newF (Ty:Types) (d:Option Nat):Op→Option (Nat × Ob)
 | .alloc t=>match d,Ty t with
  | some k,some i=>some (k,⟨i.zero.length,[i.zero.map .v]⟩)
  | _,_=>none
 | _=>none
section
variable (P:Program) (f:FuncId) (N:Nat) (k:List Item) (Q:AVal→Heap→Nat→Prop) (Ty:Types) (ops:Array Oper) (n0:Nat)
def evalN:List Oper→Env→Heap→Nat→Prop
 | [],ρ,H,n=>Runs P f N k ρ H n Q
 | o::l,ρ,H,n=>
  match gok ops o ρ with
  | some false=>evalN l (ρ.put o.dst skv) H n
  | some true=>match newF Ty o.dst o.op with
   | some (j,ob)=>∀ a,n0≤a→(∀ q,H (a,q)=none)→evalN l (ρ.put (some j) (.ptr (a,j) 1 0 0)) (H.set (a,j) ob) (max n (a+1))
   | none=>match stepF Ty o.dst o.op ρ H n with
    | some (v,H',_)=>condN n0 o.op ρ∧evalN l (ρ.put o.dst v) H' n
    | none=>False
  | none=>False
end
section
variable {P:Program} {f:FuncId} {N:Nat} {k:List Item} {ρ:Env} {H:Heap} {n:Nat} {Q:AVal→Heap→Nat→Prop} {Ty:Types} {ops:Array Oper} {n0:Nat}
theorem newF_none {d:Option Nat} {op:Op} {v:AVal} {H':Heap} {n':Nat} (h:newF Ty d op=none) (hs:stepF Ty d op ρ H n=some (v,H',n')):kindN op ≠ 3:=by
 cases op with
 | alloc t=>
  simp only[stepF] at hs
  split at hs
  ·rename_i k' i hi
   simp only[newF,hi] at h
   cases h
  ·cases hs
 | call c=>
  obtain⟨cal,args,ats⟩:=c
  cases cal with
  | builtin b=>cases b<;>simp[kindN]
  | _=>simp[kindN]
 | buildSlice t len ps=>
  unfold kindN
  simp only
  by_cases h0:len=0<;>simp[h0]
 | _=>simp[kindN]
theorem evalN_sound:∀ (l:List Oper) (ρ:Env) (H:Heap) (n:Nat),evalN P f N k Q Ty ops n0 l ρ H n→RunN Ty ops n0 (fun s=>Runs P f N k s.1 s.2.1 s.2.2 Q) l (ρ,H,n)
 | [],_,_,_,h=>h
 | o::l,ρ,H,n,h=>by
  rw[evalN] at h
  split at h
  ·rename_i hg
   exact .inl ⟨hg,evalN_sound l _ _ _ h⟩
  ·rename_i hg
   split at h
   ·rename_i j ob hnew
    unfold newF at hnew
    split at hnew
    ·rename_i t hop
     split at hnew
     ·rename_i k' i hdst hTy
      cases hnew
      exact .inr (.inr ⟨hg,t,_,_,hop,hdst,hTy,fun a ha hf=>evalN_sound l _ _ _ (h a ha hf)⟩)
     ·cases hnew
    ·cases hnew
   ·rename_i hnew
    split at h
    ·rename_i v H' n' hs
     have hk3:=newF_none hnew hs
     obtain⟨hc,h⟩:=h
     have hn:n'=n:=by
      rcases kind_cond hk3 hc with hk | hk | hk
      ·exact (stepF_n0 hk hs).2.1
      ·exact (stepF_n1 (H2:=H) (n2:=n) hk hc (fun _ _=>rfl) hs).2.1
      ·obtain⟨_,_,_,_,_,_,_,e,_⟩:=stepF_n4 hk hc hs;exact e
     subst hn
     exact .inr (.inl ⟨hg,hk3,hc,v,H',hs,evalN_sound l _ _ _ h⟩)
    ·exact h.elim
  ·exact h.elim
@[simp] theorem evalN_nil : evalN P f N k Q Ty ops n0 [] ρ H n = Runs P f N k ρ H n Q := by rw [evalN]
@[simp] theorem evalN_cons {o : Oper} {l : List Oper} : evalN P f N k Q Ty ops n0 (o :: l) ρ H n = (match gok ops o ρ with
  | some false=>evalN P f N k Q Ty ops n0 l (ρ.put o.dst skv) H n
  | some true=>match newF Ty o.dst o.op with
   | some (j,ob)=>∀ a,n0≤a→(∀ q,H (a,q)=none)→evalN P f N k Q Ty ops n0 l (ρ.put (some j) (.ptr (a,j) 1 0 0)) (H.set (a,j) ob) (max n (a+1))
   | none=>match stepF Ty o.dst o.op ρ H n with
    | some (v,H',_)=>condN n0 o.op ρ∧evalN P f N k Q Ty ops n0 l (ρ.put o.dst v) H' n
    | none=>False
  | none=>False):=by rw[evalN]
theorem Runs.seqN (hT:TypesOk P Ty) {id:Nat} {ops:List Oper} {y:Code} (hm:P.follows .mixedOrders=true) (hN:ops.all (fun o=>dok N o.dst)=true) (hB:Ab.drawN ops.toArray=true)
  (h:∀ k':List Item,(∀ ρ H n,Runs P f N (.code y::k) ρ H n Q→Runs P f N k' ρ H n Q)→evalN P f N k' Q Ty ops.toArray n ops ρ H n):Runs P f N (.code (.seq (.region id ops.toArray true) y)::k) ρ H n Q:=
 Runs.seq (Runs.drawN hT hm hN hB (evalN_sound ops _ _ _ (h (.code y::k) fun _ _ _ h=>h)))
end
attribute [simp] gok condN idOk newF kindN
end Go.Ab
