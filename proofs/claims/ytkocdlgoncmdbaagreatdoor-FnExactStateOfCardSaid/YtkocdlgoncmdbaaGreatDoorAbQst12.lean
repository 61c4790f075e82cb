/- Merged texts (12 of 18) of the proof that ends in Sty: Kt Mv Mx My Mz Kv Kgw L2kw. -/
import Derived.Test.YtkocdlgoncmdbaaGreatDoorAbQst11
open Go.Proofs.Tryz
set_option linter.unusedSimpArgs false
set_option linter.unusedVariables false
namespace Go.Ab.Vg
abbrev kc (a b:List Int):Bool:=decide (a=b)
abbrev jo (a b:List Int):Prop:=a.length<=1048576/\b.length<=1048576
def kP (s1:List Int) (s2:List Int) (Z:Bool->Prop):Prop:=
 ∀ bh:Int,bh=(s1.length:Int)->∀ cM:Int,cM=(s2.length:Int)->∀ c6:Bool,c6=decide (bh ≠ cM)->((c6=true->Z false)/\(c6=false->∀ len8:Int,len8=(s1.length:Int)->aO (σ:=Int) (fun v12 K15=>∀ c16:Bool,c16=decide (v12<len8)->((c16=true->(0<=v12/\v12<s1.length)/\∀ x19:Int,x19=at' s1 v12->(0<=v12/\v12<s2.length)/\∀ x22:Int,x22=at' s2 v12->∀ c24:Bool,c24=decide (x19 ≠ x22)->((c24=true->Z false)/\(c24=false->(bB (v12+1))/\∀ v27:Int,v27=v12+1->K15 (v27))))/\(c16=false->Z true))) (0)))
theorem CZ (a b:List Int) (h:jo a b):kP a b (fun y=>y=kc a b):=by
 unfold kP;obtain⟨h1,h2⟩:=h;simp only[forall_eq,decide_eq_true_eq,decide_eq_false_iff_not];refine⟨fun h3=>?_,fun h3=>?_⟩
 ·rw[kc,decide_eq_false];rintro rfl;exact h3 rfl
 ·have hl:a.length=b.length:=by omega
  refine aO.xj a.length (fun i=>∀ j:Nat,j<i->at' a (j:Int)=at' b (j:Int)) (fun j hj=>by omega) ?_;rintro i K hi hI IH;refine⟨fun h4=>⟨⟨by omega,by omega⟩,⟨by omega,by omega⟩,fun h5=>?_,fun h5=>⟨by simp only[bB];omega,IH (by omega) fun j hj=>?_⟩⟩,fun h4=>?_⟩
  ·rw[kc,decide_eq_false];rintro rfl;exact h5 rfl
  ·rcases Nat.lt_or_ge j i with h6 | h6
   ·exact hI j h6
   ·rw[show j=i by omega];exact Classical.not_not.1 h5
  ·rw[kc,decide_eq_true];exact l8 hl fun j hj=>hI j (by omega)
abbrev kZ (a b:List aQ):Bool:=decide (a=b)
abbrev kv (a b:List aQ):Prop:=a.length<=1048576/\b.length<=1048576
def jl (s1:List aQ) (s2:List aQ) (Z:Bool->Prop):Prop:=
 ∀ bh:Int,bh=(s1.length:Int)->∀ cM:Int,cM=(s2.length:Int)->∀ c6:Bool,c6=decide (bh ≠ cM)->((c6=true->Z false)/\(c6=false->∀ len8:Int,len8=(s1.length:Int)->aO (σ:=Int) (fun v12 K15=>∀ c16:Bool,c16=decide (v12<len8)->((c16=true->(0<=v12/\v12<s1.length)/\∀ x19:aQ,x19=at' s1 v12->(0<=v12/\v12<s2.length)/\∀ x22:aQ,x22=at' s2 v12->∀ c24:Bool,c24 = !(decide (x19=x22))->((c24=true->Z false)/\(c24=false->(bB (v12+1))/\∀ v26:Int,v26=v12+1->K15 (v26))))/\(c16=false->Z true))) (0)))
theorem yD (a b:List aQ) (h:kv a b):jl a b (fun y=>y=kZ a b):=by
 unfold jl;obtain⟨h1,h2⟩:=h;simp only[forall_eq,decide_eq_true_eq,decide_eq_false_iff_not];refine⟨fun h3=>?_,fun h3=>?_⟩
 ·rw[kZ,decide_eq_false];rintro rfl;exact h3 rfl
 ·have hl:a.length=b.length:=by omega
  refine aO.xj a.length (fun i=>∀ j:Nat,j<i->at' a (j:Int)=at' b (j:Int)) (fun j hj=>by omega) ?_;rintro i K hi hI IH;refine⟨fun h4=>⟨⟨by omega,by omega⟩,⟨by omega,by omega⟩,fun h5=>?_,fun h5=>⟨by simp only[bB];omega,IH (by omega) fun j hj=>?_⟩⟩,fun h4=>?_⟩
  ·rw[kZ,decide_eq_false];rintro rfl;simp at h5
  ·rcases Nat.lt_or_ge j i with h6 | h6
   ·exact hI j h6
   ·rw[show j=i by omega];simpa using h5
  ·rw[kZ,decide_eq_true];exact l8 hl fun j hj=>hI j (by omega)
abbrev jX (m n:az):Bool:=decide (m=n)
abbrev iP (m n:az):Prop:=m.links.length<=1048576/\n.links.length<=1048576
def nY (m:az) (n_:az) (Z:Bool->Prop):Prop:=
 eU (fun (J5:Bool->Prop)=>∀ c11:Bool,c11=decide (m.control=n_.control)->((c11=true->∀ c13:Bool,c13=decide (m.parent=n_.parent)->((c13=true->(jo m.links n_.links)/\∀ r16:Bool,r16=kc m.links n_.links->J5 (r16))/\(c13=false->J5 (false))))/\(c11=false->J5 (false)))) (fun b8=>Z b8)
theorem D6 (m n:az) (h:iP m n):nY m n (fun y=>y=jX m n):=by
 unfold nY;simp only[forall_eq,decide_eq_true_eq,decide_eq_false_iff_not];obtain⟨c,p,l⟩:=m;obtain⟨c2,p2,l2⟩:=n;refine⟨fun x=>x=jX ⟨c,p,l⟩ ⟨c2,p2,l2⟩,⟨fun h1=>⟨fun h2=>⟨h,?_⟩,fun h2=>?_⟩,fun h1=>?_⟩,fun x hx=>hx⟩
 ·simp only at h1 h2;simp[kc,jX,h1,h2]
 ·simp only at h2;simp[jX,h2]
 ·simp only at h1;simp[jX,h1]
def Hb (a b:List az) (f:az->az->Bool) (_:az->az->Prop):Bool:=decide (a.length=b.length) && (List.range a.length).all fun i=>f (at' a (i:Int)) (at' b (i:Int))
structure uf (a b:List az) (f:az->az->Bool) (al:az->az->Prop):Prop where
 la:a.length<=1048576
 lb:b.length<=1048576
 d:∀ x ∈ a,∀ y ∈ b,al x y
def uV (s1:List az) (s2:List az) (f2:az->az->Bool) (D2:az->az->Prop) (Z:Bool->Prop):Prop:=
 ∀ bh:Int,bh=(s1.length:Int)->∀ cM:Int,cM=(s2.length:Int)->∀ c6:Bool,c6=decide (bh ≠ cM)->((c6=true->Z false)/\(c6=false->∀ len8:Int,len8=(s1.length:Int)->aO (σ:=Int) (fun v12 K15=>∀ c16:Bool,c16=decide (v12<len8)->((c16=true->(0<=v12/\v12<s1.length)/\∀ x19:az,x19=at' s1 v12->(0<=v12/\v12<s2.length)/\∀ x24:az,x24=at' s2 v12->(D2 x19 x24)/\∀ r29:Bool,r29=f2 x19 x24->((r29=true->(bB (v12+1))/\∀ v31:Int,v31=v12+1->K15 (v31))/\(r29=false->Z false)))/\(c16=false->Z true))) (0)))
theorem eqF_vc (a b:List az) (f:az->az->Bool) (al:az->az->Prop) (h:uf a b f al):uV a b f al (fun y=>y=Hb a b f al):=by
 unfold uV;obtain⟨h1,h2,hd⟩:=h;simp only[forall_eq,decide_eq_true_eq,decide_eq_false_iff_not];refine⟨fun h3=>?_,fun h3=>?_⟩
 ·rw[Hb,decide_eq_false (by omega)];rfl
 ·have hl:a.length=b.length:=by omega
  refine aO.xj a.length (fun i=>∀ j:Nat,j<i->f (at' a (j:Int)) (at' b (j:Int))=true) (fun j hj=>by omega) ?_;rintro i K hi hI IH;refine⟨fun h4=>⟨⟨by omega,by omega⟩,⟨by omega,by omega⟩,hd _ (at_mem (by omega)) _ (at_mem (by omega)),fun h5=>⟨by simp only[bB];omega,IH (by omega) fun j hj=>?_⟩,fun h5=>?_⟩,fun h4=>?_⟩
  ·rcases Nat.lt_or_ge j i with h6 | h6
   ·exact hI j h6
   ·rw[show j=i by omega];exact h5
  ·symm;rw[Hb,Bool.and_eq_false_iff];right
   rw[List.all_eq_false];exact⟨i,List.mem_range.2 (by omega),by rw[h5];simp⟩
  ·rw[Hb,decide_eq_true hl,Bool.true_and];symm;rw[List.all_eq_true];exact fun j hj=>hI j (by have:=List.mem_range.1 hj;omega)
theorem D9 {a b:List az} {al:az->az->Prop}:Hb a b (fun z0 z1=>jX z0 z1) al=decide (a=b):=by
 rw[Bool.eq_iff_iff,decide_eq_true_eq,Hb,Bool.and_eq_true,decide_eq_true_eq,List.all_eq_true];refine⟨fun ⟨h1,h2⟩=>l8 h1 fun k hk=>by simpa[jX] using h2 k (List.mem_range.2 hk),?_⟩;rintro rfl;exact⟨rfl,fun _ _=>by simp[jX]⟩
abbrev lI (a b:I):Bool:=decide (a=b)
abbrev kW (a b:I):Prop:=Ao a/\Ao b
def og (a:I) (b:I) (Z:Bool->Prop):Prop:=
 eU (fun (J5:Bool->Prop)=>∀ c11:Bool,c11=decide (a.roots=b.roots)->((c11=true->∀ c13:Bool,c13=decide (a.edges=b.edges)->((c13=true->(jo a.sites b.sites)/\∀ r16:Bool,r16=kc a.sites b.sites->((r16=true->(lV a.outer b.outer)/\∀ r18:Bool,r18=om a.outer b.outer->((r18=true->(kv a.inner b.inner)/\∀ r20:Bool,r20=kZ a.inner b.inner->((r20=true->(uf a.nodes b.nodes (fun z0 z1=>jX z0 z1) (fun z0 z1=>iP z0 z1))/\∀ r22:Bool,r22=Hb a.nodes b.nodes (fun z0 z1=>jX z0 z1) (fun z0 z1=>iP z0 z1)->J5 (r22))/\(r20=false->J5 (false))))/\(r18=false->J5 (false))))/\(r16=false->J5 (false))))/\(c13=false->J5 (false))))/\(c11=false->J5 (false)))) (fun b8=>Z b8)
theorem D4 (a b:I) (h:kW a b):og a b (fun y=>y=lI a b):=by
 unfold og;obtain⟨⟨p1,p2,p3,p4,p5⟩,q1,q2,q3,q4,q5⟩:=h;simp only[forall_eq,decide_eq_true_eq,decide_eq_false_iff_not];obtain⟨r,ns,s,e,o,w⟩:=a;obtain⟨r2,ns2,s2,e2,o2,w2⟩:=b;refine⟨fun x=>x=lI ⟨r,ns,s,e,o,w⟩ ⟨r2,ns2,s2,e2,o2,w2⟩,⟨fun h1=>⟨fun h2=>⟨⟨p3,q3⟩,fun h3=>⟨⟨p4,q4⟩,fun h4=>⟨⟨p5,q5⟩,fun h5=>⟨⟨p1,q1,fun x hx y hy=>⟨p2 x hx,q2 y hy⟩⟩,?_⟩,fun h5=>?_⟩,fun h4=>?_⟩,fun h3=>?_⟩,fun h2=>?_⟩,fun h1=>?_⟩,fun x hx=>hx⟩
 ·rw[D9];simp only at h1 h2 h3 h4 h5;simp[lI,h1,h2,h3,h4,h5]
 ·simp only at h5;simp[lI,h5]
 ·simp only at h4;simp[lI,h4]
 ·simp only at h3;simp[lI,h3]
 ·simp only at h2;simp[lI,h2]
 ·simp only at h1;simp[lI,h1]
abbrev po (a b:I):Bool:=decide (a=b)
abbrev ot (a b:I):Prop:=Ao a/\Ao b
def nr (a:I) (b:I) (Z:Bool->Prop):Prop:=
 eU (fun (J5:Bool->Prop)=>∀ c101:Bool,c101=decide (a.roots ≠ b.roots)->((c101=true->J5 (true))/\(c101=false->∀ c103:Bool,c103=decide (a.edges ≠ b.edges)->((c103=true->J5 (true))/\(c103=false->∀ len105:Int,len105=(a.nodes.length:Int)->∀ len107:Int,len107=(b.nodes.length:Int)->∀ c109:Bool,c109=decide (len105 ≠ len107)->((c109=true->J5 (true))/\(c109=false->∀ len111:Int,len111=(a.outer.length:Int)->∀ len113:Int,len113=(b.outer.length:Int)->∀ c115:Bool,c115=decide (len111 ≠ len113)->((c115=true->J5 (true))/\(c115=false->∀ len117:Int,len117=(a.inner.length:Int)->∀ len119:Int,len119=(b.inner.length:Int)->∀ c121:Bool,c121=decide (len117 ≠ len119)->((c121=true->J5 (true))/\(c121=false->(eV a.sites b.sites)/\∀ r124:Bool,r124=iq a.sites b.sites->J5 ((!r124))))))))))))) (fun b8=>((b8=true->Z false)/\(b8=false->aO (σ:=Int) (fun i13 K16=>∀ len17:Int,len17=(a.nodes.length:Int)->∀ c19:Bool,c19=decide (i13<len17)->((c19=true->eU (fun (J21:Bool->Prop)=>(0<=i13/\i13<a.nodes.length)/\∀ x31:az,x31=at' a.nodes i13->(0<=i13/\i13<b.nodes.length)/\∀ x34:az,x34=at' b.nodes i13->∀ c36:Bool,c36=decide (x31.control ≠ x34.control)->((c36=true->J21 (true))/\(c36=false->(0<=i13/\i13<a.nodes.length)/\∀ x39:az,x39=at' a.nodes i13->(0<=i13/\i13<b.nodes.length)/\∀ x43:az,x43=at' b.nodes i13->∀ c46:Bool,c46=decide (x31.parent ≠ x34.parent)->((c46=true->J21 (true))/\(c46=false->(0<=i13/\i13<a.nodes.length)/\∀ x49:az,x49=at' a.nodes i13->(0<=i13/\i13<b.nodes.length)/\∀ x53:az,x53=at' b.nodes i13->(eV x31.links x34.links)/\∀ r57:Bool,r57=iq x31.links x34.links->J21 ((!r57))))))) (fun b24=>((b24=true->Z false)/\(b24=false->(bB (i13+1))/\∀ v28:Int,v28=i13+1->K16 (v28)))))/\(c19=false->aO (σ:=Int) (fun i60 K63=>∀ len64:Int,len64=(a.outer.length:Int)->∀ c66:Bool,c66=decide (i60<len64)->((c66=true->(0<=i60/\i60<a.outer.length)/\∀ x69:cP,x69=at' a.outer i60->(0<=i60/\i60<b.outer.length)/\∀ x72:cP,x72=at' b.outer i60->∀ c74:Bool,c74=decide (x69 ≠ x72)->((c74=true->Z false)/\(c74=false->(bB (i60+1))/\∀ v78:Int,v78=i60+1->K63 (v78))))/\(c66=false->aO (σ:=Int) (fun i82 K85=>∀ len86:Int,len86=(a.inner.length:Int)->∀ c88:Bool,c88=decide (i82<len86)->((c88=true->(0<=i82/\i82<a.inner.length)/\∀ x91:aQ,x91=at' a.inner i82->(0<=i82/\i82<b.inner.length)/\∀ x94:aQ,x94=at' b.inner i82->∀ c96:Bool,c96 = !(decide (x91=x94))->((c96=true->Z false)/\(c96=false->(bB (i82+1))/\∀ v99:Int,v99=i82+1->K85 (v99))))/\(c88=false->Z true))) (0)))) (0)))) (0))))
theorem nt {a b:I} (h:a ≠ b):false=po a b:=by rw[po,decide_eq_false h]
theorem Fv (a b:I) (h:ot a b):nr a b (fun y=>y=po a b):=by
 unfold nr;obtain⟨⟨p1,p2,p3,p4,p5⟩,q1,q2,q3,q4,q5⟩:=h;simp only[forall_eq,decide_eq_true_eq,decide_eq_false_iff_not];refine⟨fun x=>(x=true->a ≠ b)/\(x=false->a.roots=b.roots/\a.edges=b.edges/\a.nodes.length=b.nodes.length/\a.outer.length=b.outer.length/\a.inner.length=b.inner.length/\a.sites=b.sites),⟨fun h1=>⟨fun _ e=>h1 (e ▸ rfl),fun h=>by cases h⟩,fun h1=>⟨fun h2=>⟨fun _ e=>h2 (e ▸ rfl),fun h=>by cases h⟩,fun h2=>⟨fun h3=>⟨fun _ e=>h3 (e ▸ rfl),fun h=>by cases h⟩,fun h3=>⟨fun h4=>⟨fun _ e=>h4 (e ▸ rfl),fun h=>by cases h⟩,fun h4=>⟨fun h5=>⟨fun _ e=>h5 (e ▸ rfl),fun h=>by cases h⟩,fun h5=>⟨p3,fun h6 e=>?_,fun h6=>?_⟩⟩⟩⟩⟩⟩,?_⟩
 ·subst e;simp[iq] at h6
 ·exact⟨Classical.not_not.1 h1,Classical.not_not.1 h2,by omega,by omega,by omega,by simpa[iq] using h6⟩
 rintro x ⟨hx1,hx2⟩;refine⟨fun h1=>nt (hx1 h1),fun h1=>?_⟩;obtain⟨e1,e2,e3,e4,e5,e6⟩:=hx2 h1;refine aO.xj a.nodes.length (fun i=>∀ j:Nat,j<i->at' a.nodes (j:Int)=at' b.nodes (j:Int)) (fun j hj=>by omega) ?_;rintro i K hi hI IH;refine⟨fun h2=>?_,fun h2=>?_⟩
 ·have hb1:0<=(i:Int)/\(i:Int)<a.nodes.length:=by omega
  have hb2:0<=(i:Int)/\(i:Int)<b.nodes.length:=by omega
  refine⟨fun x=>(x=true->a ≠ b)/\(x=false->at' a.nodes (i:Int)=at' b.nodes (i:Int)),⟨hb1,hb2,fun h3=>⟨fun _ e=>h3 (e ▸ rfl),fun h=>by cases h⟩,fun h3=>⟨hb1,hb2,fun h4=>⟨fun _ e=>h4 (e ▸ rfl),fun h=>by cases h⟩,fun h4=>⟨hb1,hb2,p2 _ (at_mem hb1),fun h5 e=>?_,fun h5=>?_⟩⟩⟩,?_⟩
  ·subst e;simp[iq] at h5
  ·have h6:(at' a.nodes (i:Int)).links=(at' b.nodes (i:Int)).links:=by simpa[iq] using h5
   have h3:=Classical.not_not.1 h3;have h4:=Classical.not_not.1 h4;generalize at' a.nodes (i:Int)=m at *;generalize at' b.nodes (i:Int)=n at *;obtain⟨c,p,l⟩:=m;obtain⟨c2,p2,l2⟩:=n;simp only at h3 h4 h6;rw[h3,h4,h6]
  rintro x ⟨hx1,hx2⟩;refine⟨fun h3=>nt (hx1 h3),fun h3=>⟨by simp only[bB];omega,IH (by omega) fun j hj=>?_⟩⟩;rcases Nat.lt_or_ge j i with h6 | h6
  ·exact hI j h6
  ·rw[show j=i by omega];exact hx2 h3
 ·have en:a.nodes=b.nodes:=l8 e3 fun k hk=>hI k (by omega)
  refine aO.xj a.outer.length (fun i=>∀ j:Nat,j<i->at' a.outer (j:Int)=at' b.outer (j:Int)) (fun j hj=>by omega) ?_;rintro i K2 hi2 hI2 IH2;refine⟨fun h3=>⟨⟨by omega,by omega⟩,⟨by omega,by omega⟩,fun h4=>nt fun e=>h4 (e ▸ rfl),fun h4=>⟨by simp only[bB];omega,IH2 (by omega) fun j hj=>?_⟩⟩,fun h3=>?_⟩
  ·rcases Nat.lt_or_ge j i with h6 | h6
   ·exact hI2 j h6
   ·rw[show j=i by omega];exact Classical.not_not.1 h4
  have eo:a.outer=b.outer:=l8 e4 fun k hk=>hI2 k (by omega)
  refine aO.xj a.inner.length (fun i=>∀ j:Nat,j<i->at' a.inner (j:Int)=at' b.inner (j:Int)) (fun j hj=>by omega) ?_;rintro i K3 hi3 hI3 IH3;refine⟨fun h4=>⟨⟨by omega,by omega⟩,⟨by omega,by omega⟩,fun h5=>nt fun e=>?_,fun h5=>⟨by simp only[bB];omega,IH3 (by omega) fun j hj=>?_⟩⟩,fun h4=>?_⟩
  ·subst e;simp at h5
  ·rcases Nat.lt_or_ge j i with h6 | h6
   ·exact hI3 j h6
   ·rw[show j=i by omega];simpa using h5
  ·have ei:a.inner=b.inner:=l8 e5 fun k hk=>hI3 k (by omega)
   symm;rw[po,decide_eq_true_eq]
   obtain⟨r,ns,s,e,o,w⟩:=a;obtain⟨r2,ns2,s2,e2',o2,w2⟩:=b;simp only at e1 e2 en eo ei e6;rw[e1,e2,en,eo,ei,e6]
theorem AM {sig:cZ} {b:I} (hs:dI sig b) (hv:bA sig b):Ao (ck b):=by
 have hc:=F4 hv;have h1:=hv.len;refine⟨?_,fun x hx=>?_,?_,hs.outerLen,?_⟩
 ·simp only[ck,List.length_map,hc.len];omega
 ·simp only[ck,List.mem_map] at hx;obtain⟨k,hk,rfl⟩:=hx;have:=hv.ga (hc.rng k hk);simp only[gm,List.length_map];omega
 ·simp only[ck,List.length_map];exact hs.sitesLen
 ·simp only[ck,List.length_map];exact hs.innerLen
end Go.Ab.Vg
namespace Go.Ab.Vg
theorem AN {b:I} {left:Int} (h0:0<=left) (h1:left<=1048576) (hb:¬ lL b left<0) (E:iW b):dI [] b:=by
 have e0:ef pJ [] left=left:=by
  have:ef pJ [] left=(if left - (([]:cZ).length:Int)<0 then -1 else left - (([]:cZ).length:Int)):=by
   unfold ef;split<;>rfl
  rw[this];simp only[List.length_nil];split<;>omega
 exact Fo (left:=left) (by omega) (by omega) (by rw[e0];omega) (by rw[e0];omega) E
end Go.Ab.Vg
namespace Go.Ab.Vg
abbrev isNaN (_:Int):Bool:=false
def mr (x:Int) (Z:Bool->Prop):Prop:=
 ∀ c2:Bool,c2=decide (x ≠ x)->Z c2
theorem Ex (x:Int):mr x (fun y=>y=isNaN x):=by
 unfold mr;simp
def uO (x y:Int):Int:=if x<y then -1 else if y<x then 1 else 0
def pY (x:Int) (y:Int) (Z:Int->Prop):Prop:=
 ∀ r2:Bool,r2=isNaN x->∀ r3:Bool,r3=isNaN y->((r2=true->((r3=true->Z 0)/\(r3=false->Z (-1))))/\(r2=false->((r3=true->Z 1)/\(r3=false->∀ c4:Bool,c4=decide (x<y)->((c4=true->Z (-1))/\(c4=false->∀ c6:Bool,c6=decide (y<x)->((c6=true->Z 1)/\(c6=false->Z 0))))))))
theorem Gq (x y:Int):pY x y (fun z=>z=uO x y):=by
 unfold pY;simp only[forall_eq,decide_eq_true_eq,decide_eq_false_iff_not,isNaN];refine⟨fun h=>(by cases h),fun _=>⟨fun h=>(by cases h),fun _=>⟨fun h=>by rw[uO,if_pos h],fun h=>⟨fun h2=>by rw[uO,if_neg h,if_pos h2],fun h2=>by rw[uO,if_neg h,if_neg h2]⟩⟩⟩⟩
def sH:List Int->List Int->Int
 | [],[]=>0
 | [],_::_ => -1
 | _::_,[]=>1
 | a::l,b::m=>if uO a b=0 then sH l m else uO a b
abbrev rH (a b:List Int):Prop:=a.length<=1048576/\b.length<=1048576
def qa (s1:List Int) (s2:List Int) (Z:Int->Prop):Prop:=
 ∀ bh:Int,bh=(s1.length:Int)->aO (σ:=Int) (fun v6 K9=>∀ c10:Bool,c10=decide (v6<bh)->((c10=true->(0<=v6/\v6<s1.length)/\∀ x13:Int,x13=at' s1 v6->∀ len15:Int,len15=(s2.length:Int)->∀ c17:Bool,c17=decide (len15<=v6)->((c17=true->Z 1)/\(c17=false->(0<=v6/\v6<s2.length)/\∀ x20:Int,x20=at' s2 v6->∀ r23:Int,r23=uO x13 x20->∀ c24:Bool,c24=decide (r23 ≠ 0)->((c24=true->Z r23)/\(c24=false->(bB (v6+1))/\∀ v27:Int,v27=v6+1->K9 (v27))))))/\(c10=false->∀ len29:Int,len29=(s1.length:Int)->∀ len31:Int,len31=(s2.length:Int)->∀ c33:Bool,c33=decide (len29<len31)->((c33=true->Z (-1))/\(c33=false->Z 0))))) (0)
theorem Gz (a b:List Int) (h:rH a b):qa a b (fun z=>z=sH a b):=by
 unfold qa;obtain⟨h1,h2⟩:=h;simp only[forall_eq,decide_eq_true_eq,decide_eq_false_iff_not];refine aO.xj a.length (fun i=>i<=b.length/\sH (a.drop i) (b.drop i)=sH a b) ⟨by omega,rfl⟩ ?_;rintro i K hi ⟨hib,hI⟩ IH;refine⟨fun h3=>⟨⟨by omega,by omega⟩,fun h4=>?_,fun h4=>⟨⟨by omega,by omega⟩,fun h5=>?_,fun h5=>⟨by simp only[bB];omega,IH (by omega) ⟨by omega,?_⟩⟩⟩⟩,fun h3=>⟨fun h4=>?_,fun h4=>?_⟩⟩
 ·rw[<- hI,List.drop_of_length_le (l:=b) (by omega),List.drop_eq_getElem_cons (show i<a.length by omega)];rfl
 ·rw[<- hI,List.drop_eq_getElem_cons (show i<a.length by omega),List.drop_eq_getElem_cons (show i<b.length by omega)];rw[bp (show i<a.length by omega),bp (show i<b.length by omega)] at h5 ⊢;simp only[sH];rw[if_neg h5]
 ·rw[<- hI,List.drop_eq_getElem_cons (show i<a.length by omega),List.drop_eq_getElem_cons (show i<b.length by omega)];rw[bp (show i<a.length by omega),bp (show i<b.length by omega)] at h5;simp only[sH];rw[if_pos (Classical.not_not.1 h5)]
 ·rw[<- hI,List.drop_of_length_le (l:=a) (by omega),List.drop_eq_getElem_cons (show i<b.length by omega)];rfl
 ·rw[<- hI,List.drop_of_length_le (l:=a) (by omega),List.drop_of_length_le (l:=b) (by omega)];rfl
abbrev DQ (a b:Int × Int × Int):Int:=sH [a.1,a.2.1,a.2.2] [b.1,b.2.1,b.2.2]
def qf (a:Int × Int × Int) (b:Int × Int × Int) (Z:Int->Prop):Prop:=
 (rH [a.1,a.2.1,a.2.2] [b.1,b.2.1,b.2.2])/\∀ r3:Int,r3=sH [a.1,a.2.1,a.2.2] [b.1,b.2.1,b.2.2]->Z r3
theorem Gn (a b:Int × Int × Int):qf a b (fun z=>z=DQ a b):=by
 unfold qf;simp only[forall_eq];exact⟨⟨by simp,by simp⟩,trivial⟩
def fb (a b:Int × Int × Int):Bool:=if a.1 ≠ b.1 then decide (a.1<b.1) else if a.2.1 ≠ b.2.1 then decide (a.2.1<b.2.1) else decide (a.2.2<b.2.2)
def ek (n m:Int) (s:Int × Int × Int):Bool:=within s.1 0 (n - 1) && within s.2.1 0 (m - 1) && within s.2.2 0 (n - 1)
def oH (l:List (Int × Int × Int)) (n m:Int):Bool:=(List.range l.length).all fun i=>ek n m (at' l (i:Int)) && (decide (i=0) || fb (at' l ((i:Int) - 1)) (at' l (i:Int)))
theorem Ds (a b:Int × Int × Int):fb a b = !(decide (0<=DQ a b)):=by
 obtain⟨a1,a2,a3⟩:=a;obtain⟨b1,b2,b3⟩:=b;simp only[fb,DQ,sH,uO];rw[Bool.eq_iff_iff];simp only[Bool.not_eq_true',decide_eq_false_iff_not]
 repeat' split
 all_goals first | (simp only[decide_eq_true_eq];omega) | (exfalso;omega)
theorem xm {l:List (Int × Int × Int)} {n m:Int} {i:Nat} (hi:i<l.length) (h:(ek n m (at' l (i:Int)) && (decide (i=0) || fb (at' l ((i:Int) - 1)) (at' l (i:Int))))=false):oH l n m=false:=by
 rw[oH,List.all_eq_false];exact⟨i,by simpa using hi,by rw[h];simp⟩
theorem tq {l:List (Int × Int × Int)} {n m:Int} (h:∀ i:Nat,i<l.length->(ek n m (at' l (i:Int)) && (decide (i=0) || fb (at' l ((i:Int) - 1)) (at' l (i:Int))))=true):oH l n m=true:=by
 rw[oH,List.all_eq_true];exact fun i hi=>h i (by simpa using hi)
abbrev qO (l:List (Int × Int × Int)) (n m:Int):Bool:=oH l n m
abbrev jE (l:List (Int × Int × Int)) (n m:Int):Prop:=l.length<=1048576/\bB (n - 1)/\bB (m - 1)
def ib (l:List (Int × Int × Int)) (states:Int) (middle:Int) (Z:Bool->Prop):Prop:=
 ∀ bh:Int,bh=(l.length:Int)->aO (σ:=Int) (fun v6 K9=>∀ c10:Bool,c10=decide (v6<bh)->((c10=true->(0<=v6/\v6<l.length)/\∀ x13:Int × Int × Int,x13=at' l v6->eU (fun (J17:Bool->Prop)=>(bB (states - 1))/\∀ v27:Int,v27=states - 1->∀ r29:Bool,r29=within x13.1 0 v27->((r29=true->(bB (middle - 1))/\∀ v31:Int,v31=middle - 1->∀ r33:Bool,r33=within x13.2.1 0 v31->((r33=true->(bB (states - 1))/\∀ v35:Int,v35=states - 1->∀ r38:Bool,r38=within x13.2.2 0 v27->((r38=true->∀ c39:Bool,c39=decide (0<v6)->((c39=true->(bB (v6 - 1))/\∀ v42:Int,v42=v6 - 1->(0<=v42/\v42<l.length)/\∀ x45:Int × Int × Int,x45=at' l v42->∀ r47:Int,r47=DQ (x45.1,x45.2.1,x45.2.2) (x13.1,x13.2.1,x13.2.2)->∀ c48:Bool,c48=decide (0<=r47)->J17 (c48))/\(c39=false->J17 (false))))/\(r38=false->J17 (true))))/\(r33=false->J17 (true))))/\(r29=false->J17 (true)))) (fun b20=>((b20=true->Z false)/\(b20=false->(bB (v6+1))/\∀ v24:Int,v24=v6+1->K9 (v24)))))/\(c10=false->Z true))) (0)
theorem vv (l:List (Int × Int × Int)) (n m:Int) (h:jE l n m):ib l n m (fun z=>z=qO l n m):=by
 unfold ib;obtain⟨h1,h2,h3⟩:=h;simp only[forall_eq,decide_eq_true_eq,decide_eq_false_iff_not];refine aO.xj l.length (fun i=>∀ j:Nat,j<i->(ek n m (at' l (j:Int)) && (decide (j=0) || fb (at' l ((j:Int) - 1)) (at' l (j:Int))))=true) (fun j hj=>by omega) ?_;rintro i K hi hI IH;refine⟨fun h4=>⟨⟨by omega,by omega⟩,fun c=>c = !(ek n m (at' l (i:Int)) && (decide (i=0) || fb (at' l ((i:Int) - 1)) (at' l (i:Int)))),⟨h2,fun h5=>⟨h3,fun h6=>⟨h2,fun h7=>⟨fun h8=>⟨by simp only[bB];omega,⟨by omega,by omega⟩,?_⟩,fun h8=>?_⟩,fun h7=>?_⟩,fun h6=>?_⟩,fun h5=>?_⟩,?_⟩,fun h4=>?_⟩
 ·rw[ek,h5,h6,h7,decide_eq_false (show ¬ i=0 by omega),Ds];simp
 ·rw[ek,h5,h6,h7,decide_eq_true (show i=0 by omega)];rfl
 ·rw[ek,h7];simp
 ·rw[ek,h6];simp
 ·rw[ek,h5];simp
 ·rintro _ rfl;refine⟨fun h5=>(xm (i:=i) (by omega) (by simpa only [Bool.not_eq_true'] using h5)).symm,fun h5=>⟨by simp only[bB];omega,IH (by omega) fun j hj=>?_⟩⟩;rcases Nat.lt_or_ge j i with h6 | h6
  ·exact hI j h6
  ·rw[show j=i by omega];simpa only [Bool.not_eq_false'] using h5
 ·exact (tq fun j hj=>hI j (by omega)).symm
def oh (x:Sys):Bool:=within (x.states.length:Int) 1 40 && oH x.steps x.states.length 6
abbrev rr (x:Sys):Bool:=oh x
abbrev er (x:Sys):Prop:=x.states.length<=1048576/\x.steps.length<=1048576
def ir (x:Sys) (Z:Bool->Prop):Prop:=
 eU (fun (J4:Bool->Prop)=>∀ gk:Int,gk=(x.states.length:Int)->∀ r12:Bool,r12=within gk 1 40->((r12=true->∀ Fs:Int,Fs=(x.states.length:Int)->(jE x.steps gk 6)/\∀ r17:Bool,r17=qO x.steps gk 6->J4 (r17))/\(r12=false->J4 (false)))) (fun b7=>Z b7)
theorem vt (x:Sys) (h:er x):ir x (fun z=>z=rr x):=by
 unfold ir;simp only[forall_eq];refine⟨fun c=>c=oh x,⟨fun h1=>⟨⟨h.2,by simp only[bB];omega,by simp only[bB];omega⟩,by rw[oh,h1];rfl⟩,fun h1=>by rw[oh,h1];rfl⟩,fun c h=>h⟩
abbrev kC (a b:Int × Int × Int):Bool:=fb a b
def gz (a:Int × Int × Int) (b:Int × Int × Int) (Z:Bool->Prop):Prop:=
 ∀ c6:Bool,c6=decide (a.1 ≠ b.1)->((c6=true->∀ c8:Bool,c8=decide (a.1<b.1)->Z c8)/\(c6=false->∀ c14:Bool,c14=decide (a.2.1 ≠ b.2.1)->((c14=true->∀ c16:Bool,c16=decide (a.2.1<b.2.1)->Z c16)/\(c14=false->∀ c21:Bool,c21=decide (a.2.2 ≠ b.2.2)->((c21=true->∀ c24:Bool,c24=decide (a.2.2<b.2.2)->Z c24)/\(c21=false->Z false))))))
theorem tO (a b:Int × Int × Int):gz a b (fun z=>z=kC a b):=by
 unfold gz;simp only[forall_eq,decide_eq_true_eq,decide_eq_false_iff_not,kC,fb];refine⟨fun h1=>by rw[if_pos h1],fun h1=>⟨fun h2=>by rw[if_neg h1,if_pos h2],fun h2=>⟨fun h3=>by rw[if_neg h1,if_neg h2],fun h3=>by rw[if_neg h1,if_neg h2,decide_eq_false (by omega)]⟩⟩⟩
abbrev nz (x:Sys):Bool:=oh x
abbrev kB (x:Sys):Prop:=er x
def jP (x:Sys) (Z:Bool->Prop):Prop:=
 ∀ cM:Int,cM=(x.states.length:Int)->aO (σ:=Int) (fun i8 K11=>∀ pk:Int,pk=(x.steps.length:Int)->∀ c14:Bool,c14=decide (i8<pk)->((c14=true->(0<=i8/\i8<x.steps.length)/\∀ x17:Int × Int × Int,x17=at' x.steps i8->eU (fun (J21:Bool->Prop)=>(bB (cM - 1))/\∀ v31:Int,v31=cM - 1->∀ r33:Bool,r33=within x17.1 0 v31->((r33=true->∀ r34:Bool,r34=within x17.2.1 0 5->((r34=true->(bB (cM - 1))/\∀ v36:Int,v36=cM - 1->∀ r39:Bool,r39=within x17.2.2 0 v31->((r39=true->∀ c40:Bool,c40=decide (0<i8)->((c40=true->(bB (i8 - 1))/\∀ v43:Int,v43=i8 - 1->(0<=v43/\v43<x.steps.length)/\∀ x46:Int × Int × Int,x46=at' x.steps v43->∀ r48:Bool,r48=kC (x46.1,x46.2.1,x46.2.2) (x17.1,x17.2.1,x17.2.2)->J21 ((!r48)))/\(c40=false->J21 (false))))/\(r39=false->J21 (true))))/\(r34=false->J21 (true))))/\(r33=false->J21 (true)))) (fun b24=>((b24=true->Z false)/\(b24=false->(bB (i8+1))/\∀ v28:Int,v28=i8+1->K11 (v28)))))/\(c14=false->∀ r49:Bool,r49=within cM 1 40->Z r49))) (0)
theorem yG (x:Sys) (h:kB x):jP x (fun z=>z=nz x):=by
 unfold jP;obtain⟨h1,h2⟩:=h;simp only[forall_eq,decide_eq_true_eq,decide_eq_false_iff_not];refine aO.xj x.steps.length (fun i=>∀ j:Nat,j<i->(ek x.states.length 6 (at' x.steps (j:Int)) && (decide (j=0) || fb (at' x.steps ((j:Int) - 1)) (at' x.steps (j:Int))))=true) (fun j hj=>by omega) ?_;rintro i K hi hI IH;refine⟨fun h4=>⟨⟨by omega,by omega⟩,fun c=>c = !(ek x.states.length 6 (at' x.steps (i:Int)) && (decide (i=0) || fb (at' x.steps ((i:Int) - 1)) (at' x.steps (i:Int)))),⟨by simp only[bB];omega,fun h5=>⟨fun h6=>⟨by simp only[bB];omega,fun h7=>⟨fun h8=>⟨by simp only[bB];omega,⟨by omega,by omega⟩,?_⟩,fun h8=>?_⟩,fun h7=>?_⟩,fun h6=>?_⟩,fun h5=>?_⟩,?_⟩,fun h4=>?_⟩
 ·rw[ek,h5,show within (at' x.steps (i:Int)).2.1 0 (6 - 1)=true from h6,h7,decide_eq_false (show ¬ i=0 by omega)];simp
 ·rw[ek,h5,show within (at' x.steps (i:Int)).2.1 0 (6 - 1)=true from h6,h7,decide_eq_true (show i=0 by omega)];rfl
 ·rw[ek,h7];simp
 ·rw[ek,show within (at' x.steps (i:Int)).2.1 0 (6 - 1)=false from h6];simp
 ·rw[ek,h5];simp
 ·rintro _ rfl;refine⟨fun h5=>?_,fun h5=>⟨by simp only[bB];omega,IH (by omega) fun j hj=>?_⟩⟩
  ·rw[nz,oh,xm (i:=i) (by omega) (by simpa only [Bool.not_eq_true'] using h5)];simp
  rcases Nat.lt_or_ge j i with h6 | h6
  ·exact hI j h6
  ·rw[show j=i by omega];simpa only [Bool.not_eq_false'] using h5
 ·rw[nz,oh,tq fun j hj=>hI j (by omega)];simp
abbrev mn (l:List I):List I:=l
abbrev fe (l:List I):Prop:=l.length<=1048576/\∀ b ∈ l,cR b
def fH (a:List I) (Z:(List I)->Prop):Prop:=
 ∀ bh:Int,bh=(a.length:Int)->(0<=bh/\bh<=1073741824)/\∀ l5:List I,l5=List.replicate bh.toNat default->aO (σ:=Int × (List I)) (fun (i16,l17) K21=>∀ len22:Int,len22=(a.length:Int)->∀ c24:Bool,c24=decide (i16<len22)->((c24=true->(0<=i16/\i16<a.length)/\∀ x27:I,x27=at' a i16->(cR x27)/\∀ r30:I,r30=de x27->(0<=i16/\i16<l17.length)/\∀ x50:I,x50=at' l17 i16->∀ l72:List I,l72=l17.set i16.toNat r30->(bB (i16+1))/\∀ v79:Int,v79=i16+1->K21 (v79,l72))/\(c24=false->Z l17))) (0,l5)
theorem sK (l:List I) (h:fe l):fH l (fun z=>z=mn l):=by
 unfold fH;obtain⟨h,h'⟩:=h;simp only[forall_eq,Int.toNat_natCast];refine⟨by omega,aO.pN l.length (fun k out=>out=filled l k) _ (ec l).symm ?_⟩;rintro k out K hk rfl IH;have hl:=eN hk;simp only[decide_eq_true_eq,decide_eq_false_iff_not,bB,Int.toNat_natCast];refine⟨fun h1=>⟨by omega,h' _ (at_mem ⟨by omega,by omega⟩),by omega,by omega,IH (by omega) _ (eL (by omega))⟩,fun h1=>?_⟩;rw[show k=l.length by omega];exact eP l
abbrev mS (x:Int × Int × Int):Int × Int × Int:=x
def jy (a:Int × Int × Int) (Z:(Int × Int × Int)->Prop):Prop:=
 Z (a.1,a.2.1,a.2.2)
theorem yW (x:Int × Int × Int):jy x (fun z=>z=mS x):=by
 unfold jy
 trivial
abbrev rb (l:List (Int × Int × Int)):List (Int × Int × Int):=l
abbrev gr (l:List (Int × Int × Int)):Prop:=l.length<=1048576
def ik (a:List (Int × Int × Int)) (Z:(List (Int × Int × Int))->Prop):Prop:=
 ∀ bh:Int,bh=(a.length:Int)->(0<=bh/\bh<=1073741824)/\∀ l5:List (Int × Int × Int),l5=List.replicate bh.toNat default->aO (σ:=Int × (List (Int × Int × Int))) (fun (i16,l17) K21=>∀ len22:Int,len22=(a.length:Int)->∀ c24:Bool,c24=decide (i16<len22)->((c24=true->(0<=i16/\i16<a.length)/\∀ x27:Int × Int × Int,x27=at' a i16->∀ r29:Int × Int × Int,r29=mS (x27.1,x27.2.1,x27.2.2)->(0<=i16/\i16<l17.length)/\∀ x35:Int × Int × Int,x35=at' l17 i16->∀ l38:List (Int × Int × Int),l38=l17.set i16.toNat (r29.1,r29.2.1,r29.2.2)->(bB (i16+1))/\∀ v45:Int,v45=i16+1->K21 (v45,l38))/\(c24=false->Z l17))) (0,l5)
theorem vM (l:List (Int × Int × Int)) (h:gr l):ik l (fun z=>z=rb l):=by
 unfold ik;simp only[forall_eq,Int.toNat_natCast];refine⟨by omega,aO.pN l.length (fun k out=>out=filled l k) _ (ec l).symm ?_⟩;rintro k out K hk rfl IH;have hl:=eN hk;simp only[decide_eq_true_eq,decide_eq_false_iff_not,bB,Int.toNat_natCast];refine⟨fun h1=>⟨by omega,by omega,by omega,IH (by omega) _ (eL (by omega))⟩,fun h1=>?_⟩;rw[show k=l.length by omega];exact eP l
abbrev gV (x:Sys):Sys:=x
abbrev eu (x:Sys):Prop:=fe x.states/\gr x.steps
def ij (a:Sys) (Z:Sys->Prop):Prop:=
 (fe a.states)/\∀ r8:List I,r8=mn a.states->(gr a.steps)/\∀ r20:List (Int × Int × Int),r20=rb a.steps->Z (Sys.mk r8 r20)
theorem vG (x:Sys) (h:eu x):ij x (fun z=>z=gV x):=by
 unfold ij;simp only[forall_eq];exact⟨h.1,h.2,trivial⟩
abbrev pt (x:Sys):Prop:=(x.states.length<=9223372036854775807/\∀ b ∈ x.states,iW b)/\x.steps.length<=9223372036854775807
instance:SzF lL:=⟨fun x left h=>DV x left h⟩
abbrev rn (l:List I) (left:Int):Int:=ef lL l left
abbrev qV (l:List I) (left:Int):Prop:=(0<=left/\left<=1048576)/\l.length<=9223372036854775807/\∀ b ∈ l,iW b
def qb (a:List I) (left:Int) (Z:Int->Prop):Prop:=
 ∀ bh:Int,bh=(a.length:Int)->(bB (left - bh))/\∀ v5:Int,v5=left - bh->∀ c7:Bool,c7=decide (v5<0)->((c7=true->Z (-1))/\(c7=false->aO (σ:=Int × Int) (fun (iD,i13) K16=>∀ len17:Int,len17=(a.length:Int)->∀ c19:Bool,c19=decide (i13<len17)->((c19=true->(0<=i13/\i13<a.length)/\∀ x22:I,x22=at' a i13->(((0:Int)<=iD/\(iD:Int)<=1048576)/\iW x22)/\∀ r25:Int,r25=lL x22 iD->∀ c26:Bool,c26=decide (r25<0)->((c26=true->Z (-1))/\(c26=false->(bB (i13+1))/\∀ v29:Int,v29=i13+1->K16 (r25,v29))))/\(c19=false->Z iD))) (v5,0)))
theorem GL (l:List I) (left:Int) (h:qV l left):qb l left (fun z=>z=rn l left):=by
 unfold qb;obtain⟨⟨h0,h1⟩,h2,h3⟩:=h;simp only[forall_eq,decide_eq_true_eq,decide_eq_false_iff_not];refine⟨by simp only[bB];omega,fun h4=>by rw[rn,ef,if_pos h4],fun h4=>?_⟩;refine aO.upR l.length (fun i t=>0<=t/\t<=1048576/\oF lL (l.drop i) t=oF lL l (left - l.length)) _ ⟨by omega,by omega,rfl⟩ ?_;rintro i t K hi ⟨ht,ht2,hI⟩ IH;refine⟨fun h5=>⟨⟨by omega,by omega⟩,⟨⟨ht,ht2⟩,h3 _ (at_mem ⟨by omega,by omega⟩)⟩,fun h6=>?_,fun h6=>⟨by simp only[bB];omega,?_⟩⟩,fun h5=>?_⟩
 ·rw[bp (show i<l.length by omega)] at h6;rw[rn,ef,if_neg h4,<- hI,List.drop_eq_getElem_cons (show i<l.length by omega),oF,if_pos h6]
 ·have h6:¬ lL (at' l (i:Int)) t<0:=h6;have hle:=DV (at' l (i:Int)) t ht;refine IH (by omega) (lL (at' l (i:Int)) t) ⟨by omega,by omega,?_⟩;rw[bp (show i<l.length by omega)] at h6 ⊢;rw[<- hI,List.drop_eq_getElem_cons (show i<l.length by omega),oF,if_neg h6]
 ·rw[rn,ef,if_neg h4,<- hI,List.drop_of_length_le (by omega)];rfl
def pB (l:List (Int × Int × Int)) (left:Int):Int:=if left - (l.length:Int)<0 then -1 else left - (l.length:Int)
abbrev oQ (l:List (Int × Int × Int)) (left:Int):Prop:=(0<=left/\left<=1048576)/\l.length<=9223372036854775807
def nL (a:List (Int × Int × Int)) (left:Int) (Z:Int->Prop):Prop:=
 ∀ bh:Int,bh=(a.length:Int)->(bB (left - bh))/\∀ v5:Int,v5=left - bh->∀ c7:Bool,c7=decide (v5<0)->((c7=true->Z (-1))/\(c7=false->Z v5))
theorem Fa (l:List (Int × Int × Int)) (left:Int) (h:oQ l left):nL l left (fun z=>z=pB l left):=by
 unfold nL;obtain⟨⟨h0,h1⟩,h2⟩:=h;simp only[forall_eq,decide_eq_true_eq,decide_eq_false_iff_not,pB];refine⟨by simp only[bB];omega,fun h3=>by rw[if_pos h3],fun h3=>by rw[if_neg h3]⟩
def FF (x:Sys) (left:Int):Int:=if rn x.states left<0 then -1 else pB x.steps (rn x.states left)
abbrev ui (x:Sys) (left:Int):Prop:=(0<=left/\left<=1048576)/\pt x
def tW (a:Sys) (left:Int) (Z:Int->Prop):Prop:=
 (qV a.states left)/\∀ r5:Int,r5=rn a.states left->∀ c6:Bool,c6=decide (r5<0)->((c6=true->Z (-1))/\(c6=false->(oQ a.steps r5)/\∀ r9:Int,r9=pB a.steps r5->∀ c10:Bool,c10=decide (r9<0)->((c10=true->Z (-1))/\(c10=false->Z r9))))
theorem szY_vc (x:Sys) (left:Int) (h:ui x left):tW x left (fun z=>z=FF x left):=by
 unfold tW;obtain⟨⟨h0,h1⟩,⟨h2,h3⟩,h4⟩:=h;have hle:rn x.states left<=left:=gb lL x.states left h0;simp only[forall_eq,decide_eq_true_eq,decide_eq_false_iff_not];refine⟨⟨⟨h0,h1⟩,h2,h3⟩,fun h5=>by rw[FF,if_pos h5],fun h5=>⟨⟨⟨by omega,by omega⟩,h4⟩,fun h6=>?_,fun h6=>by rw[FF,if_neg h5]⟩⟩;rw[FF,if_neg h5];simp only[pB] at h6 ⊢
 split at h6<;>omega
abbrev AY (a b:List I):Bool:=decide (a=b)
abbrev mJ (a _:List I):Prop:=a.length<=1048576/\∀ x ∈ a,Ao x
def qc (a:List I) (b:List I) (Z:Bool->Prop):Prop:=
 ∀ bh:Int,bh=(a.length:Int)->∀ cM:Int,cM=(b.length:Int)->∀ c6:Bool,c6=decide (bh ≠ cM)->((c6=true->Z false)/\(c6=false->aO (σ:=Int) (fun i10 K13=>∀ len14:Int,len14=(a.length:Int)->∀ c16:Bool,c16=decide (i10<len14)->((c16=true->(0<=i10/\i10<a.length)/\∀ x19:I,x19=at' a i10->(0<=i10/\i10<b.length)/\∀ x22:I,x22=at' b i10->(Ao x19)/\∀ r25:Bool,r25=decide (x19=x22)->((r25=true->(bB (i10+1))/\∀ v28:Int,v28=i10+1->K13 (v28))/\(r25=false->Z false)))/\(c16=false->Z true))) (0)))
theorem FV (a b:List I) (h:mJ a b):qc a b (fun z=>z=AY a b):=by
 unfold qc;obtain⟨h1,h2⟩:=h;simp only[forall_eq,decide_eq_true_eq,decide_eq_false_iff_not];refine⟨fun h3=>?_,fun h3=>?_⟩
 ·rw[AY,decide_eq_false];rintro rfl;exact h3 rfl
 ·have hl:a.length=b.length:=by omega
  refine aO.xj a.length (fun i=>∀ j:Nat,j<i->at' a (j:Int)=at' b (j:Int)) (fun j hj=>by omega) ?_;rintro i K hi hI IH;refine⟨fun h4=>⟨⟨by omega,by omega⟩,⟨by omega,by omega⟩,h2 _ (at_mem ⟨by omega,by omega⟩),fun h5=>⟨by simp only[bB];omega,IH (by omega) fun j hj=>?_⟩,fun h5=>?_⟩,fun h4=>?_⟩
  ·rcases Nat.lt_or_ge j i with h6 | h6
   ·exact hI j h6
   ·rw[show j=i by omega];exact h5
  ·rw[AY,decide_eq_false];rintro rfl;exact h5 rfl
  ·rw[AY,decide_eq_true];refine List.ext_getElem hl fun j hj hj'=>?_
   have:=hI j (by omega)
   rwa [bp hj,bp hj'] at this
abbrev FY (a b:Int × Int × Int):Bool:=decide (a=b)
def pT (a:Int × Int × Int) (b:Int × Int × Int) (Z:Bool->Prop):Prop:=
 ∀ c6:Bool,c6=decide (a.1 ≠ b.1)->((c6=true->Z false)/\(c6=false->∀ c11:Bool,c11=decide (a.2.1 ≠ b.2.1)->((c11=true->Z false)/\(c11=false->∀ c15:Bool,c15=decide (a.2.2 ≠ b.2.2)->((c15=true->Z false)/\(c15=false->Z true))))))
theorem GS (a b:Int × Int × Int):pT a b (fun z=>z=FY a b):=by
 unfold pT;obtain⟨a1,a2,a3⟩:=a;obtain⟨b1,b2,b3⟩:=b;simp only[forall_eq,decide_eq_true_eq,decide_eq_false_iff_not];refine⟨fun h1=>?_,fun h1=>⟨fun h2=>?_,fun h2=>⟨fun h3=>?_,fun h3=>?_⟩⟩⟩<;>simp_all [FY]
abbrev sX (a b:List (Int × Int × Int)):Bool:=decide (a=b)
abbrev oO (a _:List (Int × Int × Int)):Prop:=a.length<=1048576
def nv (a:List (Int × Int × Int)) (b:List (Int × Int × Int)) (Z:Bool->Prop):Prop:=
 ∀ bh:Int,bh=(a.length:Int)->∀ cM:Int,cM=(b.length:Int)->∀ c6:Bool,c6=decide (bh ≠ cM)->((c6=true->Z false)/\(c6=false->aO (σ:=Int) (fun i10 K13=>∀ len14:Int,len14=(a.length:Int)->∀ c16:Bool,c16=decide (i10<len14)->((c16=true->(0<=i10/\i10<a.length)/\∀ x19:Int × Int × Int,x19=at' a i10->(0<=i10/\i10<b.length)/\∀ x22:Int × Int × Int,x22=at' b i10->∀ r24:Bool,r24=FY (x19.1,x19.2.1,x19.2.2) (x22.1,x22.2.1,x22.2.2)->((r24=true->(bB (i10+1))/\∀ v27:Int,v27=i10+1->K13 (v27))/\(r24=false->Z false)))/\(c16=false->Z true))) (0)))
theorem Fu (a b:List (Int × Int × Int)) (h:oO a b):nv a b (fun z=>z=sX a b):=by
 unfold nv;simp only[forall_eq,decide_eq_true_eq,decide_eq_false_iff_not];refine⟨fun h3=>?_,fun h3=>?_⟩
 ·rw[sX,decide_eq_false];rintro rfl;exact h3 rfl
 ·have hl:a.length=b.length:=by omega
  refine aO.xj a.length (fun i=>∀ j:Nat,j<i->at' a (j:Int)=at' b (j:Int)) (fun j hj=>by omega) ?_;rintro i K hi hI IH;refine⟨fun h4=>⟨⟨by omega,by omega⟩,⟨by omega,by omega⟩,fun h5=>⟨by simp only[bB];omega,IH (by omega) fun j hj=>?_⟩,fun h5=>?_⟩,fun h4=>?_⟩
  ·rcases Nat.lt_or_ge j i with h6 | h6
   ·exact hI j h6
   ·rw[show j=i by omega];exact h5
  ·rw[sX,decide_eq_false];rintro rfl;exact h5 rfl
  ·rw[sX,decide_eq_true];refine List.ext_getElem hl fun j hj hj'=>?_
   have:=hI j (by omega)
   rwa [bp hj,bp hj'] at this
abbrev eqY (a b:Sys):Bool:=decide (a=b)
abbrev pS (a _:Sys):Prop:=mJ a.states []/\a.steps.length<=1048576
def uY (a:Sys) (b:Sys) (Z:Bool->Prop):Prop:=
 (mJ a.states b.states)/\∀ r6:Bool,r6=AY a.states b.states->((r6=true->(oO a.steps b.steps)/\∀ r8:Bool,r8=sX a.steps b.steps->((r8=true->Z true)/\(r8=false->Z false)))/\(r6=false->Z false))
theorem eqY_vc (a b:Sys) (h:pS a b):uY a b (fun z=>z=eqY a b):=by
 unfold uY;obtain⟨x,y⟩:=a;obtain⟨u,v⟩:=b;simp only[forall_eq,decide_eq_true_eq,decide_eq_false_iff_not];refine⟨h.1,fun h4=>⟨h.2,fun h5=>?_,fun h5=>?_⟩,fun h4=>?_⟩<;>simp_all [eqY]
end Go.Ab.Vg
namespace Go.Ab.Vg
noncomputable def patB (p b:I):Bool := !(wY p b).isEmpty
noncomputable abbrev BF (x:Sys) (p:I) (k:Nat):List Int:=idxs x.states (fun b=>patB p b) k
noncomputable def FG (sig:cZ) (x:Sys) (p:I):List Int × Bool:=if oh x && (gU sig p && D0 p) && x.states.all (fun b=>dz sig b) then (BF x p x.states.length,true) else ([],false)
end Go.Ab.Vg
namespace Go.Ab.Vg
def ux (b:I):Nat:=AW b+2
theorem EW {α:Type} (f:α->Int->Int) [SzF f] (g:α->Nat) (hf:∀ x c,0<=c->0<=f x c->(g x:Int)<=c - f x c):∀ (l:List α) (left:Int),0<=left->0<=oF f l left->((l.map g).sum:Int)<=left - oF f l left
 | [],left,_,_=>by simp[oF]
 | x::l,left,h,h2=>by
  rw[oF] at h2 ⊢
  split at h2
  ·omega
  ·rename_i h3
   rw[if_neg h3];have h4:=hf x left h (by omega);have h5:=EW f g hf l (f x left) (by omega) h2;simp only[List.map_cons,List.sum_cons];omega
theorem uo {α:Type} (f:α->Int->Int) [SzF f] (g:α->Nat) (hf:∀ x c,0<=c->0<=f x c->(g x:Int)<=c - f x c) (l:List α) (left:Int) (h:0<=left) (h2:0<=ef f l left):((l.map g).sum:Int)+l.length<=left - ef f l left:=by
 unfold ef at h2 ⊢
 split at h2
 ·omega
 ·rename_i h3
  rw[if_neg h3];have:=EW f g hf l (left - l.length) (by omega) h2;omega
theorem xB (l:List Int) (c:Int) (h:0<=lR l c):(l.length:Int)<=c - lR l c:=by
 unfold lR at h ⊢
 split at h
 ·omega
 ·rename_i h3
  rw[if_neg h3];omega
def kR (b:I):Nat:=b.nodes.length+(b.nodes.map fun x=>x.links.length).sum+b.sites.length+b.outer.length+b.inner.length
theorem Ej (b:I) (c:Int) (h0:0<=c) (h:0<=lL b c):(kR b:Int)<=c - lL b c:=by
 unfold lL at h ⊢
 split at h
 ·omega
 rename_i a1
 rw[if_neg a1]
 split at h
 ·omega
 rename_i a2
 rw[if_neg a2]
 split at h
 ·omega
 rename_i a3
 rw[if_neg a3]
 split at h
 ·omega
 rename_i a4
 rw[if_neg a4];have u1:=uo mm (fun x=>x.links.length) (fun x c _ h=>xB x.links c h) b.nodes c h0 (by omega);have u2:=xB b.sites (ef mm b.nodes c) (by omega);have u3:=uo cW (fun _=>0) (fun x c h h2=>by have:=sC cW x c h;simp;omega) b.outer (lR b.sites (ef mm b.nodes c)) (by omega) (by omega);have u4:=uo xG (fun _=>0) (fun x c h h2=>by have:=sC xG x c h;simp;omega) b.inner (ef cW b.outer (lR b.sites (ef mm b.nodes c))) (by omega) (by omega);unfold kR;omega
theorem Eg (b:I):ux b<=2 * kR b+2:=by
 have:∀ l:List az,(l.map qm).sum=(l.map fun x=>x.links.length).sum+2 * l.length:=by
  intro l
  induction l with
  | nil=>rfl
  | cons x l ih=>simp only[List.map_cons,List.sum_cons,List.length_cons,qm,ih];omega
 unfold ux AW kR;rw[this];omega
theorem tc:∀ l:List I,(l.map ux).sum<=2 * (l.map kR).sum+2 * l.length
 | []=>by simp
 | b::l=>by
  have h1:=tc l;have h2:=Eg b;simp only[List.map_cons,List.sum_cons,List.length_cons];omega
abbrev Hn:I:=⟨0,[],[],0,[],[]⟩
theorem szB_no (left:Int) (h:0<=left):lL Hn left=left:=by
 have e:∀ {α:Type} (f:α->Int->Int),ef f [] left=left:=fun f=>by
  unfold ef;rw[if_neg (by simp;omega)];simp[oF]
 have e2:lR [] left=left:=by unfold lR;rw[if_neg (by simp;omega)];simp
 unfold lL;simp only[e,e2];rw[if_neg (by omega),if_neg (by omega),if_neg (by omega),if_neg (by omega)]
theorem sigOf {sig:cZ} (h:¬ ef pJ sig 1048576<0):dI sig Hn:=
 Fo (left:=1048576) (by omega) (by omega) (by omega) (by rw[szB_no _ (by omega)];omega) ⟨by simp,by simp,by simp,by simp,by simp,by simp,by simp,by simp,by simp⟩
structure ArgsY (x:Sys) (left:Int):Prop where
 st:∀ b ∈ x.states,dI [] b
 len:x.states.length<=1048576
 steps:x.steps.length<=1048576
 used:((x.states.map ux).sum:Int)<=4194304
theorem sysOf {x:Sys} {left:Int} (h0:0<=left) (h1:left<=1048576) (h:¬ FF x left<0) (E:pt x):ArgsY x left:=by
 have e0:rn x.states left=ef lL x.states left:=rfl;unfold FF at h;rw[e0] at h
 split at h
 ·omega
 rename_i a1
 obtain⟨m1,m2⟩:=nh lL x.states left h0 (by omega);have u:=uo lL kR Ej x.states left h0 (by omega);have r:=tc x.states;have l1:ef lL x.states left<=left:=gb lL x.states left h0;have a2:¬ (ef lL x.states left<(x.steps.length:Int)):=by
  intro c;unfold pB at h
  split at h<;>omega
 refine⟨fun b hb=>?_,by omega,by omega,by omega⟩;obtain⟨c,c1,c2,c3⟩:=m2 b hb;exact AN c1 (by omega) (by omega) (E.1.2 b hb)
end Go.Ab.Vg
namespace Go.Ab.Vg
abbrev vQ (a b:I):Bool:=decide (a=b)
abbrev oy (a b:I):Prop:=kW a b
def nI (a:I) (v_:I) (Z:Bool->Prop):Prop:=
 (kW a v_)/\∀ r5:Bool,r5=lI a v_->Z r5
theorem Fe (a b:I) (h:oy a b):nI a b (fun y=>y=vQ a b):=by
 unfold nI;simp only[forall_eq];exact⟨h,trivial⟩
abbrev lM (x:Sys) (b:I):Int:=mT x.states (fun z=>vQ z b)
abbrev jh (x:Sys) (b:I):Prop:=(x.states.length<=1048576/\∀ z ∈ x.states,Ao z)/\Ao b
def nF (x:Sys) (b:I) (Z:Int->Prop):Prop:=
 (x.states.length<=1048576/\∀ z ∈ x.states,oy z b)/\∀ r6:Int,r6=mT x.states (fun z=>vQ z b)->Z r6
theorem E9 (x:Sys) (b:I) (h:jh x b):nF x b (fun y=>y=lM x b):=by
 unfold nF;simp only[forall_eq];exact⟨⟨h.1.1,fun z hz=>⟨h.1.2 z hz,h.2⟩⟩,trivial⟩
noncomputable abbrev di (sig:cZ) (x:Sys) (b:I):Int × Bool:=if oh x && dz sig b && decide (0<=lM x (ck b)) then (lM x (ck b),true) else (0,false)
abbrev fW (sig:cZ) (x:Sys) (b:I):Prop:=er x/\(∀ z ∈ x.states,Ao z)/\dI sig b
def jH (sig:List Control) (x:Sys) (ba:I) (Z:(Int × Bool)->Prop):Prop:=
 eU (fun (J5:Bool->Prop)=>(er x)/\∀ r16:Bool,r16=rr x->((r16=true->(mf sig ba)/\∀ r18:Bool,r18=dz sig ba->((r18=true->(jN ba)/\∀ r20:I,r20=ck ba->(jh x r20)/\∀ r22:Int,r22=lM x r20->∀ c23:Bool,c23=decide (r22<0)->J5 (c23))/\(r18=false->J5 (true))))/\(r16=false->J5 (true)))) (fun b8=>((b8=true->Z (0,false))/\(b8=false->(jN ba)/\∀ r12:I,r12=ck ba->(jh x r12)/\∀ r14:Int,r14=lM x r12->Z (r14,true))))
theorem yx (sig:cZ) (x:Sys) (b:I) (h:fW sig x b):jH sig x b (fun y=>y=di sig x b):=by
 unfold jH;obtain⟨h1,h2,h3⟩:=h;simp only[forall_eq,decide_eq_true_eq,decide_eq_false_iff_not];have hf:gU sig b=true->jh x (ck b):=fun hg=>⟨⟨h1.1,h2⟩,AM h3 (fR hg)⟩
 have hg:dz sig b=true->gU sig b=true:=fun ha=>by rw[dz,Bool.and_eq_true] at ha;exact ha.1
 refine⟨fun c=>(c=true->di sig x b=(0,false))/\(c=false->dz sig b=true/\di sig x b=(lM x (ck b),true)),⟨h1,fun q1=>⟨h3,fun q2=>⟨⟨sig,fR (hg q2)⟩,hf (hg q2),fun q3=>?_,fun q3=>⟨q2,?_⟩⟩,fun q2=>⟨fun _=>?_,fun h=>by cases h⟩⟩,fun q1=>⟨fun _=>?_,fun h=>by cases h⟩⟩,?_⟩
 ·simp only[decide_eq_true_eq] at q3;rw[di,if_neg];rw[Bool.and_eq_true,decide_eq_true_eq];omega
 ·simp only[decide_eq_false_iff_not] at q3;rw[di,if_pos];rw[show oh x=true from q1,q2,Bool.true_and,Bool.true_and,decide_eq_true_eq];omega
 ·rw[di,if_neg];rw[q2];simp
 ·rw[di,if_neg];rw[show oh x=false from q1];simp
 ·rintro c ⟨c1,c2⟩;refine⟨fun q=>(c1 q).symm,fun q=>?_⟩;obtain⟨q2,q3⟩:=c2 q;exact⟨⟨sig,fR (hg q2)⟩,hf (hg q2),q3.symm⟩
abbrev oD (l:List I) (b:I):Int:=l.findIdx fun z=>decide (z=b)
abbrev mc (l:List I) (b:I):Prop:=(l.length<=1048576/\∀ z ∈ l,Ao z)/\Ao b
def kQ (list:List I) (b:I) (Z:Int->Prop):Prop:=
 aO (σ:=Int) (fun k6 K9=>eU (fun (J10:Bool->Prop)=>∀ len19:Int,len19=(list.length:Int)->∀ c21:Bool,c21=decide (k6<len19)->((c21=true->(0<=k6/\k6<list.length)/\∀ x24:I,x24=at' list k6->(ot x24 b)/\∀ r27:Bool,r27=po x24 b->J10 ((!r27)))/\(c21=false->J10 (false)))) (fun b13=>((b13=true->(bB (k6+1))/\∀ v17:Int,v17=k6+1->K9 (v17))/\(b13=false->Z k6)))) (0)
theorem Cy (l:List I) (b:I) (h:mc l b):kQ l b (fun y=>y=oD l b):=by
 unfold kQ;obtain⟨⟨h1,h2⟩,h3⟩:=h;simp only[forall_eq,decide_eq_true_eq,decide_eq_false_iff_not];refine aO.xj l.length (fun k=>∀ j (hj:j<l.length),j<k->l[j] ≠ b) (fun j _ hj=>by omega) ?_;rintro k K hk hI IH;refine⟨fun c=>(c=true->(k:Int)<l.length/\at' l (k:Int) ≠ b)/\(c=false->(k:Int)<l.length->at' l (k:Int)=b),⟨fun q1=>⟨⟨by omega,q1⟩,⟨h2 _ (at_mem ⟨by omega,q1⟩),h3⟩,fun q2=>?_,fun q2 _=>?_⟩,fun q1=>⟨fun h=>(by cases h),fun _ q2=>absurd q2 q1⟩⟩,?_⟩
 ·exact⟨q1,by simpa[po] using q2⟩
 ·simpa[po] using q2
 rintro c ⟨c1,c2⟩;refine⟨fun q=>⟨by simp only[bB];omega,IH (by have:=(c1 q).1;omega) fun j hj hjk=>?_⟩,fun q=>?_⟩
 ·rcases Nat.lt_or_ge j k with h6 | h6
  ·exact hI j hj h6
  ·have h7:=(c1 q).2;have h8:j=k:=by omega
   subst h8
   rwa [bp hj] at h7
 ·rcases Nat.lt_or_ge k l.length with h6 | h6
  ·have h7:=c2 q (by omega);rw[bp h6] at h7;rw[oD,(List.findIdx_eq h6).2 ⟨by simpa using h7,fun j hj=>by simpa using hI j (by omega) hj⟩]
  ·rw[oD,List.findIdx_eq_length.2 fun z hz=>?_]
   ·omega
   ·obtain⟨j,hj,rfl⟩:=List.getElem_of_mem hz;simpa using hI j hj (by omega)
noncomputable abbrev gP (sig:cZ) (x:Sys) (b:I):Int × Bool:=di sig x b
abbrev jr (sig:cZ) (x:Sys) (b:I):Prop:=fW sig x b
def iw (sig:List Control) (x:Sys) (ba:I) (Z:(Int × Bool)->Prop):Prop:=
 eU (fun (J5:Bool->Prop)=>(kB x)/\∀ r20:Bool,r20=nz x->((r20=true->(jZ sig ba)/\∀ r22:Bool,r22=tL sig ba->J5 ((!r22)))/\(r20=false->J5 (true)))) (fun b8=>((b8=true->Z (0,false))/\(b8=false->(l6 ba)/\∀ r12:I,r12=jG ba->(mc x.states r12)/\∀ r14:Int,r14=oD x.states r12->∀ len15:Int,len15=(x.states.length:Int)->∀ c17:Bool,c17=decide (r14=len15)->((c17=true->Z (0,false))/\(c17=false->Z (r14,true))))))
theorem vJ (sig:cZ) (x:Sys) (b:I) (h:jr sig x b):iw sig x b (fun y=>y=gP sig x b):=by
 unfold iw;obtain⟨h1,h2,h3⟩:=h;simp only[forall_eq,decide_eq_true_eq,decide_eq_false_iff_not];have hg:dz sig b=true->gU sig b=true:=fun ha=>by rw[dz,Bool.and_eq_true] at ha;exact ha.1
 refine⟨fun c=>(c=true->di sig x b=(0,false))/\(c=false->oh x=true/\dz sig b=true),⟨h1,fun q1=>⟨h3,fun q2=>?_,fun q2=>⟨q1,by simpa using q2⟩⟩,fun q1=>⟨fun _=>?_,fun h=>by cases h⟩⟩,?_⟩
 ·rw[di,if_neg];rw[show dz sig b=false by simpa using q2];simp
 ·rw[di,if_neg];rw[show oh x=false from q1];simp
 ·rintro c ⟨c1,c2⟩;refine⟨fun q=>(c1 q).symm,fun q=>?_⟩;obtain⟨q1,q2⟩:=c2 q;have he:jG b=ck b:=rfl;refine⟨⟨sig,fR (hg q2)⟩,⟨⟨h1.1,h2⟩,AM h3 (fR (hg q2))⟩,fun q3=>?_,fun q3=>?_⟩
  ·have e:lM x (ck b) = -1:=by
    rw[lM,mT,if_neg];have:(List.findIdx (fun z=>decide (z=ck b)) x.states:Int)=x.states.length:=q3;show ¬ List.findIdx (fun z=>decide (z=ck b)) x.states<_;omega
   rw[gP,di,if_neg];rw[e];simp
  ·have hle:=List.findIdx_le_length (p:=fun z=>decide (z=ck b)) (xs:=x.states);have hlt:List.findIdx (fun z=>decide (z=ck b)) x.states<x.states.length:=by
    have:¬ (List.findIdx (fun z=>decide (z=ck b)) x.states:Int)=x.states.length:=q3;omega
   have e:lM x (ck b)=oD x.states (ck b):=if_pos hlt;rw[gP,di,if_pos]
   ·rw[e]
   ·rw[q1,q2,e];simp
abbrev wT (_:cZ) (_:Sys) (_:I):Bool:=true
abbrev nH (sig:cZ) (x:Sys) (p:I):Prop:=AK sig/\pt x/\iW p
def hU (eE:List Control) (aX:Sys) (cb:I) (Z:Bool->Prop):Prop:=
 (((0:Int)<=1048576/\(1048576:Int)<=1048576)/\AK eE)/\∀ r6:Int,r6=ef pJ eE 1048576->∀ c7:Bool,c7=decide (r6<0)->((c7=true->Z true)/\(c7=false->(ui aX r6)/\∀ r10:Int,r10=FF aX r6->∀ c11:Bool,c11=decide (r10<0)->((c11=true->Z true)/\(c11=false->(((0:Int)<=r10/\(r10:Int)<=1048576)/\iW cb)/\∀ r14:Int,r14=lL cb r10->∀ c16:Bool,c16=decide (r14<0)->((c16=true->Z true)/\(c16=false->(dy eE)/\∀ r19:List Control,r19=fD eE->(eu aX)/\∀ r21:Sys,r21=gV aX->(cR cb)/\∀ r23:I,r23=de cb->(jr r19 r21 r23)/\∀ r25:Int × Bool,r25=gP r19 r21 r23->(dy eE)/\∀ r27:List Control,r27=fD eE->(eu aX)/\∀ r30:Sys,r30=gV aX->(cR cb)/\∀ r34:I,r34=de cb->(fW r27 r30 r34)/\∀ r38:Int × Bool,r38=di r27 r30 r34->eU (fun (J39:Bool->Prop)=>∀ c58:Bool,c58=decide (r38.1 ≠ r25.1)->((c58=true->J39 (true))/\(c58=false->∀ c60:Bool,c60 = !(r38.2 == r25.2)->J39 (c60)))) (fun b42=>((b42=true->Z false)/\(b42=false->(dy eE)/\∀ r46:List Control,r46=fD eE->(r27.length<=1048576)/\∀ r48:Bool,r48=decide (r27=r46)->((r48=true->(eu aX)/\∀ r50:Sys,r50=gV aX->(pS r30 r50)/\∀ r52:Bool,r52=eqY r30 r50->((r52=true->(cR cb)/\∀ r54:I,r54=de cb->(Ao r34)/\∀ r56:Bool,r56=decide (r34=r54)->((r56=true->Z true)/\(r56=false->Z false)))/\(r52=false->Z false)))/\(r48=false->Z false)))))))))))
theorem xc (sig:cZ) (x:Sys) (p:I) (h:nH sig x p):hU sig x p (fun z=>z=wT sig x p):=by
 unfold hU;obtain⟨h1,h2,h3⟩:=h;simp only[forall_eq,decide_eq_true_eq,decide_eq_false_iff_not,fD,de,gV,gP];refine⟨⟨by omega,h1⟩,fun _=>trivial,fun s1=>?_⟩;have l1:=gb pJ sig 1048576 (by omega);refine⟨⟨by omega,h2⟩,fun _=>trivial,fun s2=>?_⟩;have l2:FF x (ef pJ sig 1048576)<=ef pJ sig 1048576:=by
  have a:=gb lL x.states (ef pJ sig 1048576) (by omega);have a2:rn x.states (ef pJ sig 1048576)<=ef pJ sig 1048576:=a;unfold FF pB at s2 ⊢
  split
  ·omega
  ·split<;>omega
 refine⟨⟨by omega,h3⟩,fun _=>trivial,fun s3=>?_⟩;have hS0:=sigOf s1;have hS:=hS0.sigLen;obtain⟨y1,y2,y3,y4⟩:=sysOf (by omega) (by omega) s2 h2;have hP0:=AN (by omega) (by omega) s3 h3;have hP:dI sig p:=bothOf hS0 hP0;have hY:eu x:=⟨⟨y2,fun b hb=>FU (y1 b hb)⟩,y3⟩
 have hE:pS x x:=⟨⟨y2,fun b hb=>eqOf (y1 b hb)⟩,y3⟩
 have hI:er x:=⟨y2,y3⟩
 have hQ:fW sig x p:=⟨hI,fun b hb=>eqOf (y1 b hb),hP⟩
 generalize di sig x p=an;refine⟨hS,hY,FU hP,hQ,hS,hY,FU hP,hQ,fun c=>c=false,⟨fun h=>absurd rfl h,fun _=>by simp⟩,?_⟩;rintro _ rfl;exact⟨fun h=>(by cases h),fun _=>⟨hS,hS,fun _=>⟨hY,hE,fun _=>⟨FU hP,eqOf hP,fun _=>trivial,fun h=>absurd trivial h⟩,fun h=>by simp[eqY] at h⟩,fun h=>absurd trivial h⟩⟩
end Go.Ab.Vg
namespace Go.Ab.Vg
open Go.Proofs
set_option maxRecDepth 100000
attribute [local simp] az.cells aQ.cells av gZ bg bC pA
theorem GP:a8 prog 129:=a8.of func129 (by kernel_rfl) rfl
theorem yo (many:Int) (Z:(List Int)->Prop) (h:my many Z):bG prog 129 [int many] (.s [.c]) (fun r=>∃ y:List Int,Z y/\r = .list true (y.map av)):=by
 unfold my at h;have M:Sep bw 0 [] []:=Sep.nil (by simp);refine bG.of func129 rfl ntmps129 (by simp) fun Q hQ=>?_
 refine J.cut (fun O H n=>O 0=int many/\Sep H n [] []) (by refine⟨by simp[],M⟩) ?_;rintro O H U ⟨E,M⟩;refine zE fun _ V=>?_
 simp[E];apply V;refine zE fun _ V=>?_
 simp[E];apply V;refine J.cut (fun O H n=>∃ (v3:au),(O 0=int many/\O 3=v3)/\Sep H n [oI v3 ([]:List Int)] []) (by refine⟨.arr (U,5) 0 0 0,by simp[E],(Sep.addEmpty (l:=[.c]) M)⟩) ?_;clear E;rintro O H n4 ⟨v3,E,M⟩;refine zS fun _ V=>?_
 simp[E];apply V;apply J.block;refine J.aO h (fun (sJ:Int × (List Int)) O H n=>match sJ with | (i12,e)=>∃ (d:au),(O 0=int many/\O 3=d/\O 4=int i12)/\Sep H n [oI d e] []) (by refine⟨v3,by simp[E],M⟩) ?_;clear E;rintro⟨i12,e⟩ O H n15 K h ⟨d,E,M⟩ i;refine zS fun _ V=>?_
 obtain⟨j,o,h⟩:=aK h;have f19:=aY (k:=.i64) o;simp[E,f19,-aw];apply V;refine J.ite (b:=j) (by simp[E]) (fun a=>?_) (fun a=>?_)
 ·replace h:=h.1 a;apply zK;apply J.block;refine zF fun _ V=>?_
  obtain⟨p,h⟩:=h;obtain⟨g,q,h⟩:=aK h;simp[E,a,-bo];refine cQ [] [] [[int (-1)]] [av (-1)] M aS (by simp) (by simp) (by simp) (by simp[-aM,bu]) (cf (bb.v _ bb.nil)) (by simp) (by simpa using p) ?_;rintro v22 t n24 M B C;replace M:Sep t n24 [oI v22 g] []:=Sep.ap q M;simp[E,a];apply V;refine J.cut (fun O H n=>∃ (v28:au),(O 0=int many/\O 3=v28/\O 4=int i12)/\Sep H n [oI v28 g] []) (by refine⟨v22,by simp[E,a],M⟩) ?_;clear E;rintro O H n29 ⟨v28,E,M⟩;refine zI fun _ V=>?_
  obtain⟨u,h⟩:=h;obtain⟨v31,A,h⟩:=aK h;have f32:=aU u A;simp[E,f32,-aw];apply V;refine i (v31,g) _ _ _ h (by refine⟨v28,by simp[E],M⟩)
 replace h:=h.2 a;refine J.exit rfl ?_;refine zE fun _ V=>?_
 simp[E,a];apply V;exact J.bj (v:=d) func129 results129 (by simp[E,a]) (hQ _ _ _ _ (Sep.sub (dK:=[]) M (by simp)) ⟨e,h,rfl⟩)
theorem m0 (many:Int) (hp:gI many):bG prog 129 [int many] (.s [.c]) (fun r=>r = .list true ((gX many).map av)):=(yo many _ (Ef many hp)).mono (by rintro _ ⟨_,rfl,rfl⟩;rfl)
theorem e134:a8 prog 134:=a8.of func134 (by kernel_rfl) rfl
theorem Cg (l:List Int) (Z:(List Int)->Prop) (h:pW l Z):bG prog 134 [.list false (l.map av)] (.s [.c]) (fun r=>∃ y:List Int,Z y/\r = .list true (y.map av)):=by
 unfold pW at h;have M:Sep bw 0 [] []:=Sep.nil (by simp);refine bG.of func134 rfl ntmps134 (by simp) fun Q hQ=>?_
 refine J.cut (fun O H n=>O 0 = .list false (l.map av)/\Sep H n [] []) (by refine⟨by simp ,M⟩) ?_;rintro O H U ⟨E,M⟩;refine zE fun _ V=>?_
 simp[E];apply V;refine zE fun _ V=>?_
 obtain⟨hb3,h⟩:=h;obtain⟨l4,el4,h⟩:=aK h;simp[E,-bo];refine dg (l.map av) (Sep.addEmpty (l:=[.c]) M) (by simp) aS (by simp) (by simp) (by simp[cA]) (by simp[-aM,bu]) (by simpa using hb3) ?_;rintro v5 H6 n7 M hfr8 hle9;replace M:Sep H6 n7 [oI v5 l4] []:=by refine Sep.ap el4 ?_;exact M
 simp[E];apply V;refine J.cut (fun O H n=>∃ (v11:au),O 2=v11/\Sep H n [oI v11 l4] []) (by refine⟨v5,by simp[E],M⟩) ?_;clear E;rintro O H a ⟨v11,E,M⟩;exact J.bj (v:=v11) func134 results134 (by simp[E]) (hQ _ _ _ _ (Sep.sub (dK:=[]) M (by simp)) ⟨l4,h,rfl⟩)
theorem uE (l:List Int) (hp:fV l):bG prog 134 [.list false (l.map av)] (.s [.c]) (fun r=>r = .list true ((vm l).map av)):=(Cg l _ (Ge l hp)).mono (by rintro _ ⟨_,rfl,rfl⟩;rfl)
theorem e166:a8 prog 166:=a8.of func166 (by kernel_rfl) rfl
theorem Bm (edges:List Int) (Z:Int->Prop) (h:qd edges Z):aC prog 166 [.list false (edges.map av)] (fun r=>∃ y:Int,Z y/\r=int y):=by
 unfold qd at h;refine aC.of func166 rfl ntmps166 (by simp) fun Q hQ=>?_
 refine J.cut (fun O H n=>O 0 = .list false (edges.map av)) (by simp) ?_;rintro O H U E;refine zE fun _ V=>?_
 simp[E];apply V;refine zE fun _ V=>?_
 simp[E];apply V;refine zS fun _ V=>?_
 simp[E];apply V;apply J.block;refine J.aO h (fun (sJ:Int × Int) O H n=>match sJ with | (many5,i6)=>(O 0 = .list false (edges.map av)/\O 3=int many5/\O 4=int i6)) (by simp[E]) ?_;clear E;rintro⟨many5,i6⟩ O H n7 K h E IH8;refine zS fun _ V=>?_
 obtain⟨gk,e,h⟩:=aK h;have f11:=fun H=>aI (H:=H) (fr:=false) (f:=av) aS e
 obtain⟨g,i,h⟩:=aK h;have f13:=aY (k:=.i64) i;simp[E,f11,f13,-aw,-aL];apply V;refine J.ite (b:=g) (by simp[E]) (fun a=>?_) (fun a=>?_)
 ·replace h:=h.1 a;apply zK;apply J.block;refine zE fun _ V=>?_
  obtain⟨j,h⟩:=h;obtain⟨F,l,h⟩:=aK h;have f16:=fun H=>aP (H:=H) (fr:=false) (f:=av) (k:=.i64) aS (fun _=>rfl) j l
  obtain⟨o,p,h⟩:=aK h;have f18:=jM (k:=.i64) p;simp[E,f16,f18,a,-ar,-aw];apply V;refine J.ite (b:=o) (by simp[E,a]) (fun c=>?_) (fun c=>?_)
  ·replace h:=h.1 c;refine zF fun _ V=>?_
   obtain⟨q,h⟩:=h;obtain⟨v20,t,h⟩:=aK h;have f21:=aU q t;simp[E,f21,a,c,-aw];apply V;refine zI fun _ V=>?_
   obtain⟨u,h⟩:=h;obtain⟨d,A,h⟩:=aK h;have f24:=aU u A;simp[E,f24,a,c,-aw];apply V;refine J.cut (fun O H n=>(O 0 = .list false (edges.map av)/\O 3=int v20/\O 4=int d)) (by simp[E,f24,a,c,-aw]) ?_;clear E;rintro O H n25 E;refine IH8 (v20,d) _ _ _ h (by simp[E])
  replace h:=h.2 c;apply J.skip;refine zI fun _ V=>?_
  obtain⟨B,h⟩:=h;obtain⟨C,D,h⟩:=aK h;have f28:=aU B D;simp[E,f28,a,c,-aw];apply V;refine IH8 (many5,C) _ _ _ h (by simp[E,a,c])
 replace h:=h.2 a;refine J.exit rfl ?_;refine zE fun _ V=>?_
 simp[E,a];apply V;exact J.bj (v:=int many5) func166 results166 (by simp[E,a]) (hQ _ _ _ _ (.of (.v _)) ⟨many5,h,rfl⟩)
theorem GC (edges:List Int) (hp:na edges):aC prog 166 [.list false (edges.map av)] (fun r=>r=int (gA edges)):=(Bm edges _ (F8 edges hp)).mono (by rintro _ ⟨_,rfl,rfl⟩;rfl)
theorem e155:a8 prog 155:=a8.of func155 (by kernel_rfl) rfl
theorem BE (parent:Int) (places:List Int) (Z:Int->Prop) (h:pQ parent places Z):aC prog 155 [int parent,.list false (places.map av)] (fun r=>∃ y:Int,Z y/\r=int y):=by
 unfold pQ at h;refine aC.of func155 rfl ntmps155 (by simp) fun Q hQ=>?_
 refine J.cut (fun O H n=>(O 0=int parent/\O 1 = .list false (places.map av))) (by simp) ?_;rintro O H U E;refine zE fun _ V=>?_
 simp[E];apply V;refine zS fun _ V=>?_
 obtain⟨c2,ec2,h⟩:=aK h;have f3:=aY (k:=.i64) ec2;simp[E,f3,-aw];apply V;refine J.ite (b:=c2) (by simp[E]) (fun dc2=>?_) (fun dc2=>?_)
 ·replace h:=h.1 dc2;refine zE fun _ V=>?_
  obtain⟨hb4,h⟩:=h;obtain⟨v5,ev5,h⟩:=aK h;have f6:=fu hb4 ev5;simp[E,f6,dc2,-aw];apply V;exact J.bj (v:=int v5) func155 results155 (by simp[E,dc2]) (hQ _ _ _ _ (.of (.v _)) ⟨v5,h,rfl⟩)
 replace h:=h.2 dc2;apply J.skip;refine zE fun _ V=>?_
 obtain⟨hb7,h⟩:=h;obtain⟨x8,ex8,h⟩:=aK h;have f9:=fun H=>aP (H:=H) (fr:=false) (f:=av) (k:=.i64) aS (fun _=>rfl) hb7 ex8
 obtain⟨a,h⟩:=h;obtain⟨v11,c,h⟩:=aK h;have f12:=aU a c;simp[E,f9,f12,dc2,-ar,-aw];apply V;exact J.bj (v:=int v11) func155 results155 (by simp[E,dc2]) (hQ _ _ _ _ (.of (.v _)) ⟨v11,h,rfl⟩)
theorem Av (parent:Int) (places:List Int) (hp:gL parent places):aC prog 155 [int parent,.list false (places.map av)] (fun r=>r=int (BP parent places)):=(BE parent places _ (Gf parent places hp)).mono (by rintro _ ⟨_,rfl,rfl⟩;rfl)
theorem e154:a8 prog 154:=a8.of func154 (by kernel_rfl) rfl
theorem wA (b:I) (links:List Int) (edges:List Int) (Z:((List Int) × (List Int))->Prop) (h:kU b links edges Z):bG prog 154 [.agg (bC false b),.list false (links.map av),.list false (edges.map av)] (.t [.s [.c],.s [.c]]) (fun r=>∃ y:(List Int) × (List Int),Z y/\r = .tup [.list true (y.1.map av),.list true (y.2.map av)]):=by
 unfold kU at h;have M:Sep bw 0 [] []:=Sep.nil (by simp);refine bG.of func154 rfl ntmps154 (by simp) fun Q hQ=>?_
 refine J.cut (fun O H n=>(O 0 = .agg (bC false b)/\O 1 = .list false (links.map av)/\O 2 = .list false (edges.map av))/\Sep H n [] []) (by refine⟨by simp ,M⟩) ?_;rintro O H U ⟨E,M⟩;refine zE fun _ V=>?_
 simp[E];apply V;refine J.cut (fun O H n=>((O 1 = .list false (links.map av)/\O 2 = .list false (edges.map av)/\O 3=pA U 3)/\H (U,3)=some ⟨6,[bC false b]⟩)/\Sep H n [] [(U,3)]) (by refine⟨by simp[E],M.var⟩) ?_;clear E;rintro O H n3 ⟨⟨E,a⟩,M⟩;refine zE fun _ V=>?_
 simp[E,a];apply V;refine J.cut (fun O H n=>∃ (v5:au),((O 1 = .list false (links.map av)/\O 2 = .list false (edges.map av)/\O 3=pA U 3/\O 8=v5)/\H (U,3)=some ⟨6,[bC false b]⟩)/\Sep H n [oI v5 ([]:List Int)] [(U,3)]) (by refine⟨.arr (n3,11) 0 0 0,by simp[E,a],(Sep.addEmpty (l:=[.c]) M)⟩) ?_;clear E a;rintro O H n6 ⟨v5,⟨E,a⟩,M⟩;refine zE fun _ V=>?_
 obtain⟨hb7,h⟩:=h;obtain⟨r8,er8,h⟩:=aK h;simp[E,a];refine zW (uE edges hb7) e134 (.cons (cU false edges) .nil) M (by simp[E,a]) ?_;rintro v9 fz f0 _ M rfl f2 b2;rw[<- er8] at M;have a:=(b2 _ (by simp)).trans a;simp[E,a];apply V;refine J.cut (fun O H n=>∃ (L N:au),((O 1 = .list false (links.map av)/\O 3=pA U 3/\O 8=N/\O 9=L)/\H (U,3)=some ⟨6,[bC false b]⟩)/\Sep H n [oI L r8,oI N ([]:List Int)] [(U,3)]) (by refine⟨v9,v5,by simp[E,a],M⟩) ?_;clear E a;rintro O H n18 ⟨L,N,⟨E,a⟩,M⟩;refine zS fun _ V=>?_
 simp[E,a];apply V;apply J.block;refine J.aO h (fun (sJ:Int × (List Int) × (List Int)) O H n=>match sJ with | (i29,p,d)=>∃ (u B:au),((O 1 = .list false (links.map av)/\O 3=pA U 3/\O 8=B/\O 9=u/\O 10=int i29)/\H (U,3)=some ⟨6,[bC false b]⟩)/\Sep H n [oI u d,oI B p] [(U,3)]) (by refine⟨L,N,by simp[E,a],M⟩) ?_;clear E a;rintro⟨i29,p,d⟩ O H n34 K h ⟨u,B,⟨E,a⟩,M⟩ ad;refine zS fun _ V=>?_
 obtain⟨f3,b3,h⟩:=aK h;have f38:=fun H=>aI (H:=H) (fr:=false) (f:=av) aS b3
 obtain⟨b7,b8,h⟩:=aK h;have f40:=aY (k:=.i64) b8;simp[E,a,f38,f40,-aw,-aL];apply V;refine J.ite (b:=b7) (by simp[E,a]) (fun i=>?_) (fun i=>?_)
 ·replace h:=h.1 i;apply zK;apply J.block;apply J.seq;refine J.cO ay aA bq (by decide) (by kernel_rfl) fun _ V=>?_
  obtain⟨cc,h⟩:=h;obtain⟨ce,C,h⟩:=aK h;have f43:=fun H=>aP (H:=H) (fr:=false) (f:=av) (k:=.i64) aS (fun _=>rfl) cc C
  obtain⟨ch,ci,h⟩:=aK h;have f45:=jM (k:=.i64) ci;simp[E,a,f43,f45,i,-ar,-aw];apply V;refine J.ite (b:=ch) (by simp[E,a,i]) (fun o=>?_) (fun o=>?_)
  ·replace h:=h.1 o;refine J.cO ay aA bq (by decide) (by kernel_rfl) fun _ V=>?_
   obtain⟨cj,h⟩:=h;obtain⟨f4,cl,h⟩:=aK h;have co:=C.trans cl.symm;subst co;have f49:=fun H=>aP (H:=H) (fr:=false) (f:=av) (k:=.i64) aS (fun _=>rfl) cj C
   obtain⟨cs,h⟩:=h;obtain⟨v51,cv,h⟩:=aK h;have f52:=fu cs cv;obtain⟨c0,h⟩:=h;obtain⟨af,c1,h⟩:=aK h;simp[E,a,f49,f52,i,o,-ar,-aw,-bo];refine dh [] [oI u d] [[int v51]] [av v51] M.f1 aS (by simp) (by simp) (by simp) (by simp[-aM,bu]) (cf (bb.v _ bb.nil)) (by simp) (by simpa using c0) ?_;rintro be c2 c3 M c4 f5;replace M:Sep c2 c3 [oI be af,oI u d] [(U,3)]:=Sep.ap c1 M;have a:=(c4 _ (by simp)).trans a;simp[E,a,f49,f52,i,o,-ar,-aw];apply V;refine J.cut (fun O H n=>∃ (R T:au),((O 1 = .list false (links.map av)/\O 3=pA U 3/\O 8=R/\O 9=T/\O 10=int i29)/\H (U,3)=some ⟨6,[bC false b]⟩)/\Sep H n [oI R af,oI T d] [(U,3)]) (by refine⟨be,u,by simp[E,a,f49,f52,i,o,-ar,-aw],M⟩) ?_;clear E a;rintro O H f6 ⟨R,T,⟨E,a⟩,M⟩;refine J.exit rfl ?_;refine zF fun _ V=>?_
   obtain⟨c6,h⟩:=h;obtain⟨c7,c8,h⟩:=aK h;have f66:=aU c6 c8;simp[E,a,f66,-aw];apply V;refine ad (c7,af,d) _ _ _ h (by refine⟨T,R,by simp[E,a],M.f1⟩)
  replace h:=h.2 o;apply J.skip;refine zS fun _ V=>?_
  obtain⟨da,h⟩:=h;obtain⟨f7,dc,h⟩:=aK h;have dd:=C.trans dc.symm;subst dd;have f70:=fun H=>aP (H:=H) (fr:=false) (f:=av) (k:=.i64) aS (fun _=>rfl) da C
  obtain⟨am,h⟩:=h;obtain⟨bi,hv,ao,f8,W⟩:=Sep.eA M (by simp) am;subst hv;simp at W;obtain⟨f9,dl,h⟩:=aK h;have f77:=fun H (hm:H bi=some ⟨1,d.map av⟩)=>cH (H:=H) (k:=.i64) (off:=0) (len:=d.length) (g:=d.length) aS hm (by simp) rfl am
  have f78:=cu (q:=ce.toNat) am dl rfl;obtain⟨br,dr,h⟩:=aK h;have f80:=aY (k:=.i64) dr;simp[E,a,ao,W,f70,f77,f78,f80,i,o,-ar,-aw];apply V;refine J.cut (fun O H n=>∃ (aX A:au),((O 1 = .list false (links.map av)/\O 3=pA U 3/\O 8=A/\O 9=aX/\O 10=int i29/\O 44=bool br)/\H (U,3)=some ⟨6,[bC false b]⟩)/\Sep H n [oI aX d,oI A p] [(U,3)]) (by refine⟨.arr bi d.length 0 d.length,B,by simp[E,a,ao,W,f70,f77,f78,f80,i,o,-ar,-aw],M⟩) ?_;clear E a ao W;rintro O H ds ⟨aX,A,⟨E,a⟩,M⟩;refine J.ite (b:=br) (by simp[E,a]) (fun j=>?_) (fun j=>?_)
  ·replace h:=h.1 j;refine J.gf ay aA bq (by decide) (by kernel_rfl) fun _ V=>?_
   obtain⟨d0,h⟩:=h;obtain⟨bs,d1,h⟩:=aK h;have f86:=fun H=>aP (H:=H) (fr:=false) (f:=av) (k:=.i64) aS (fun _=>rfl) d0 d1
   obtain⟨d2,h⟩:=h;obtain⟨d3,d4,h⟩:=aK h;simp[E,a,f86,j,-ar];refine bf.bN ay aA (GC d d2) e166 (.cons (Sep.dt M (bU (by simp))) .nil) (by decide) rfl (by simp[E,a,f86,j,-ar]) ?_;rw[<- d4];obtain⟨a0,h⟩:=h;obtain⟨a1,hv,d5,gc,D⟩:=Sep.eA M (by simp) a0;subst hv;simp at D;obtain⟨gd,d6,h⟩:=aK h;have f95:=fun H (hm:H a1=some ⟨1,d.map av⟩)=>cH (H:=H) (k:=.i64) (off:=0) (len:=d.length) (g:=d.length) aS hm (by simp) rfl a0
   have f96:=cu (q:=bs.toNat) a0 d6 rfl;obtain⟨e,d7,h⟩:=aK h;simp[E,a,d5,D,f86,f95,f96,j,-ar,-cq];refine ph (q:=bs.toNat) (news:=av d3) [] [oI A p] M (by simp) (by simp;omega) (by simp) (by simp[-aM,bu]) (bb.v _ bb.nil) ?_;rintro d8 M d9;replace M:Sep d8 ds [oI (.arr a1 d.length 0 d.length) e,oI A p] [(U,3)]:=Sep.st d7 M;have a:=(d9 _ (by simp)).trans a;simp[E,a,D,f86,f95,f96,j,-ar];apply V;refine J.cut (fun O H n=>∃ (a2 a3:au),((O 1 = .list false (links.map av)/\O 3=pA U 3/\O 8=a3/\O 9=a2/\O 10=int i29)/\H (U,3)=some ⟨6,[bC false b]⟩)/\Sep H n [oI a2 e,oI a3 p] [(U,3)]) (by refine⟨.arr a1 d.length 0 d.length,A,by simp[E,a,D,f86,f95,f96,j,-ar],M⟩) ?_;clear E a D;rintro O H n103 ⟨a2,a3,⟨E,a⟩,M⟩;refine zF fun _ V=>?_
   obtain⟨eb,h⟩:=h;obtain⟨ed,ei,h⟩:=aK h;have f106:=fun H=>aP (H:=H) (fr:=false) (f:=av) (k:=.i64) aS (fun _=>rfl) eb ei
   obtain⟨a4,h⟩:=h;obtain⟨X,hv,el,gg,F⟩:=Sep.eA M (by simp) a4;subst hv;simp at F;obtain⟨gi,em,h⟩:=aK h;have f113:=fun H (hm:H X=some ⟨1,e.map av⟩)=>cH (H:=H) (k:=.i64) (off:=0) (len:=e.length) (g:=e.length) aS hm (by simp) rfl a4
   have f114:=cu (q:=ed.toNat) a4 em rfl;obtain⟨en,h⟩:=h;obtain⟨bv,eo,h⟩:=aK h;have f117:=aU en eo;obtain⟨es,h⟩:=h;obtain⟨a5,ev,h⟩:=aK h;simp[E,a,el,F,f106,f113,f114,f117,-ar,-aw,-bo];refine cQ [] [oI (.arr X e.length 0 e.length) e] [[int bv]] [av bv] M.f1 aS (by simp) (by simp) (by simp) (by simp[-aM,bu]) (cf (bb.v _ bb.nil)) (by simp) (by simpa using es) ?_;rintro b0 ex n122 M ey gj;replace M:Sep ex n122 [oI b0 a5,oI (.arr X e.length 0 e.length) e] [(U,3)]:=Sep.ap ev M;have a:=(ey _ (by simp)).trans a;simp[E,a,F,f106,f113,f114,f117,-ar,-aw];apply V;refine J.cut (fun O H n=>∃ (Y v127:au),((O 1 = .list false (links.map av)/\O 3=pA U 3/\O 8=Y/\O 9=v127/\O 10=int i29)/\H (U,3)=some ⟨6,[bC false b]⟩)/\Sep H n [oI Y a5,oI v127 e] [(U,3)]) (by refine⟨b0,.arr X e.length 0 e.length,by simp[E,a,F,f106,f113,f114,f117,-ar,-aw],M⟩) ?_;clear E a F;rintro O H n128 ⟨Y,v127,⟨E,a⟩,M⟩;refine zI fun _ V=>?_
   obtain⟨e0,h⟩:=h;obtain⟨v130,e1,h⟩:=aK h;have f131:=aU e0 e1;simp[E,a,f131,-aw];apply V;refine ad (v130,a5,e) _ _ _ h (by refine⟨v127,Y,by simp[E,a],M.f1⟩)
  replace h:=h.2 j;apply J.skip;refine zF fun _ V=>?_
  obtain⟨e2,h⟩:=h;obtain⟨e3,e4,h⟩:=aK h;have f134:=fun H=>aP (H:=H) (fr:=false) (f:=av) (k:=.i64) aS (fun _=>rfl) e2 e4
  obtain⟨a9,h⟩:=h;obtain⟨ab,hv,e5,gn,G⟩:=Sep.eA M (by simp) a9;subst hv;simp at G;obtain⟨go,e6,h⟩:=aK h;have f141:=fun H (hm:H ab=some ⟨1,d.map av⟩)=>cH (H:=H) (k:=.i64) (off:=0) (len:=d.length) (g:=d.length) aS hm (by simp) rfl a9
  have f142:=cu (q:=e3.toNat) a9 e6 rfl;obtain⟨e7,h⟩:=h;obtain⟨b1,e8,h⟩:=aK h;have f145:=aU e7 e8;obtain⟨fd,h⟩:=h;obtain⟨bd,fl,h⟩:=aK h;simp[E,a,e5,G,f134,f141,f142,f145,j,-ar,-aw,-bo];refine cQ [] [oI (.arr ab d.length 0 d.length) d] [[int b1]] [av b1] M.f1 aS (by simp) (by simp) (by simp) (by simp[-aM,bu]) (cf (bb.v _ bb.nil)) (by simp) (by simpa using fd) ?_;rintro v148 fn n150 M fo gs;replace M:Sep fn n150 [oI v148 bd,oI (.arr ab d.length 0 d.length) d] [(U,3)]:=Sep.ap fl M;have a:=(fo _ (by simp)).trans a;simp[E,a,G,f134,f141,f142,f145,j,-ar,-aw];apply V;refine J.cut (fun O H n=>∃ (v154 ac:au),((O 1 = .list false (links.map av)/\O 3=pA U 3/\O 8=v154/\O 9=ac/\O 10=int i29)/\H (U,3)=some ⟨6,[bC false b]⟩)/\Sep H n [oI v154 bd,oI ac d] [(U,3)]) (by refine⟨v148,.arr ab d.length 0 d.length,by simp[E,a,G,f134,f141,f142,f145,j,-ar,-aw],M⟩) ?_;clear E a G;rintro O H n156 ⟨v154,ac,⟨E,a⟩,M⟩;refine zI fun _ V=>?_
  obtain⟨fs,h⟩:=h;obtain⟨fx,fy,h⟩:=aK h;have f159:=aU fs fy;simp[E,a,f159,-aw];apply V;refine ad (fx,bd,d) _ _ _ h (by refine⟨ac,v154,by simp[E,a],M.f1⟩)
 replace h:=h.2 i;refine J.exit rfl ?_;refine zE fun _ V=>?_
 simp[E,a,i];apply V;exact J.rT (v:=B) (w:=u) func154 results154 (by simp[E,a,i]) (by simp[E,a,i]) (hQ _ _ _ _ (Sep.sub (dK:=[]) (Sep.te (bb.own (bb.own bb.nil)) M.f1) (by simp)) ⟨(p,d),h,rfl⟩)
theorem tm (b:I) (links:List Int) (edges:List Int) (hp:eQ b links edges):bG prog 154 [.agg (bC false b),.list false (links.map av),.list false (edges.map av)] (.t [.s [.c],.s [.c]]) (fun r=>r = .tup [.list true (((kh b links edges).1).map av),.list true (((kh b links edges).2).map av)]):=(wA b links edges _ (B4 b links edges hp)).mono (by rintro _ ⟨_,rfl,rfl⟩;rfl)
theorem F9:a8 prog 130:=a8.of func130 (by kernel_rfl) rfl
theorem wJ (b:I) (node:Int) (places:List Int) (edges:List Int) (Z:((List Int) × (List Int))->Prop) (h:kG b node places edges Z):bG prog 130 [.agg (bC false b),int node,.list false (places.map av),.list false (edges.map av)] (.t [.s [.c],.s [.c]]) (fun r=>∃ y:(List Int) × (List Int),Z y/\r = .tup [.list true (y.1.map av),.list true (y.2.map av)]):=by
 unfold kG at h;have M:Sep bw 0 [] []:=Sep.nil (by simp);refine bG.of func130 rfl ntmps130 (by simp) fun Q hQ=>?_
 refine J.cut (fun O H n=>(O 0 = .agg (bC false b)/\O 1=int node/\O 2 = .list false (places.map av)/\O 3 = .list false (edges.map av))/\Sep H n [] []) (by refine⟨by simp ,M⟩) ?_;rintro O H U ⟨E,M⟩;refine zE fun _ V=>?_
 simp[E];apply V;refine J.cut (fun O H n=>((O 1=int node/\O 2 = .list false (places.map av)/\O 3 = .list false (edges.map av)/\O 4=pA U 4)/\H (U,4)=some ⟨6,[bC false b]⟩)/\Sep H n [] [(U,4)]) (by refine⟨by simp[E],M.var⟩) ?_;clear E;rintro O H n3 ⟨⟨E,d⟩,M⟩;refine zE fun _ V=>?_
 obtain⟨hb4,h⟩:=h;obtain⟨x5,ex5,h⟩:=aK h;have f6:=fun H=>aP (H:=H) (fr:=false) (f:=(az.cells false)) (k:=.i64) b9 (fun _=>rfl) hb4 ex5
 simp[E,d,f6,-ar];apply V;refine J.cut (fun O H n=>((O 2 = .list false (places.map av)/\O 3 = .list false (edges.map av)/\O 4=pA U 4/\O 10=pA n3 10)/\H (U,4)=some ⟨6,[bC false b]⟩/\H (n3,10)=some ⟨3,[[int x5.control,int x5.parent,.list false (x5.links.map av)]]⟩)/\Sep H n [] [(n3,10),(U,4)]) (by refine⟨by simp[E,d,f6,-ar],M.var⟩) ?_;clear E d;rintro O H n8 ⟨⟨E,d,a⟩,M⟩;refine zE fun _ V=>?_
 obtain⟨hb9,h⟩:=h;obtain⟨e,A,h⟩:=aK h;simp[E,d,a];refine zW (tm b x5.links edges hb9) e154 (.cons (cN false b) (.cons (cU false x5.links) (.cons (cU false edges) .nil))) M (by simp[E,d,a]) ?_;rintro v11 ad af _ M rfl am p;rw[<- A] at M;have d:=(p _ (by simp)).trans d;have a:=(p _ (by simp)).trans a;replace M:=Sep.fF M;obtain⟨L19,hv,B,M⟩:=M;subst hv;obtain⟨C,D,hv⟩:=bh (by simpa using B);subst hv;simp only[gp,List.cons_append,List.nil_append] at M;replace M:=Sep.oo M;replace M:=Sep.oo M;try simp only[List.append_eq,List.cons_append,List.nil_append,List.append_assoc] at M
 simp[E,d,a];apply V;refine J.cut (fun O H n=>∃ (g v24:au),((O 2 = .list false (places.map av)/\O 10=pA n3 10/\O 11=g/\O 12=v24)/\H (n3,10)=some ⟨3,[[int x5.control,int x5.parent,.list false (x5.links.map av)]]⟩)/\Sep H n [oI g e.1,oI v24 e.2] [(n3,10)]) (by refine⟨C,D,by simp[E,d,a],(Sep.sub M (by simp +contextual))⟩) ?_;clear E d a;rintro O H n25 ⟨g,v24,⟨E,a⟩,M⟩;refine J.seqM ay [32] bq (by decide) (by kernel_rfl) fun _ V=>?_
 obtain⟨F,h⟩:=h;obtain⟨q,G,h⟩:=aK h;simp[E,a];refine tA.bN (ai:=[32]) ay (Av x5.parent places F) e155 (fun _ _ hE hN=>(.cons (.v _ _ _) (.cons (cU false places) .nil))) rfl (by simp[E,a]) ?_;rw[<- G];obtain⟨K,L,h⟩:=aK h;simp[E,a,-dZ];refine yl (l:=[.c]) (cs:=[int x5.control,int q]) (([x5.control,q]:List Int).map av) M (by simp) aS (by simp) (by simp) (by simp[E,a,fa,List.replicate,dZ]) (by simp[chunks,List.range_succ]) (by simp) (by simp) ?_;rintro N R n31 M T ao;replace M:Sep R n31 [oI (.arr N 2 0 2) K,oI g e.1,oI v24 e.2] [(n3,10)]:=by rw[L];exact M
 have a:=(T _ (by simp)).trans a;obtain⟨W,h⟩:=h;obtain⟨o,X,h⟩:=aK h;simp[E,a,-bo];refine sd (e.1.map av) M (by simp) aS (by simp) (by simp) (Sep.src M.f1 (by simp)) (by simp[-aM,bu]) (by simpa using W) ?_;rintro u Y ab M ac aX;replace M:Sep Y ab [oI u o,oI g e.1,oI v24 e.2] [(n3,10)]:=by refine Sep.ap X ?_;exact M
 have a:=(ac _ (by simp)).trans a;simp[E,a];apply V;refine J.cut (fun O H n=>∃ (i j:au),(O 8=i/\O 9=j)/\Sep H n [oI i o,oI j e.2] []) (by refine⟨u,v24,by simp[E,a],(Sep.sub M.f1.dr (by simp +contextual))⟩) ?_;clear E a;rintro O H a0 ⟨i,j,E,M⟩;exact J.rT (v:=i) (w:=j) func130 results130 (by simp[E]) (by simp[E]) (hQ _ _ _ _ (Sep.sub (dK:=[]) (Sep.te (bb.own (bb.own bb.nil)) M) (by simp)) ⟨(o,e.2),h,rfl⟩)
theorem kM (b:I) (node:Int) (places:List Int) (edges:List Int) (hp:eO b node places edges):bG prog 130 [.agg (bC false b),int node,.list false (places.map av),.list false (edges.map av)] (.t [.s [.c],.s [.c]]) (fun r=>r = .tup [.list true (((ep b node places edges).1).map av),.list true (((ep b node places edges).2).map av)]):=(wJ b node places edges _ (BW b node places edges hp)).mono (by rintro _ ⟨_,rfl,rfl⟩;rfl)
theorem e131:a8 prog 131:=a8.of func131 (by kernel_rfl) rfl
theorem xV (b:I) (places:List Int) (edges:List Int) (Z:((List Int) × (List Int))->Prop) (h:nT b places edges Z):bG prog 131 [.agg (bC false b),.list false (places.map av),.list false (edges.map av)] (.t [.s [.c],.s [.c]]) (fun r=>∃ y:(List Int) × (List Int),Z y/\r = .tup [.list true (y.1.map av),.list true (y.2.map av)]):=by
 unfold nT at h;have M:Sep bw 0 [] []:=Sep.nil (by simp);refine bG.of func131 rfl ntmps131 (by simp) fun Q hQ=>?_
 refine J.cut (fun O H n=>(O 0 = .agg (bC false b)/\O 1 = .list false (places.map av)/\O 2 = .list false (edges.map av))/\Sep H n [] []) (by refine⟨by simp ,M⟩) ?_;rintro O H U ⟨E,M⟩;refine zE fun _ V=>?_
 simp[E];apply V;refine J.cut (fun O H n=>((O 1 = .list false (places.map av)/\O 2 = .list false (edges.map av)/\O 3=pA U 3)/\H (U,3)=some ⟨6,[bC false b]⟩)/\Sep H n [] [(U,3)]) (by refine⟨by simp[E],M.var⟩) ?_;clear E;rintro O H n3 ⟨⟨E,a⟩,M⟩;refine zE fun _ V=>?_
 simp[E,a];apply V;refine J.cut (fun O H n=>∃ (v5:au),((O 1 = .list false (places.map av)/\O 2 = .list false (edges.map av)/\O 3=pA U 3/\O 8=v5)/\H (U,3)=some ⟨6,[bC false b]⟩)/\Sep H n [oI v5 ([]:List Int)] [(U,3)]) (by refine⟨.arr (n3,14) 0 0 0,by simp[E,a],(Sep.addEmpty (l:=[.c]) M)⟩) ?_;clear E a;rintro O H n6 ⟨v5,⟨E,a⟩,M⟩;refine zS fun _ V=>?_
 simp[E,a];apply V;apply J.block;refine J.aO h (fun (sJ:Int × (List Int)) O H n=>match sJ with | (i14,g)=>∃ (p:au),((O 1 = .list false (places.map av)/\O 2 = .list false (edges.map av)/\O 3=pA U 3/\O 8=p/\O 9=int i14)/\H (U,3)=some ⟨6,[bC false b]⟩)/\Sep H n [oI p g] [(U,3)]) (by refine⟨v5,by simp[E,a],M⟩) ?_;clear E a;rintro⟨i14,g⟩ O H n17 K h ⟨p,⟨E,a⟩,M⟩ ac;refine zS fun _ V=>?_
 obtain⟨c3,ad,h⟩:=aK h;have f21:=fun H=>aI (H:=H) (fr:=false) (f:=av) aS ad
 obtain⟨af,am,h⟩:=aK h;have f23:=aY (k:=.i64) am;simp[E,a,f21,f23,-aw,-aL];apply V;refine J.ite (b:=af) (by simp[E,a]) (fun d=>?_) (fun d=>?_)
 ·replace h:=h.1 d;apply zK;apply J.block;refine zF fun _ V=>?_
  obtain⟨ao,h⟩:=h;obtain⟨aX,a0,h⟩:=aK h;have f26:=fun H=>aP (H:=H) (fr:=false) (f:=av) (k:=.i64) aS (fun _=>rfl) ao a0
  obtain⟨a1,h⟩:=h;obtain⟨W,a2,h⟩:=aK h;simp[E,a,f26,d,-ar];refine zA (Av aX places a1) e155 (.cons (.v _ _ _) (.cons (cU false places) .nil)) (by simp[E,a,f26,d,-ar]) ?_;rintro _ rfl;rw[<- a2];obtain⟨a3,h⟩:=h;obtain⟨F,a4,h⟩:=aK h;simp[E,a,f26,d,-ar,-bo];refine cQ [] [] [[int W]] [av W] M aS (by simp) (by simp) (by simp) (by simp[-aM,bu]) (cf (bb.v _ bb.nil)) (by simp) (by simpa using a3) ?_;rintro v31 a5 n33 M a9 c4;replace M:Sep a5 n33 [oI v31 F] [(U,3)]:=Sep.ap a4 M;have a:=(a9 _ (by simp)).trans a;simp[E,a,f26,d,-ar];apply V;refine J.cut (fun O H n=>∃ (v37:au),((O 1 = .list false (places.map av)/\O 2 = .list false (edges.map av)/\O 3=pA U 3/\O 8=v37/\O 9=int i14)/\H (U,3)=some ⟨6,[bC false b]⟩)/\Sep H n [oI v37 F] [(U,3)]) (by refine⟨v31,by simp[E,a,f26,d,-ar],M⟩) ?_;clear E a;rintro O H n38 ⟨v37,⟨E,a⟩,M⟩;refine zI fun _ V=>?_
  obtain⟨bd,h⟩:=h;obtain⟨v40,be,h⟩:=aK h;have f41:=aU bd be;simp[E,a,f41,-aw];apply V;refine ac (v40,F) _ _ _ h (by refine⟨v37,by simp[E,a],M⟩)
 replace h:=h.2 d;refine J.exit rfl ?_;refine zE fun _ V=>?_
 simp[E,a,d];apply V;refine J.cut (fun O H n=>∃ (q u:au),((O 2 = .list false (edges.map av)/\O 3=pA U 3/\O 8=u/\O 10=q)/\H (U,3)=some ⟨6,[bC false b]⟩)/\Sep H n [oI q ([]:List Int),oI u g] [(U,3)]) (by refine⟨.arr (n17,32) 0 0 0,p,by simp[E,a,d],(Sep.addEmpty (l:=[.c]) M)⟩) ?_;clear E a;rintro O H c6 ⟨q,u,⟨E,a⟩,M⟩;refine zS fun _ V=>?_
 simp[E,a];apply V;apply J.block;refine J.aO h (fun (sJ:Int × (List Int)) O H n=>match sJ with | (i55,G)=>∃ (L i:au),((O 2 = .list false (edges.map av)/\O 3=pA U 3/\O 8=i/\O 10=L/\O 11=int i55)/\H (U,3)=some ⟨6,[bC false b]⟩)/\Sep H n [oI L G,oI i g] [(U,3)]) (by refine⟨q,u,by simp[E,a],M⟩) ?_;clear E a;rintro⟨i55,G⟩ O H c7 K h ⟨L,i,⟨E,a⟩,M⟩ bi;refine zS fun _ V=>?_
 obtain⟨c8,br,h⟩:=aK h;have f63:=fun H=>aI (H:=H) (fr:=false) (f:=aQ.cells) dM br
 obtain⟨bs,bv,h⟩:=aK h;have f65:=aY (k:=.i64) bv;simp[E,a,f63,f65,-aw,-aL];apply V;refine J.ite (b:=bs) (by simp[E,a]) (fun e=>?_) (fun e=>?_)
 ·replace h:=h.1 e;apply zK;apply J.block;refine zF fun _ V=>?_
  obtain⟨b0,h⟩:=h;obtain⟨X,b1,h⟩:=aK h;have f68:=fun H=>aP (H:=H) (fr:=false) (f:=aQ.cells) (k:=.i64) dM (fun _=>rfl) b0 b1
  obtain⟨b2,h⟩:=h;obtain⟨N,b3,h⟩:=aK h;simp[E,a,f68,e,-ar,-bo];refine cQ [] [oI i g] [[int X.link]] [av X.link] M aS (by simp) (by simp) (by simp) (by simp[-aM,bu]) (cf (bb.v _ bb.nil)) (by simp) (by simpa using b2) ?_;rintro Y b7 b8 M cc da;replace M:Sep b7 b8 [oI Y N,oI i g] [(U,3)]:=Sep.ap b3 M;have a:=(cc _ (by simp)).trans a;simp[E,a,f68,e,-ar];apply V;refine J.cut (fun O H n=>∃ (A B:au),((O 2 = .list false (edges.map av)/\O 3=pA U 3/\O 8=B/\O 10=A/\O 11=int i55)/\H (U,3)=some ⟨6,[bC false b]⟩)/\Sep H n [oI A N,oI B g] [(U,3)]) (by refine⟨Y,i,by simp[E,a,f68,e,-ar],M⟩) ?_;clear E a;rintro O H dc ⟨A,B,⟨E,a⟩,M⟩;refine zI fun _ V=>?_
  obtain⟨ce,h⟩:=h;obtain⟨ch,ci,h⟩:=aK h;have f82:=aU ce ci;simp[E,a,f82,-aw];apply V;refine bi (ch,N) _ _ _ h (by refine⟨A,B,by simp[E,a],M⟩)
 replace h:=h.2 e;refine J.exit rfl ?_;refine zE fun _ V=>?_
 obtain⟨cj,h⟩:=h;obtain⟨j,cl,h⟩:=aK h;simp[E,a,e];refine zW (tm b G edges cj) e154 (.cons (cN false b) (.cons (Sep.dt M (bU (by simp))) (.cons (cU false edges) .nil))) M (by simp[E,a,e]) ?_;rintro v85 dd dl _ M rfl ds co;rw[<- cl] at M;have a:=(co _ (by simp)).trans a;replace M:=Sep.fF M;obtain⟨L93,hv,cs,M⟩:=M;subst hv;obtain⟨v91,cv,hv⟩:=bh (by simpa using cs);subst hv;simp only[gp,List.cons_append,List.nil_append] at M;replace M:=Sep.oo M;replace M:=Sep.oo M;try simp only[List.append_eq,List.cons_append,List.nil_append,List.append_assoc] at M
 simp[E,a,e];apply V;refine J.cut (fun O H n=>∃ (R C o:au),(O 8=R/\O 12=C/\O 13=o)/\Sep H n [oI R g,oI C j.1,oI o j.2] []) (by refine⟨i,v91,cv,by simp[E,a,e],(Sep.sub M.dr (by simp +contextual))⟩) ?_;clear E a;rintro O H n100 ⟨R,C,o,E,M⟩;refine zE fun _ V=>?_
 obtain⟨c0,h⟩:=h;obtain⟨T,c1,h⟩:=aK h;simp[E,-bo];refine dg (j.1.map av) M (by simp) aS (by simp) (by simp) (Sep.src M.f1 (by simp)) (by simp[-aM,bu]) (by simpa using c0) ?_;rintro ab c2 n105 M d0 d1;replace M:Sep c2 n105 [oI ab T,oI C j.1,oI o j.2] []:=by refine Sep.ap c1 ?_;exact M
 simp[E];apply V;refine J.cut (fun O H n=>∃ (v109 D:au),(O 6=v109/\O 7=D)/\Sep H n [oI v109 T,oI D j.2] []) (by refine⟨ab,o,by simp[E],M.f1.dr⟩) ?_;clear E;rintro O H n111 ⟨v109,D,E,M⟩;exact J.rT (v:=v109) (w:=D) func131 results131 (by simp[E]) (by simp[E]) (hQ _ _ _ _ (Sep.sub (dK:=[]) (Sep.te (bb.own (bb.own bb.nil)) M) (by simp)) ⟨(T,j.2),h,rfl⟩)
theorem wm (b:I) (places:List Int) (edges:List Int) (hp:iY b places edges):bG prog 131 [.agg (bC false b),.list false (places.map av),.list false (edges.map av)] (.t [.s [.c],.s [.c]]) (fun r=>r = .tup [.list true (((lH b places edges).1).map av),.list true (((lH b places edges).2).map av)]):=(xV b places edges _ (EG b places edges hp)).mono (by rintro _ ⟨_,rfl,rfl⟩;rfl)
theorem e84:a8 prog 84:=a8.of func84 (by kernel_rfl) rfl
theorem vY (b:I) (order:List Int) (Z:((List Int) × (List Int))->Prop) (h:kV b order Z):bG prog 84 [.agg (bC false b),.list false (order.map av)] (.t [.s [.c],.s [.c]]) (fun r=>∃ y:(List Int) × (List Int),Z y/\r = .tup [.list true (y.1.map av),.list true (y.2.map av)]):=by
 unfold kV at h;have M:Sep bw 0 [] []:=Sep.nil (by simp);refine bG.of func84 rfl ntmps84 (by simp) fun Q hQ=>?_
 refine J.cut (fun O H n=>(O 0 = .agg (bC false b)/\O 1 = .list false (order.map av))/\Sep H n [] []) (by refine⟨by simp ,M⟩) ?_;rintro O H U ⟨E,M⟩;refine zE fun _ V=>?_
 simp[E];apply V;refine J.cut (fun O H n=>((O 1 = .list false (order.map av)/\O 2=pA U 2)/\H (U,2)=some ⟨6,[bC false b]⟩)/\Sep H n [] [(U,2)]) (by refine⟨by simp[E],M.var⟩) ?_;clear E;rintro O H n3 ⟨⟨E,a⟩,M⟩;refine zE fun _ V=>?_
 simp[E,a];apply V;refine J.cut (fun O H n=>∃ (v5:au),((O 1 = .list false (order.map av)/\O 2=pA U 2/\O 6=v5)/\H (U,2)=some ⟨6,[bC false b]⟩)/\Sep H n [oI v5 ([]:List Int)] [(U,2)]) (by refine⟨.arr (n3,14) 0 0 0,by simp[E,a],(Sep.addEmpty (l:=[.c]) M)⟩) ?_;clear E a;rintro O H n6 ⟨v5,⟨E,a⟩,M⟩;refine zE fun _ V=>?_
 obtain⟨hb7,h⟩:=h;obtain⟨r8,er8,h⟩:=aK h;simp[E,a];refine zW (m0 b.edges hb7) GP (.cons (.v _ _ _) .nil) M (by simp[E,a]) ?_;rintro v9 d9 eb _ M rfl ed be;rw[<- er8] at M;have a:=(be _ (by simp)).trans a;simp[E,a];apply V;refine J.cut (fun O H n=>∃ (T W:au),((O 1 = .list false (order.map av)/\O 2=pA U 2/\O 6=W/\O 7=T)/\H (U,2)=some ⟨6,[bC false b]⟩)/\Sep H n [oI T r8,oI W ([]:List Int)] [(U,2)]) (by refine⟨v9,v5,by simp[E,a],M⟩) ?_;clear E a;rintro O H n18 ⟨T,W,⟨E,a⟩,M⟩;refine zE fun _ V=>?_
 obtain⟨bi,br,h⟩:=aK h;have f20:=fun H=>aI (H:=H) (fr:=false) (f:=(az.cells false)) b9 br
 obtain⟨bs,h⟩:=h;obtain⟨bv,b0,h⟩:=aK h;simp[E,a,f20,-aL];refine zW (m0 bi bs) GP (.cons (.v _ _ _) .nil) M (by simp[E,a,f20,-aL]) ?_;rintro b1 ei n25 _ M rfl el b2;rw[<- b0] at M;have a:=(b2 _ (by simp)).trans a;simp[E,a,f20,-aL];apply V;refine J.cut (fun O H n=>∃ (v30 v31 X:au),((O 1 = .list false (order.map av)/\O 2=pA U 2/\O 6=X/\O 7=v31/\O 8=v30)/\H (U,2)=some ⟨6,[bC false b]⟩)/\Sep H n [oI v30 bv,oI v31 r8,oI X ([]:List Int)] [(U,2)]) (by refine⟨b1,T,W,by simp[E,a,f20,-aL],M⟩) ?_;clear E a;rintro O H n33 ⟨v30,v31,X,⟨E,a⟩,M⟩;refine zS fun _ V=>?_
 simp[E,a];apply V;apply J.block;refine J.aO h (fun (sJ:Int × (List Int) × (List Int) × (List Int)) O H n=>match sJ with | (i47,d,B,j)=>∃ (v51 Y v53:au),((O 1 = .list false (order.map av)/\O 2=pA U 2/\O 6=v53/\O 7=Y/\O 8=v51/\O 9=int i47)/\H (U,2)=some ⟨6,[bC false b]⟩)/\Sep H n [oI v51 d,oI Y B,oI v53 j] [(U,2)]) (by refine⟨v30,v31,X,by simp[E,a],M⟩) ?_;clear E a;rintro⟨i47,d,B,j⟩ O H em K h ⟨v51,Y,v53,⟨E,a⟩,M⟩ b3;refine zS fun _ V=>?_
 obtain⟨en,b7,h⟩:=aK h;have f58:=fun H=>aI (H:=H) (fr:=false) (f:=av) aS b7
 obtain⟨b8,cc,h⟩:=aK h;have f60:=aY (k:=.i64) cc;simp[E,a,f58,f60,-aw,-aL];apply V;refine J.ite (b:=b8) (by simp[E,a]) (fun u=>?_) (fun u=>?_)
 ·replace h:=h.1 u;apply zK;apply J.block;refine J.cut (fun O H n=>∃ (o C A:au),((O 1 = .list false (order.map av)/\O 2=pA U 2/\O 6=A/\O 7=C/\O 8=o/\O 9=int i47)/\H (U,2)=some ⟨6,[bC false b]⟩)/\Sep H n [oI o d,oI C B,oI A j] [(U,2)]) (by refine⟨v51,Y,v53,by simp[E,a,u],M⟩) ?_;clear E a;rintro O H eo ⟨o,C,A,⟨E,a⟩,M⟩;obtain⟨a5,h⟩:=h;obtain⟨ab,a9,h⟩:=aK h;have f67:=fun H=>aP (H:=H) (fr:=false) (f:=av) (k:=.i64) aS (fun _=>rfl) a5 a9
  obtain⟨ce,h⟩:=h;obtain⟨e,ch,h⟩:=aK h;refine J.C3 (fun H n=>H (U,2)=some ⟨6,[bC false b]⟩/\Sep H n [oI o d,oI C B,oI A j] [(U,2)]) [7,8,9,10,11,12] (.free 0 (.free 1 (.free 2 (.free 3 (.free 4 (.free 5 (.free 6 (.aV 7 (.aV 8 (.aV 9 (.aV 10 (.aV 11 (.aV 12 (.fin) (.stop)) (.stop)) (.aV 11 (.aV 10 (.aV 12 (.fin) (.stop)) (.stop)) (.stop))) (.aV 10 (.aV 9 (.aV 11 (.aV 12 (.fin) (.stop)) (.stop)) (.stop)) (.stop))) (.stop)) (.stop))))))))) (fun O H n=>∃ (v72 F ao v75:au),((O 1 = .list false (order.map av)/\O 2=pA U 2/\O 6=v75/\O 8=ao/\O 9=int i47/\O 10=v72/\O 11=F)/\H (U,2)=some ⟨6,[bC false b]⟩)/\Sep H n [oI v72 e.1,oI F e.2,oI ao d,oI v75 j] [(U,2)]) bq (by decide) (by kernel_rfl) ?_ ?_
  ·refine RunT.free (.agg (bC false b)) rfl rfl ⟨a,M⟩ (fun H n hS=>by obtain⟨a,M⟩:=hS;exact (by exact aH ay (by rw[aF];simp[E,a,f67,-ar]))) ?_;refine RunT.free (.list false (order.map av)) rfl rfl ⟨a,M⟩ (fun H n hS=>by obtain⟨a,M⟩:=hS;exact (by exact aH ay (by rw[aF];simp[E,a,f67,-ar]))) ?_;refine RunT.free (int i47) rfl rfl ⟨a,M⟩ (fun H n hS=>by obtain⟨a,M⟩:=hS;exact (by exact aH ay (by rw[aF];simp[E,a,f67,-ar]))) ?_;refine RunT.free (.iptr false [int ab]) rfl rfl ⟨a,M⟩ (fun H n hS=>by obtain⟨a,M⟩:=hS;exact (by have f67:=fun H=>aP (H:=H) (fr:=false) (f:=av) (k:=.i64) aS (fun _=>rfl) a5 a9;exact aH ay (by rw[aF];simp[E,a,f67,-ar]))) ?_;refine RunT.free (int ab) rfl rfl ⟨a,M⟩ (fun H n hS=>by obtain⟨a,M⟩:=hS;exact (by exact aH ay (by rw[aF];simp[E,a,f67,-ar]))) ?_;refine RunT.free o rfl rfl ⟨a,M⟩ (fun H n hS=>by obtain⟨a,M⟩:=hS;exact (by exact aH ay (by rw[aF];simp[E,a,f67,-ar]))) ?_;refine RunT.free C rfl rfl ⟨a,M⟩ (fun H n hS=>by obtain⟨a,M⟩:=hS;exact (by exact aH ay (by rw[aF];simp[E,a,f67,-ar]))) ?_;refine⟨?_,trivial⟩;refine RunT.lK (as1:=[.agg (bC false b),int ab,o,C]) rfl rfl (kM b ab d B ce) F9 (.cons (cN false b) (.cons (.v _ _ _) (.cons (Sep.dt M (bU (by simp))) (.cons (Sep.dt M.f1 (bU (by simp))) .nil)))) M (by simp[E,a,f67,-ar]) (by simp[E,a,f67,-ar]) ?_;rintro es ci cj _ M rfl ev cl;rw[<- ch] at M;replace M:=Sep.fF M;obtain⟨L85,hv,co,M⟩:=M;subst hv;obtain⟨p,i,hv⟩:=bh (by simpa using co);subst hv;simp only[gp,List.cons_append,List.nil_append] at M;replace M:=Sep.oo M;replace M:=Sep.oo M;try simp only[List.append_eq,List.cons_append,List.nil_append,List.append_assoc] at M
   replace M:Sep ci cj [oI o d,oI C B,oI A j,oI p e.1,oI i e.2] [(U,2)]:=M;have a:=(cl _ (by simp)).trans a;refine⟨(fun hl=>absurd (hl.symm.trans (show bn _ _ _=true by kernel_rfl)) (by decide)),?_⟩;refine⟨?_,trivial⟩;refine RunT.same (v:=(.tup [p,i])) ay rfl rfl (by simp[E,a,f67,-ar]) (fun hl=>absurd (hl.symm.trans (show bn _ _ _=true by kernel_rfl)) (by decide)) ?_;refine⟨?_,?_,trivial⟩
   ·have f100:=Sep.oc M.f3;refine RunT.same (v:=p) ay rfl rfl (by simp[E,a,f67,f100,-aE,-ar,-aM,bT,bu]) (fun hl=>absurd (hl.symm.trans (show bn _ _ _=true by kernel_rfl)) (by decide)) ?_;refine⟨?_,?_,trivial⟩
    ·have f107:=Sep.oc M.f4;refine RunT.same (v:=i) ay rfl rfl (by simp[E,a,f67,f100,f107,-aE,-ar,-aM,bT,bu]) (fun hl=>absurd (hl.symm.trans (show bn _ _ _=true by kernel_rfl)) (by decide)) ?_;refine⟨?_,trivial⟩;have f114:=Sep.oc M.f3;refine RunT.same (v:=p) ay rfl rfl (by simp[E,a,f67,f100,f107,f114,-aE,-ar,-aM,bT,bu]) (fun hl=>absurd (hl.symm.trans (show bn _ _ _=true by kernel_rfl)) (by decide)) ?_;refine⟨?_,trivial⟩;have f121:=Sep.oc M.f4;refine RunT.same (v:=i) ay rfl rfl (by simp[E,a,f67,f100,f107,f114,f121,-aE,-ar,-aM,bT,bu]) (fun hl=>absurd (hl.symm.trans (show bn _ _ _=true by kernel_rfl)) (by decide)) ?_;refine RunT.fin (by refine⟨p,i,o,A,by simp[E,a,f67,f100,f107,f114,f121,-aE,-ar,-aM,bT,bu],M.f1.dr.f3.f3⟩)
    have f128:=Sep.oc M.f3;refine RunT.same (v:=p) ay rfl rfl (by simp[E,a,f67,f100,f128,-aE,-ar,-aM,bT,bu]) (fun hl=>absurd (hl.symm.trans (show bn _ _ _=true by kernel_rfl)) (by decide)) ?_;refine⟨?_,trivial⟩;have f135:=Sep.oc M.f4;refine RunT.same (v:=i) ay rfl rfl (by simp[E,a,f67,f100,f128,f135,-aE,-ar,-aM,bT,bu]) (fun hl=>absurd (hl.symm.trans (show bn _ _ _=true by kernel_rfl)) (by decide)) ?_;refine⟨?_,trivial⟩;have f142:=Sep.oc M.f4;refine RunT.same (v:=i) ay rfl rfl (by simp[E,a,f67,f100,f128,f135,f142,-aE,-ar,-aM,bT,bu]) (fun hl=>absurd (hl.symm.trans (show bn _ _ _=true by kernel_rfl)) (by decide)) ?_;refine RunT.fin (by refine⟨p,i,o,A,by simp[E,a,f67,f100,f128,f135,f142,-aE,-ar,-aM,bT,bu],M.f1.dr.f3.f3⟩)
   have f149:=Sep.oc M.f4;refine RunT.same (v:=i) ay rfl rfl (by simp[E,a,f67,f149,-aE,-ar,-aM,bT,bu]) (fun hl=>absurd (hl.symm.trans (show bn _ _ _=true by kernel_rfl)) (by decide)) ?_;refine⟨?_,trivial⟩;have f156:=Sep.oc M.f3;refine RunT.same (v:=p) ay rfl rfl (by simp[E,a,f67,f149,f156,-aE,-ar,-aM,bT,bu]) (fun hl=>absurd (hl.symm.trans (show bn _ _ _=true by kernel_rfl)) (by decide)) ?_;refine⟨?_,trivial⟩;have f163:=Sep.oc M.f3;refine RunT.same (v:=p) ay rfl rfl (by simp[E,a,f67,f149,f156,f163,-aE,-ar,-aM,bT,bu]) (fun hl=>absurd (hl.symm.trans (show bn _ _ _=true by kernel_rfl)) (by decide)) ?_;refine⟨?_,trivial⟩;have f170:=Sep.oc M.f4;refine RunT.same (v:=i) ay rfl rfl (by simp[E,a,f67,f149,f156,f163,f170,-aE,-ar,-aM,bT,bu]) (fun hl=>absurd (hl.symm.trans (show bn _ _ _=true by kernel_rfl)) (by decide)) ?_;refine RunT.fin (by refine⟨p,i,o,A,by simp[E,a,f67,f149,f156,f163,f170,-aE,-ar,-aM,bT,bu],M.f1.dr.f3.f3⟩)
  clear E a;rintro O H cs ⟨v72,F,ao,v75,⟨E,a⟩,M⟩;refine zE fun _ V=>?_
  obtain⟨cv,h⟩:=h;obtain⟨bd,c0,h⟩:=aK h;have f173:=fun H=>aP (H:=H) (fr:=false) (f:=av) (k:=.i64) aS (fun _=>rfl) cv c0
  obtain⟨aX,h⟩:=h;obtain⟨a0,hv,c1,ex,G⟩:=Sep.eA M.f2 (by simp) aX;subst hv;simp at G;obtain⟨ey,c2,h⟩:=aK h;have f180:=fun H (hm:H a0=some ⟨1,d.map av⟩)=>cH (H:=H) (k:=.i64) (off:=0) (len:=d.length) (g:=d.length) aS hm (by simp) rfl aX
  have f181:=cu (q:=bd.toNat) aX c2 rfl;obtain⟨L,c3,h⟩:=aK h;simp[E,a,c1,G,f173,f180,f181,-ar,-cq];refine cL (q:=bd.toNat) (news:=av i47) [] [oI v72 e.1,oI F e.2,oI v75 j] M.f2 (by simp) (by simp;omega) (by simp) (by simp[-aM,bu]) (bb.v _ bb.nil) ?_;rintro c4 M c6;replace M:Sep c4 cs [oI (.arr a0 d.length 0 d.length) L,oI v72 e.1,oI F e.2,oI v75 j] [(U,2)]:=Sep.st c3 M;have a:=(c6 _ (by simp)).trans a;simp[E,a,G,f173,f180,f181,-ar];apply V;refine J.cut (fun O H n=>∃ (N ac R a1:au),((O 1 = .list false (order.map av)/\O 2=pA U 2/\O 6=a1/\O 8=N/\O 9=int i47/\O 10=ac/\O 11=R)/\H (U,2)=some ⟨6,[bC false b]⟩)/\Sep H n [oI N L,oI ac e.1,oI R e.2,oI a1 j] [(U,2)]) (by refine⟨.arr a0 d.length 0 d.length,v72,F,v75,by simp[E,a,G,f173,f180,f181,-ar],M⟩) ?_;clear E a G;rintro O H n190 ⟨N,ac,R,a1,⟨E,a⟩,M⟩;refine zE fun _ V=>?_
  simp[E,a];apply V;refine zF fun _ V=>?_
  obtain⟨c7,h⟩:=h;obtain⟨a2,c8,h⟩:=aK h;simp[E,a,-bo];refine dg (e.1.map av) M.f3 (by simp) aS (by simp) (by simp) (Sep.src M.f1 (by simp)) (by simp[-aM,bu]) (by simpa using c7) ?_;rintro v193 da n195 M dc e0;replace M:Sep da n195 [oI v193 a2,oI N L,oI ac e.1,oI R e.2] [(U,2)]:=by refine Sep.ap c8 ?_;exact M
  have a:=(dc _ (by simp)).trans a;simp[E,a];apply V;refine J.cut (fun O H n=>∃ (ad af v201:au),((O 1 = .list false (order.map av)/\O 2=pA U 2/\O 6=ad/\O 7=v201/\O 8=af/\O 9=int i47)/\H (U,2)=some ⟨6,[bC false b]⟩)/\Sep H n [oI ad a2,oI af L,oI v201 e.2] [(U,2)]) (by refine⟨v193,N,R,by simp[E,a],M.f2.dr⟩) ?_;clear E a;rintro O H n202 ⟨ad,af,v201,⟨E,a⟩,M⟩;refine zI fun _ V=>?_
  obtain⟨dd,h⟩:=h;obtain⟨dl,ds,h⟩:=aK h;have f205:=aU dd ds;simp[E,a,f205,-aw];apply V;refine b3 (dl,L,e.2,a2) _ _ _ h (by refine⟨af,v201,ad,by simp[E,a],M.f2.f2⟩)
 replace h:=h.2 u;refine J.exit rfl ?_;refine zE fun _ V=>?_
 obtain⟨d0,h⟩:=h;obtain⟨D,d1,h⟩:=aK h;simp[E,a,u];refine zW (wm b d B d0) e131 (.cons (cN false b) (.cons (Sep.dt M (bU (by simp))) (.cons (Sep.dt M.f1 (bU (by simp))) .nil))) M (by simp[E,a,u]) ?_;rintro v208 e1 n210 _ M rfl e2 d2;rw[<- d1] at M;have a:=(d2 _ (by simp)).trans a;replace M:=Sep.fF M;obtain⟨L216,hv,d3,M⟩:=M;subst hv;obtain⟨d4,d5,hv⟩:=bh (by simpa using d3);subst hv;simp only[gp,List.cons_append,List.nil_append] at M;replace M:=Sep.oo M;replace M:=Sep.oo M;try simp only[List.append_eq,List.cons_append,List.nil_append,List.append_assoc] at M
 simp[E,a,u];apply V;refine J.cut (fun O H n=>∃ (a3 am v222:au),(O 6=a3/\O 12=am/\O 13=v222)/\Sep H n [oI a3 j,oI am D.1,oI v222 D.2] []) (by refine⟨v53,d4,d5,by simp[E,a,u],(Sep.sub M.dr.dr (by simp +contextual))⟩) ?_;clear E a;rintro O H n223 ⟨a3,am,v222,E,M⟩;refine zE fun _ V=>?_
 obtain⟨d6,h⟩:=h;obtain⟨a4,d7,h⟩:=aK h;simp[E,-bo];refine dg (D.1.map av) M (by simp) aS (by simp) (by simp) (Sep.src M.f1 (by simp)) (by simp[-aM,bu]) (by simpa using d6) ?_;rintro v226 d8 n228 M e3 e4;replace M:Sep d8 n228 [oI v226 a4,oI am D.1,oI v222 D.2] []:=by refine Sep.ap d7 ?_;exact M
 simp[E];apply V;refine J.cut (fun O H n=>∃ (v232 v233:au),(O 4=v232/\O 5=v233)/\Sep H n [oI v232 a4,oI v233 D.2] []) (by refine⟨v226,v222,by simp[E],M.f1.dr⟩) ?_;clear E;rintro O H n234 ⟨v232,v233,E,M⟩;exact J.rT (v:=v232) (w:=v233) func84 results84 (by simp[E]) (by simp[E]) (hQ _ _ _ _ (Sep.sub (dK:=[]) (Sep.te (bb.own (bb.own bb.nil)) M) (by simp)) ⟨(a4,D.2),h,rfl⟩)
theorem CD (b:I) (order:List Int) (hp:mg b order):bG prog 84 [.agg (bC false b),.list false (order.map av)] (.t [.s [.c],.s [.c]]) (fun r=>r = .tup [.list true (((ma b order).1).map av),.list true (((ma b order).2).map av)]):=(vY b order _ (CK b order hp)).mono (by rintro _ ⟨_,rfl,rfl⟩;rfl)
end Go.Ab.Vg
namespace Go.Ab.Vg
open Go.Proofs
set_option maxRecDepth 100000
attribute [local simp] az.cells aQ.cells av gZ bg bC pA
theorem e179:a8 prog 179:=a8.of func179 (by kernel_rfl) rfl
theorem vE (b:I) (parent:Int) (Z:(List Int)->Prop) (h:ld b parent Z):bG prog 179 [.agg (bC false b),int parent] (.s [.c]) (fun r=>∃ y:List Int,Z y/\r = .list true (y.map av)):=by
 unfold ld at h;have M:Sep bw 0 [] []:=Sep.nil (by simp);refine bG.of func179 rfl ntmps179 (by simp) fun Q hQ=>?_
 refine J.cut (fun O H n=>(O 0 = .agg (bC false b)/\O 1=int parent)/\Sep H n [] []) (by refine⟨by simp ,M⟩) ?_;rintro O H U ⟨E,M⟩;refine zE fun _ V=>?_
 simp[E];apply V;refine J.cut (fun O H n=>((O 1=int parent/\O 2=pA U 2)/\H (U,2)=some ⟨6,[bC false b]⟩)/\Sep H n [] [(U,2)]) (by refine⟨by simp[E],M.var⟩) ?_;clear E;rintro O H n3 ⟨⟨E,a⟩,M⟩;refine zE fun _ V=>?_
 simp[E,a];apply V;refine J.cut (fun O H n=>∃ (v5:au),((O 1=int parent/\O 2=pA U 2/\O 5=v5)/\H (U,2)=some ⟨6,[bC false b]⟩)/\Sep H n [oI v5 ([]:List Int)] [(U,2)]) (by refine⟨.arr (n3,7) 0 0 0,by simp[E,a],(Sep.addEmpty (l:=[.c]) M)⟩) ?_;clear E a;rintro O H n6 ⟨v5,⟨E,a⟩,M⟩;refine zS fun _ V=>?_
 simp[E,a];apply V;apply J.block;refine J.aO h (fun (sJ:Int × (List Int)) O H n=>match sJ with | (i14,g)=>∃ (i:au),((O 1=int parent/\O 2=pA U 2/\O 5=i/\O 6=int i14)/\H (U,2)=some ⟨6,[bC false b]⟩)/\Sep H n [oI i g] [(U,2)]) (by refine⟨v5,by simp[E,a],M⟩) ?_;clear E a;rintro⟨i14,g⟩ O H n17 K h ⟨i,⟨E,a⟩,M⟩ p;refine zS fun _ V=>?_
 obtain⟨ab,t,h⟩:=aK h;have f21:=fun H=>aI (H:=H) (fr:=false) (f:=(az.cells false)) b9 t
 obtain⟨u,A,h⟩:=aK h;have f23:=aY (k:=.i64) A;simp[E,a,f21,f23,-aw,-aL];apply V;refine J.ite (b:=u) (by simp[E,a]) (fun d=>?_) (fun d=>?_)
 ·replace h:=h.1 d;apply zK;apply J.block;refine zE fun _ V=>?_
  obtain⟨B,h⟩:=h;obtain⟨ac,C,h⟩:=aK h;have f26:=fun H=>aP (H:=H) (fr:=false) (f:=(az.cells false)) (k:=.i64) b9 (fun _=>rfl) B C
  obtain⟨D,F,h⟩:=aK h;have f28:=eg (k:=.i64) F;simp[E,a,f26,f28,d,-ar,-aw];apply V;refine J.ite (b:=D) (by simp[E,a,d]) (fun e=>?_) (fun e=>?_)
  ·replace h:=h.1 e;refine zF fun _ V=>?_
   obtain⟨G,h⟩:=h;obtain⟨o,L,h⟩:=aK h;simp[E,a,d,e,-bo];refine cQ [] [] [[int i14]] [av i14] M aS (by simp) (by simp) (by simp) (by simp[-aM,bu]) (cf (bb.v _ bb.nil)) (by simp) (by simpa using G) ?_;rintro v31 N n33 M R ad;replace M:Sep N n33 [oI v31 o] [(U,2)]:=Sep.ap L M;have a:=(R _ (by simp)).trans a;simp[E,a,d,e];apply V;refine J.cut (fun O H n=>∃ (v37:au),((O 1=int parent/\O 2=pA U 2/\O 5=v37/\O 6=int i14)/\H (U,2)=some ⟨6,[bC false b]⟩)/\Sep H n [oI v37 o] [(U,2)]) (by refine⟨v31,by simp[E,a,d,e],M⟩) ?_;clear E a;rintro O H n38 ⟨v37,⟨E,a⟩,M⟩;refine zI fun _ V=>?_
   obtain⟨T,h⟩:=h;obtain⟨v40,W,h⟩:=aK h;have f41:=aU T W;simp[E,a,f41,-aw];apply V;refine p (v40,o) _ _ _ h (by refine⟨v37,by simp[E,a],M⟩)
  replace h:=h.2 e;apply J.skip;refine zI fun _ V=>?_
  obtain⟨X,h⟩:=h;obtain⟨q,Y,h⟩:=aK h;have f44:=aU X Y;simp[E,a,f44,d,e,-aw];apply V;refine J.cut (fun O H n=>∃ (j:au),((O 1=int parent/\O 2=pA U 2/\O 5=j/\O 6=int q)/\H (U,2)=some ⟨6,[bC false b]⟩)/\Sep H n [oI j g] [(U,2)]) (by refine⟨i,by simp[E,a,f44,d,e,-aw],M⟩) ?_;clear E a;rintro O H af ⟨j,⟨E,a⟩,M⟩;refine p (q,g) _ _ _ h (by refine⟨j,by simp[E,a],M⟩)
 replace h:=h.2 d;refine J.exit rfl ?_;refine zE fun _ V=>?_
 simp[E,a,d];apply V;exact J.bj (v:=i) func179 results179 (by simp[E,a,d]) (hQ _ _ _ _ (Sep.sub (dK:=[]) M (by simp)) ⟨g,h,rfl⟩)
theorem tx (b:I) (parent:Int) (hp:fv b parent):bG prog 179 [.agg (bC false b),int parent] (.s [.c]) (fun r=>r = .list true ((rq b parent).map av)):=(vE b parent _ (Bv b parent hp)).mono (by rintro _ ⟨_,rfl,rfl⟩;rfl)
theorem e180:a8 prog 180:=a8.of func180 (by kernel_rfl) rfl
theorem uA (b:I) (parent:Int) (Z:(List Int)->Prop) (h:js b parent Z):bG prog 180 [.agg (bC false b),int parent] (.s [.c]) (fun r=>∃ y:List Int,Z y/\r = .list true (y.map av)):=by
 unfold js at h;have M:Sep bw 0 [] []:=Sep.nil (by simp);refine bG.of func180 rfl ntmps180 (by simp) fun Q hQ=>?_
 refine J.cut (fun O H n=>(O 0 = .agg (bC false b)/\O 1=int parent)/\Sep H n [] []) (by refine⟨by simp ,M⟩) ?_;rintro O H U ⟨E,M⟩;refine zE fun _ V=>?_
 simp[E];apply V;refine J.cut (fun O H n=>((O 1=int parent/\O 2=pA U 2)/\H (U,2)=some ⟨6,[bC false b]⟩)/\Sep H n [] [(U,2)]) (by refine⟨by simp[E],M.var⟩) ?_;clear E;rintro O H n3 ⟨⟨E,a⟩,M⟩;refine zE fun _ V=>?_
 simp[E,a];apply V;refine J.cut (fun O H n=>∃ (v5:au),((O 1=int parent/\O 2=pA U 2/\O 5=v5)/\H (U,2)=some ⟨6,[bC false b]⟩)/\Sep H n [oI v5 ([]:List Int)] [(U,2)]) (by refine⟨.arr (n3,7) 0 0 0,by simp[E,a],(Sep.addEmpty (l:=[.c]) M)⟩) ?_;clear E a;rintro O H n6 ⟨v5,⟨E,a⟩,M⟩;refine zS fun _ V=>?_
 simp[E,a];apply V;apply J.block;refine J.aO h (fun (sJ:Int × (List Int)) O H n=>match sJ with | (i14,g)=>∃ (i:au),((O 1=int parent/\O 2=pA U 2/\O 5=i/\O 6=int i14)/\H (U,2)=some ⟨6,[bC false b]⟩)/\Sep H n [oI i g] [(U,2)]) (by refine⟨v5,by simp[E,a],M⟩) ?_;clear E a;rintro⟨i14,g⟩ O H n17 K h ⟨i,⟨E,a⟩,M⟩ p;refine zS fun _ V=>?_
 obtain⟨ab,t,h⟩:=aK h;have f21:=fun H=>aI (H:=H) (fr:=false) (f:=av) aS t
 obtain⟨u,A,h⟩:=aK h;have f23:=aY (k:=.i64) A;simp[E,a,f21,f23,-aw,-aL];apply V;refine J.ite (b:=u) (by simp[E,a]) (fun d=>?_) (fun d=>?_)
 ·replace h:=h.1 d;apply zK;apply J.block;refine zE fun _ V=>?_
  obtain⟨B,h⟩:=h;obtain⟨ac,C,h⟩:=aK h;have f26:=fun H=>aP (H:=H) (fr:=false) (f:=av) (k:=.i64) aS (fun _=>rfl) B C
  obtain⟨D,F,h⟩:=aK h;have f28:=eg (k:=.i64) F;simp[E,a,f26,f28,d,-ar,-aw];apply V;refine J.ite (b:=D) (by simp[E,a,d]) (fun e=>?_) (fun e=>?_)
  ·replace h:=h.1 e;refine zF fun _ V=>?_
   obtain⟨G,h⟩:=h;obtain⟨o,L,h⟩:=aK h;simp[E,a,d,e,-bo];refine cQ [] [] [[int i14]] [av i14] M aS (by simp) (by simp) (by simp) (by simp[-aM,bu]) (cf (bb.v _ bb.nil)) (by simp) (by simpa using G) ?_;rintro v31 N n33 M R ad;replace M:Sep N n33 [oI v31 o] [(U,2)]:=Sep.ap L M;have a:=(R _ (by simp)).trans a;simp[E,a,d,e];apply V;refine J.cut (fun O H n=>∃ (v37:au),((O 1=int parent/\O 2=pA U 2/\O 5=v37/\O 6=int i14)/\H (U,2)=some ⟨6,[bC false b]⟩)/\Sep H n [oI v37 o] [(U,2)]) (by refine⟨v31,by simp[E,a,d,e],M⟩) ?_;clear E a;rintro O H n38 ⟨v37,⟨E,a⟩,M⟩;refine zI fun _ V=>?_
   obtain⟨T,h⟩:=h;obtain⟨v40,W,h⟩:=aK h;have f41:=aU T W;simp[E,a,f41,-aw];apply V;refine p (v40,o) _ _ _ h (by refine⟨v37,by simp[E,a],M⟩)
  replace h:=h.2 e;apply J.skip;refine zI fun _ V=>?_
  obtain⟨X,h⟩:=h;obtain⟨q,Y,h⟩:=aK h;have f44:=aU X Y;simp[E,a,f44,d,e,-aw];apply V;refine J.cut (fun O H n=>∃ (j:au),((O 1=int parent/\O 2=pA U 2/\O 5=j/\O 6=int q)/\H (U,2)=some ⟨6,[bC false b]⟩)/\Sep H n [oI j g] [(U,2)]) (by refine⟨i,by simp[E,a,f44,d,e,-aw],M⟩) ?_;clear E a;rintro O H af ⟨j,⟨E,a⟩,M⟩;refine p (q,g) _ _ _ h (by refine⟨j,by simp[E,a],M⟩)
 replace h:=h.2 d;refine J.exit rfl ?_;refine zE fun _ V=>?_
 simp[E,a,d];apply V;exact J.bj (v:=i) func180 results180 (by simp[E,a,d]) (hQ _ _ _ _ (Sep.sub (dK:=[]) M (by simp)) ⟨g,h,rfl⟩)
theorem ql (b:I) (parent:Int) (hp:e9 b parent):bG prog 180 [.agg (bC false b),int parent] (.s [.c]) (fun r=>r = .list true ((mF b parent).map av)):=(uA b parent _ (zD b parent hp)).mono (by rintro _ ⟨_,rfl,rfl⟩;rfl)
end Go.Ab.Vg
