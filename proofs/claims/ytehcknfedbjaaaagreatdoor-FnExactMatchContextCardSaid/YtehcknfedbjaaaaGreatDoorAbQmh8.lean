/- Merged texts (8 of 18) of the proof that ends in Mhy: Mc Mk Mn Uj Uk Lm Nm Gm Gn Go Wb Wc ak. -/
import Derived.Test.YtehcknfedbjaaaaGreatDoorAbQmh7
import Derived.Laws.BytesString
set_option linter.unusedSimpArgs false
set_option linter.unusedVariables false
open Go.Proofs.Tryz
namespace Go.Ab.Vg
noncomputable abbrev ox (sig:cP) (b:aG):Bool:=fQ sig b && iA b
abbrev nQ (sig:cP) (b:aG):Prop:=cv sig b
def lZ (sig:List Control) (b:aG) (Z:Bool->Prop):Prop:=
 dI (fun (J4:Bool->Prop)=>(cv sig b)/\∀ r11:Bool,r11=fQ sig b->((r11=true->(nv b)/\∀ r13:Bool,r13=xZ b->J4 (r13))/\(r11=false->J4 (false)))) (fun b7=>Z b7)
theorem Bx (sig:cP) (b:aG) (h:nQ sig b):lZ sig b (fun y=>y=ox sig b):=by
 unfold lZ;simp only[forall_eq];refine⟨fun c=>c=ox sig b,⟨h,fun h1=>⟨(fV h1).Hg,by rw[ox,h1];rfl⟩,fun h1=>by rw[ox,h1];rfl⟩,fun c h=>h⟩
noncomputable abbrev B1 (sig:cP) (ar I:aG):Bool:=bW sig ar I
abbrev pI (sig:cP) (ar I:aG):Prop:=cv sig ar/\cv sig I
def oC (sig:List Control) (ar:aG) (I:aG) (Z:Bool->Prop):Prop:=
 dI (fun (J5:Bool->Prop)=>(nQ sig ar)/\∀ r12:Bool,r12=ox sig ar->((r12=true->(nD sig I)/\∀ r14:Bool,r14=wX sig I->J5 (r14))/\(r12=false->J5 (false)))) (fun b8=>Z b8)
theorem FI (sig:cP) (ar I:aG) (h:pI sig ar I):oC sig ar I (fun y=>y=B1 sig ar I):=by
 unfold oC;simp only[forall_eq];refine⟨fun c=>c=bW sig ar I,⟨h.1,fun h1=>⟨h.2,?_⟩,fun h1=>?_⟩,fun c h=>h⟩
 ·rw[bW,show (fQ sig ar && iA ar)=true from h1];rfl
 ·rw[bW,show (fQ sig ar && iA ar)=false from h1];rfl
def mL (ar I:aG) (nodes:List Int):Prop:=xp ar I nodes/\∀ k:Nat,k<ar.nodes.length->(at' I.nodes (at' nodes (k:Int))).control=(at' ar.nodes (k:Int)).control
open Classical in
noncomputable def ir (ar I:aG) (nodes:List Int):Bool:=decide (mL ar I nodes)
abbrev mI (ar I:aG) (nodes:List Int):Prop:=nodes.length<=1048576/\I.nodes.length<=1048576
def kD (ar:aG) (I:aG) (nodes:List Int) (Z:Bool->Prop):Prop:=
 ∀ yv:Int,yv=(nodes.length:Int)->∀ w7:Int,w7=(ar.nodes.length:Int)->∀ c9:Bool,c9=decide (yv ≠ w7)->((c9=true->Z false)/\(c9=false->aI (σ:=Int) (fun i13 K16=>∀ len17:Int,len17=(nodes.length:Int)->∀ c19:Bool,c19=decide (i13<len17)->((c19=true->dI (fun (J21:Bool->Prop)=>(0<=i13/\i13<nodes.length)/\∀ x31:Int,x31=at' nodes i13->(I.nodes.length<=1048576)/\∀ r34:Bool,r34=ez I x31->((r34=true->((0:Int)<=0/\(0:Int)<=i13/\i13<=nodes.length)/\∀ l36:List Int,l36=(nodes.take i13.toNat).drop 0->(0<=i13/\i13<nodes.length)/\∀ x39:Int,x39=at' nodes i13->(l36.length<=1048576)/\∀ r43:Bool,r43=lg l36 x31->((r43=true->J21 (true))/\(r43=false->(0<=i13/\i13<nodes.length)/\∀ x45:Int,x45=at' nodes i13->(0<=x31/\x31<I.nodes.length)/\∀ x49:ay,x49=at' I.nodes x31->(0<=i13/\i13<ar.nodes.length)/\∀ x52:ay,x52=at' ar.nodes i13->∀ c54:Bool,c54=decide (x49.control ≠ x52.control)->J21 (c54))))/\(r34=false->J21 (true)))) (fun b24=>((b24=true->Z false)/\(b24=false->(bh (i13+1))/\∀ v28:Int,v28=i13+1->K16 (v28)))))/\(c19=false->Z true))) (0)))
theorem zV (ar I:aG) (nodes:List Int) (h:mI ar I nodes):kD ar I nodes (fun y=>y=ir ar I nodes):=by
 unfold kD;obtain⟨h1,h2⟩:=h;have no:¬ mL ar I nodes->false=ir ar I nodes:=fun h=>by simp[ir,h]
 simp only[forall_eq,decide_eq_true_eq,decide_eq_false_iff_not,List.drop_zero];refine⟨fun h3=>no fun hI=>h3 (by have:=hI.1.1;omega),fun h3=>?_⟩;have hnode:∀ x,ez I x=true->0<=x/\x<I.nodes.length:=fun x hx=>by
  simp only[ez,within,Bool.and_eq_true,decide_eq_true_eq] at hx;omega
 refine aI.Bi nodes.length (fun k=>∀ i:Nat,i<k->(ez I (at' nodes (i:Int))=true/\at' nodes (i:Int) ∉ nodes.take i)/\(at' I.nodes (at' nodes (i:Int))).control=(at' ar.nodes (i:Int)).control) (fun i hi=>by omega) ?_;rintro k K hk hI IH;refine⟨fun h4=>⟨fun c=>c=true↔¬ ((ez I (at' nodes (k:Int))=true/\at' nodes (k:Int) ∉ nodes.take k)/\(at' I.nodes (at' nodes (k:Int))).control=(at' ar.nodes (k:Int)).control),⟨by omega,h2,fun h5=>⟨by omega,by omega,by simp;omega,fun h6=>?_,fun h6=>⟨by omega,hnode _ h5,by omega,?_⟩⟩,fun h5=>iff_of_true rfl (by rw[h5];simp)⟩,fun c hJ=>⟨fun h5=>no fun hP=>hJ.1 h5 ⟨hP.1.2 k (by omega),hP.2 k (by omega)⟩,fun h5=>⟨by simp only[bh];omega,IH (by omega) fun i hi=>?_⟩⟩⟩,fun h4=>?_⟩
 ·rw[Int.toNat_natCast] at h6;exact iff_of_true rfl fun h7=>h7.1.2 (fB.1 h6)
 ·rw[Int.toNat_natCast] at h6;simp only[decide_eq_true_eq];exact⟨fun h7 h8=>h7 h8.2,fun h7 h8=>h7 ⟨⟨h5,qf.1 h6⟩,h8⟩⟩
 ·rcases Nat.lt_or_ge i k with h6 | h6
  ·exact hI i h6
  ·rw[show i=k by omega];exact Classical.not_not.1 fun h=>by rw[hJ.2 h] at h5;cases h5
 ·have hP:mL ar I nodes:=⟨⟨by omega,fun i hi=>(hI i (by omega)).1⟩,fun i hi=>(hI i (by omega)).2⟩
  simp[ir,hP]
def lx (ar I:aG) (m:Match):Prop:=∀ k:Nat,k<ar.nodes.length->(at' I.nodes (at' m.nodes (k:Int))).parent=dC ar m (k:Int)
open Classical in
noncomputable def fS (ar I:aG) (m:Match):Bool:=decide (lx ar I m)
abbrev gX (ar I:aG) (m:Match):Prop:=(∃ sig,rG sig ar I)/\qE I m.nodes ar.nodes.length/\(m.roots.length:Int)=ar.roots
def iY (ar:aG) (I:aG) (m:Match) (Z:Bool->Prop):Prop:=
 aI (σ:=Int) (fun i8 K11=>∀ ej:Int,ej=(m.nodes.length:Int)->∀ c14:Bool,c14=decide (i8<ej)->((c14=true->(0<=i8/\i8<ar.nodes.length)/\∀ x17:ay,x17=at' ar.nodes i8->∀ c19:Bool,c19=decide (0<=x17.parent)->((c19=true->(0<=x17.parent/\x17.parent<m.nodes.length)/\∀ x23:Int,x23=at' m.nodes x17.parent->(0<=i8/\i8<m.nodes.length)/\∀ x26:Int,x26=at' m.nodes i8->(0<=x26/\x26<I.nodes.length)/\∀ x29:ay,x29=at' I.nodes x26->∀ c31:Bool,c31=decide (x29.parent ≠ x23)->((c31=true->Z false)/\(c31=false->(bh (i8+1))/\∀ v35:Int,v35=i8+1->K11 (v35))))/\(c19=false->(bh ((-1) - x17.parent))/\∀ v38:Int,v38=(-1) - x17.parent->(0<=v38/\v38<m.roots.length)/\∀ x41:Int,x41=at' m.roots v38->(0<=i8/\i8<m.nodes.length)/\∀ x44:Int,x44=at' m.nodes i8->(0<=x44/\x44<I.nodes.length)/\∀ x47:ay,x47=at' I.nodes x44->∀ c49:Bool,c49=decide (x47.parent ≠ x41)->((c49=true->Z false)/\(c49=false->(bh (i8+1))/\∀ v53:Int,v53=i8+1->K11 (v53))))))/\(c14=false->Z true))) (0)
theorem yK (ar I:aG) (m:Match) (h:gX ar I m):iY ar I m (fun y=>y=fS ar I m):=by
 unfold iY;obtain⟨⟨sig,hP⟩,⟨hlen,hin⟩,hroots⟩:=h;have no:¬ lx ar I m->false=fS ar I m:=fun h=>by simp[fS,h]
 have hr8:=hP.r.len;have hrr:=hP.r.roots;simp only[forall_eq,decide_eq_true_eq,decide_eq_false_iff_not];refine aI.Bi m.nodes.length (fun k=>∀ j:Nat,j<k->(at' I.nodes (at' m.nodes (j:Int))).parent=dC ar m (j:Int)) (fun j hj=>by omega) ?_;rintro k K hk hI IH;refine⟨fun hc=>?_,fun hc=>?_⟩
 ·have hk1:k<ar.nodes.length:=by omega
  have hpar:=hP.r.zQ (i:=k) ⟨by omega,by omega⟩;have him:=hin k (by omega);have hnext:(at' I.nodes (at' m.nodes (k:Int))).parent=dC ar m (k:Int)->∀ j:Nat,j<k+1->(at' I.nodes (at' m.nodes (j:Int))).parent=dC ar m (j:Int):=fun h j hj=>by
   rcases Nat.lt_or_ge j k with h1 | h1
   ·exact hI j h1
   ·rw[show j=k by omega];exact h
  refine⟨by omega,fun h1=>?_,fun h1=>?_⟩
  ·have hx:at' m.nodes (at' ar.nodes (k:Int)).parent=dC ar m k:=by rw[dC,if_pos h1]
   rw[hx];exact⟨by omega,by omega,him,fun h2=>no fun hA=>h2 (hA k hk1),fun h2=>⟨by simp only[bh];omega,IH (by omega) (hnext (Classical.not_not.1 h2))⟩⟩
  ·have hx:at' m.roots (-1 - (at' ar.nodes (k:Int)).parent)=dC ar m k:=by rw[dC,if_neg h1]
   rw[hx];exact⟨by simp only[bh];omega,by omega,by omega,him,fun h2=>no fun hA=>h2 (hA k hk1),fun h2=>⟨by simp only[bh];omega,IH (by omega) (hnext (Classical.not_not.1 h2))⟩⟩
 ·have hA:lx ar I m:=fun j hj=>hI j (by omega)
  simp[fS,hA]
def wI (ar I:aG) (m:Match):Prop:=∀ k:Nat,k<ar.nodes.length->(j0 ar (k:Int)).length=0->∀ c ∈ jG I (at' m.nodes (k:Int)),c ∈ m.nodes
open Classical in
noncomputable def lY (ar I:aG) (m:Match):Bool:=decide (wI ar I m)
abbrev pq (ar I:aG) (m:Match):Prop:=gX ar I m
def oH (ar:aG) (I:aG) (m:Match) (Z:Bool->Prop):Prop:=
 aI (σ:=Int) (fun i8 K11=>∀ ej:Int,ej=(m.nodes.length:Int)->∀ c14:Bool,c14=decide (i8<ej)->((c14=true->(0<=i8/\i8<m.nodes.length)/\∀ x17:Int,x17=at' m.nodes i8->(eS I x17)/\∀ r20:List Int,r20=rF I x17->aI (σ:=Int) (fun k23 K26=>dI (fun (J27:Bool->Prop)=>∀ len44:Int,len44=(r20.length:Int)->∀ c46:Bool,c46=decide (k23<len44)->((c46=true->(eV ar i8)/\∀ r49:List Int,r49=l8 ar i8->∀ len50:Int,len50=(r49.length:Int)->∀ c52:Bool,c52=decide (len50=0)->J27 (c52))/\(c46=false->J27 (false)))) (fun b30=>((b30=true->(0<=k23/\k23<r20.length)/\∀ x34:Int,x34=at' r20 k23->(m.nodes.length<=1048576)/\∀ r37:Bool,r37=lg m.nodes x34->((r37=true->(bh (k23+1))/\∀ v39:Int,v39=k23+1->K26 (v39))/\(r37=false->Z false)))/\(b30=false->(bh (i8+1))/\∀ v42:Int,v42=i8+1->K11 (v42))))) (0))/\(c14=false->Z true))) (0)
theorem EF (ar I:aG) (m:Match) (h:pq ar I m):oH ar I m (fun y=>y=lY ar I m):=by
 unfold oH;obtain⟨⟨sig,hP⟩,⟨hlen,hin⟩,hroots⟩:=h;have no:¬ wI ar I m->false=lY ar I m:=fun h=>by simp[lY,h]
 have hr8:=hP.r.len;have ha8:=hP.a.len;have hs4:=hP.r.slen;simp only[forall_eq,decide_eq_true_eq,decide_eq_false_iff_not,rF,l8];refine aI.Bi m.nodes.length (fun k=>∀ j:Nat,j<k->(j0 ar (j:Int)).length=0->∀ c ∈ jG I (at' m.nodes (j:Int)),c ∈ m.nodes) (fun j hj=>by omega) ?_;rintro k K hk hI IH;refine⟨fun hc=>?_,fun hc=>?_⟩
 ·have him:=hin k (by omega);have hkl:(jG I (at' m.nodes (k:Int))).length<=I.nodes.length:=jw _ _ _;refine⟨by omega,by simp only[eS];omega,?_⟩;refine aI.Bi (jG I (at' m.nodes (k:Int))).length (fun q=>∀ j:Nat,j<q->at' (jG I (at' m.nodes (k:Int))) (j:Int) ∈ m.nodes) (fun j hj=>by omega) ?_;rintro q K2 hq hI2 IH2;refine⟨fun c=>c=true↔(q<(jG I (at' m.nodes (k:Int))).length/\(j0 ar (k:Int)).length=0),⟨fun h1=>⟨by simp only[eV];omega,by simp only[decide_eq_true_eq];omega⟩,fun h1=>iff_of_false (by simp) (by omega)⟩,fun c hJ=>⟨fun h1=>?_,fun h1=>⟨by simp only[bh];omega,IH (by omega) fun j hj h0 c hcm=>?_⟩⟩⟩
  ·have h2:=hJ.1 h1;refine⟨by omega,by omega,fun h3=>⟨by simp only[bh];omega,IH2 h2.1 fun j hj=>?_⟩,fun h3=>no fun hA=>?_⟩
   ·rcases Nat.lt_or_ge j q with h4 | h4
    ·exact hI2 j h4
    ·rw[show j=q by omega];exact fB.1 h3
   ·exact qf.1 h3 (hA k (by omega) h2.2 _ (at_mem ⟨by omega,by omega⟩))
  ·rcases Nat.lt_or_ge j k with h2 | h2
   ·exact hI j h2 h0 c hcm
   ·rw[show j=k by omega] at h0 hcm;obtain⟨z,hz,rfl⟩:=List.getElem_of_mem hcm;have hql:¬ q<(jG I (at' m.nodes (k:Int))).length:=fun h=>by rw[hJ.2 ⟨h,h0⟩] at h1;cases h1
    have:=hI2 z (by omega)
    rwa [cK hz] at this
 ·have hA:wI ar I m:=fun j hj=>hI j (by omega)
  simp[lY,hA]
abbrev qx (b:aG) (p:Int):Bool:=within p (-b.roots) (b.nodes.length - 1)
abbrev nx (b:aG) (_:Int):Prop:=b.nodes.length<=1048576/\bh (-b.roots)
def mN (b:aG) (x:Int) (Z:Bool->Prop):Prop:=
 (bh (-b.roots))/\∀ v5:Int,v5 = -b.roots->∀ w7:Int,w7=(b.nodes.length:Int)->(bh (w7 - 1))/\∀ v10:Int,v10=w7 - 1->∀ r12:Bool,r12=within x v5 v10->Z r12
theorem Dd (b:aG) (p:Int) (h:nx b p):mN b p (fun y=>y=qx b p):=by
 unfold mN;simp only[forall_eq];exact⟨h.2,by have:=h.1;simp only[bh];omega,by trivial⟩
open Classical in
noncomputable def gk (ar I:aG) (m:Match):Bool:=decide (iX ar I m)
abbrev lR (ar I:aG) (m:Match):Prop:=pj I/\IQ m/\bh (-I.roots)
def kg (ar:aG) (I:aG) (m:Match) (Z:Bool->Prop):Prop:=
 aI (σ:=Int) (fun r8 K11=>∀ ej:Int,ej=(m.roots.length:Int)->∀ c14:Bool,c14=decide (r8<ej)->((c14=true->dI (fun (J16:Bool->Prop)=>(0<=r8/\r8<m.roots.length)/\∀ x26:Int,x26=at' m.roots r8->(nx I x26)/\∀ r29:Bool,r29=qx I x26->((r29=true->(0<=r8/\r8<m.roots.length)/\∀ x31:Int,x31=at' m.roots r8->(gh I m x26)/\∀ r35:Bool,r35=fE I m x26->J16 (r35))/\(r29=false->J16 (true)))) (fun b19=>((b19=true->Z false)/\(b19=false->(bh (r8+1))/\∀ v23:Int,v23=r8+1->K11 (v23)))))/\(c14=false->∀ len36:Int,len36=(m.roots.length:Int)->∀ c38:Bool,c38=decide (len36=ar.roots)->Z c38))) (0)
theorem AQ (ar I:aG) (m:Match) (h:lR ar I m):kg ar I m (fun y=>y=gk ar I m):=by
 unfold kg;obtain⟨hd,hm,hr⟩:=h;have hd1:=hd.1;have no:¬ iX ar I m->false=gk ar I m:=fun h=>by simp[gk,h]
 simp only[forall_eq,decide_eq_true_eq,decide_eq_false_iff_not];refine aI.Bi m.roots.length (fun k=>∀ i:Nat,i<k -> -I.roots<=at' m.roots (i:Int)/\at' m.roots (i:Int)<I.nodes.length/\cZ I m.nodes (at' m.roots (i:Int))=false) (fun i hi=>by omega) ?_;rintro k K hk hI IH;refine⟨fun h1=>⟨fun c=>c=true↔¬ (-I.roots<=at' m.roots (k:Int)/\at' m.roots (k:Int)<I.nodes.length/\cZ I m.nodes (at' m.roots (k:Int))=false),⟨by omega,⟨hd1,hr⟩,fun h2=>?_,fun h2=>iff_of_true rfl fun h3=>?_⟩,fun c hJ=>⟨fun h2=>no fun hR=>hJ.1 h2 (hR.2 _ (at_mem ⟨by omega,by omega⟩)),fun h2=>⟨by simp only[bh];omega,IH (by omega) fun i hi=>?_⟩⟩⟩,fun h1=>?_⟩
 ·simp only[qx,within,Bool.and_eq_true,decide_eq_true_eq] at h2;refine⟨by omega,⟨hd,by omega,hm.1⟩,?_⟩;cases hu:cZ I m.nodes (at' m.roots (k:Int)) with
  | false=>exact iff_of_false (by rw[fE,hu];simp) fun h=>h ⟨by omega,by omega,rfl⟩
  | true=>exact iff_of_true (by rw[fE,hu]) fun h=>by cases h.2.2
 ·simp only[qx,within,Bool.and_eq_false_iff,decide_eq_false_iff_not] at h2;omega
 ·rcases Nat.lt_or_ge i k with h5 | h5
  ·exact hI i h5
  ·rw[show i=k by omega];exact Classical.not_not.1 fun h=>by rw[hJ.2 h] at h2;cases h2
 ·have hA:∀ p ∈ m.roots,-I.roots<=p/\p<I.nodes.length/\cZ I m.nodes p=false:=fun p hp=>by
   obtain⟨z,hz,rfl⟩:=List.getElem_of_mem hp;have:=hI z (by omega)
   rwa [cK hz] at this
  by_cases hl:(m.roots.length:Int)=ar.roots
  ·have hR:iX ar I m:=⟨hl,hA⟩
   simp[gk,hR,hl]
  ·have hR:¬ iX ar I m:=fun h=>hl h.1
   simp[gk,hR,hl]
open Classical in
noncomputable def jl (ar I:aG) (m:Match) (l:Int):Int × Bool:=(dR ar I m.nodes l,decide (uJ ar I m.nodes l))
abbrev nM (ar I:aG) (m:Match) (l:Int):Prop:=dh ar I m.nodes/\0<=l/\l<ar.edges+ar.outer.length
def mm (ar:aG) (I:aG) (m:Match) (link:Int) (Z:(Int × Bool)->Prop):Prop:=
 (fP ar link)/\∀ r7:List (Int × Int),r7=hC ar link->((0:Int)<=0/\(0:Int)<r7.length)/\∀ x9:Int × Int,x9=at' r7 0->(0<=x9.1/\x9.1<m.nodes.length)/\∀ x13:Int,x13=at' m.nodes x9.1->(0<=x13/\x13<I.nodes.length)/\∀ x16:ay,x16=at' I.nodes x13->((0:Int)<=0/\(0:Int)<r7.length)/\∀ x19:Int × Int,x19=at' r7 0->(0<=x9.2/\x9.2<x16.links.length)/\∀ x24:Int,x24=at' x16.links x9.2->aI (σ:=Int) (fun i29 K32=>∀ len33:Int,len33=(r7.length:Int)->∀ c35:Bool,c35=decide (i29<len33)->((c35=true->(0<=i29/\i29<r7.length)/\∀ x38:Int × Int,x38=at' r7 i29->(0<=x38.1/\x38.1<m.nodes.length)/\∀ x42:Int,x42=at' m.nodes x38.1->(0<=x42/\x42<I.nodes.length)/\∀ x45:ay,x45=at' I.nodes x42->(0<=i29/\i29<r7.length)/\∀ x48:Int × Int,x48=at' r7 i29->(0<=x38.2/\x38.2<x45.links.length)/\∀ x53:Int,x53=at' x45.links x38.2->∀ c55:Bool,c55=decide (x53 ≠ x24)->((c55=true->Z (x24,false))/\(c55=false->(bh (i29+1))/\∀ v59:Int,v59=i29+1->K32 (v59))))/\(c35=false->∀ c61:Bool,c61=decide (link<ar.edges)->((c61=true->dI (fun (J63:Bool->Prop)=>∀ c69:Bool,c69=decide (x24<I.edges)->((c69=true->(fP I x24)/\∀ r72:List (Int × Int),r72=hC I x24->∀ len73:Int,len73=(r72.length:Int)->∀ len75:Int,len75=(r7.length:Int)->∀ c77:Bool,c77=decide (len73=len75)->J63 (c77))/\(c69=false->J63 (false)))) (fun b66=>Z (x24,b66)))/\(c61=false->Z (x24,true)))))) (1)
theorem rz.port {b:aG} (h:rz b) {l:Int} (h0:0<=l) (h1:l<b.edges+b.outer.length):0<(bF b l).length:=by
 have h2:=h.2.2.2 l h0 h1;have h3:b.inner=[]:=List.eq_nil_of_length_eq_zero h.1;simp only[mM,nZ,uC,h3,List.filter_nil,List.map_nil,List.length_nil,decide_true,Bool.and_true,decide_eq_false_iff_not] at h2;omega
theorem CE {I:aG} {nodes:List Int} {P:List (Int × Int)} (h:0<P.length):dM I nodes P=iJ I nodes (at' P 0):=by
 cases P with
 | nil=>simp at h
 | cons a P=>rfl
theorem BS (ar I:aG) (m:Match) (l:Int) (h:nM ar I m l):mm ar I m l (fun y=>y=jl ar I m l):=by
 unfold mm;obtain⟨hpre,hl0,hl1⟩:=h;have hpre2:=hpre;obtain⟨⟨sig,hP⟩,_⟩:=hpre2;have hne:=hP.red.port hl0 hl1;have hLr:=hP.r.qa;have hLa:=hP.a.qa;have hin:∀ k:Nat,k<(bF ar l).length->_:=fun k hk=>nc hpre (l:=l) (p:=at' (bF ar l) (k:Int)) (at_mem ⟨by omega,by omega⟩)
 have h0:=hin 0 hne;have hf:iJ I m.nodes (at' (bF ar l) 0)=dR ar I m.nodes l:=(CE hne).symm;have hpl:(bF ar l).length<=1024 * 1024:=Nat.le_trans (fW hLr.2.1 l _ (Nat.le_refl _)) (by have:=hLr.1;omega);simp only[forall_eq,decide_eq_true_eq,decide_eq_false_iff_not,hC];have hun:∀ p:Int × Int,at' (at' I.nodes (at' m.nodes p.1)).links p.2=iJ I m.nodes p:=fun p=>rfl
 simp only[hun,hf];refine⟨hLr,⟨by omega,by omega⟩,h0.1,h0.2.1,⟨by omega,by omega⟩,h0.2.2.1,?_⟩;have res:∀ b:Bool,(b=true↔uJ ar I m.nodes l)->(dR ar I m.nodes l,b)=jl ar I m l:=fun b hb=>by
  rw[jl]
  congr 1
  rw[Bool.eq_iff_iff,hb];simp
 refine aI.byM (fun i=>∃ k:Nat,i=k/\k<=(bF ar l).length/\∀ j:Nat,j<k->iJ I m.nodes (at' (bF ar l) (j:Int))=dR ar I m.nodes l) (fun i=>((bF ar l).length - i).toNat) ⟨1,rfl,by omega,fun j hj=>by rw[show j=0 by omega];exact hf⟩ ?_;rintro _ ⟨k,rfl,hk,hI⟩;refine⟨fun h1=>?_,fun h1=>?_⟩
 ·have hk1:=hin k (by omega);refine⟨by omega,hk1.1,hk1.2.1,by omega,hk1.2.2.1,fun h2=>res _ (iff_of_false (by simp) fun hL=>h2 (hL.1 _ (at_mem ⟨by omega,by omega⟩))),fun h2=>⟨by simp only[bh];omega,⟨k+1,by omega,by omega,fun j hj=>?_⟩,by omega⟩⟩;rcases Nat.lt_or_ge j k with h3 | h3
  ·exact hI j h3
  ·rw[show j=k by omega];exact Classical.not_not.1 h2
 ·have hall:∀ p ∈ bF ar l,iJ I m.nodes p=dR ar I m.nodes l:=fun p hp=>by
   obtain⟨z,hz,rfl⟩:=List.getElem_of_mem hp;have:=hI z (by omega)
   rwa [cK hz] at this
  refine⟨fun h2=>⟨fun c=>c=true↔uJ ar I m.nodes l,⟨fun h3=>⟨hLa,?_⟩,fun h3=>iff_of_false (by simp) fun hL=>h3 (hL.2 h2).1⟩,fun c hc=>res c hc⟩,fun h2=>res true (iff_of_true rfl ⟨hall,fun h=>absurd h h2⟩)⟩;simp only[decide_eq_true_eq];exact⟨fun h4=>⟨hall,fun _=>⟨h3,by omega⟩⟩,fun hL=>by have:=(hL.2 h2).2;omega⟩
noncomputable abbrev ie (ar I:aG) (m:Match):=gB ar I m.nodes
abbrev kt (ar I:aG) (m:Match):Prop:=dh ar I m.nodes
def lH (ar:aG) (I:aG) (m:Match) (Z:((List Int) × Bool)->Prop):Prop:=
 aI (σ:=Int × (List Int)) (fun (link16,l17) K21=>∀ len22:Int,len22=(ar.outer.length:Int)->(bh (ar.edges+len22))/\∀ v25:Int,v25=ar.edges+len22->∀ c27:Bool,c27=decide (link16<v25)->((c27=true->(nM ar I m link16)/\∀ r30:Int × Bool,r30=jl ar I m link16->((r30.2=true->(l17.length+1<=1073741824)/\∀ l38:List Int,l38=l17++[r30.1]->(bh (link16+1))/\∀ v48:Int,v48=link16+1->K21 (v48,l38))/\(r30.2=false->Z (([]:List Int),false))))/\(c27=false->Z (l17,true)))) (0,([]:List Int))
theorem B5 (ar I:aG) (m:Match) (h:kt ar I m):lH ar I m (fun y=>y=ie ar I m):=by
 unfold lH;have hpre:=h;obtain⟨⟨sig,hP⟩,_⟩:=h;have hE:=hP.r.edges;have hO:=hP.r.outer;simp only[forall_eq,decide_eq_true_eq,decide_eq_false_iff_not];refine aI.mS (ar.edges+ar.outer.length).toNat (fun k out=>out=(List.range k).map (fun l:Nat=>dR ar I m.nodes (l:Int))/\∀ l:Nat,l<k->uJ ar I m.nodes (l:Int)) [] ⟨rfl,fun l hl=>by omega⟩ ?_;rintro k out K hk ⟨rfl,hI⟩ IH;dsimp only;refine⟨by simp only[bh];omega,fun h1=>⟨⟨hpre,by omega,h1⟩,fun h2=>⟨by simp;omega,by simp only[bh];omega,IH (by omega) _ ⟨?_,fun l hl=>?_⟩⟩,fun h2=>?_⟩,fun h1=>?_⟩
 ·simp[List.range_succ,jl]
 ·rcases Nat.lt_or_ge l k with h3 | h3
  ·exact hI l h3
  ·rw[show l=k by omega];simpa[jl] using h2
 ·rw[ie,lf fun hL=>?_];have:=hL k (by omega) h1;simp[jl] at h2;exact h2 this
 ·rw[ie,jX fun l h2 h3=>?_,show k=(ar.edges+ar.outer.length).toNat by omega];have:=hI l.toNat (by omega)
  rwa [show ((l.toNat:Nat):Int)=l by omega] at this
noncomputable abbrev yT (ar I:aG) (m:Match):Bool:=eP ar I m
abbrev nu (ar I:aG) (m:Match):Prop:=kr ar I m
def mA (ar:aG) (I:aG) (m:Match) (Z:Bool->Prop):Prop:=
 dI (fun (J6:Bool->Prop)=>(mI ar I m.nodes)/\∀ r15:Bool,r15=ir ar I m.nodes->((r15=true->(lR ar I m)/\∀ r17:Bool,r17=gk ar I m->((r17=true->(gX ar I m)/\∀ r19:Bool,r19=fS ar I m->((r19=true->(pq ar I m)/\∀ r21:Bool,r21=lY ar I m->J6 ((!r21)))/\(r19=false->J6 (true))))/\(r17=false->J6 (true))))/\(r15=false->J6 (true)))) (fun b9=>((b9=true->Z false)/\(b9=false->(kt ar I m)/\∀ r13:(List Int) × Bool,r13=ie ar I m->Z r13.2)))
theorem C6 (ar I:aG) (m:Match) (h:nu ar I m):mA ar I m (fun y=>y=yT ar I m):=by
 unfold mA;obtain⟨⟨sig,hP⟩,hm⟩:=h;have ha8:=hP.a.len;have har:=hP.a.roots;simp only[forall_eq];have hIm:∀ b:Bool,ir ar I m.nodes=b->(b=true↔mL ar I m.nodes):=fun b hb=>by rw[<- hb];simp[ir]
 have hPl:∀ b:Bool,gk ar I m=b->(b=true↔iX ar I m):=fun b hb=>by rw[<- hb];simp[gk]
 have hPa:∀ b:Bool,fS ar I m=b->(b=true↔lx ar I m):=fun b hb=>by rw[<- hb];simp[fS]
 have hKi:∀ b:Bool,lY ar I m=b->(b=true↔wI ar I m):=fun b hb=>by rw[<- hb];simp[lY]
 have hin:mL ar I m.nodes->qE I m.nodes ar.nodes.length:=fun hI=>⟨hI.1.1,fun i hi=>by have:=(hI.1.2 i hi).1;simp only[ez,within,Bool.and_eq_true,decide_eq_true_eq] at this;omega⟩
 have spl:iD ar I m↔(mL ar I m.nodes/\iX ar I m/\lx ar I m/\wI ar I m)/\nw ar I m.nodes:=by
  constructor
  ·rintro⟨h1,h2,h3,h4⟩;exact⟨⟨⟨h1,fun k hk=>(h3 k hk).1⟩,h2,fun k hk=>(h3 k hk).2.1,fun k hk=>(h3 k hk).2.2⟩,h4⟩
  ·rintro⟨⟨h1,h2,h3,h4⟩,h5⟩;exact⟨h1.1,h2,fun k hk=>⟨h1.2 k hk,h3 k hk,h4 k hk⟩,h5⟩
 refine⟨fun c=>c=true↔¬ (mL ar I m.nodes/\iX ar I m/\lx ar I m/\wI ar I m),⟨⟨hm.1,by omega⟩,fun h1=>⟨⟨hP.a.qR,hm,by simp only[bh];omega⟩,fun h2=>?_,fun h2=>?_⟩,fun h1=>?_⟩,fun c hJ=>⟨fun h1=>(gK fun hM=>hJ.1 h1 (spl.1 hM).1).symm,fun h1=>?_⟩⟩
 ·have i1:=(hIm _ h1).1 rfl;have i2:=(hPl _ h2).1 rfl;refine⟨⟨⟨sig,hP⟩,hin i1,i2.1⟩,fun h3=>?_,fun h3=>?_⟩
  ·have i3:=(hPa _ h3).1 rfl;refine⟨⟨⟨sig,hP⟩,hin i1,i2.1⟩,?_⟩;cases h4:lY ar I m with
   | true=>exact iff_of_false (by simp) fun h=>h ⟨i1,i2,i3,(hKi _ h4).1 rfl⟩
   | false=>exact iff_of_true rfl fun h=>by have:=(hKi _ h4).2 h.2.2.2;cases this
  ·exact iff_of_true rfl fun h=>by have:=(hPa _ h3).2 h.2.2.1;cases this
 ·exact iff_of_true rfl fun h=>by have:=(hPl _ h2).2 h.2.1;cases this
 ·exact iff_of_true rfl fun h=>by have:=(hIm _ h1).2 h.1;cases this
 ·have hA:=Classical.not_not.1 fun h=>by rw[hJ.2 h] at h1;cases h1
  refine⟨⟨⟨sig,hP⟩,hin hA.1,hA.1.2⟩,?_⟩
  by_cases hL:nw ar I m.nodes
  ·rw[ie,jX hL];exact (jz.2 (spl.2 ⟨hA,hL⟩)).symm
  ·rw[ie,lf hL];exact (gK fun hM=>hL hM.2.2.2).symm
noncomputable abbrev oT (sig:cP) (ar I:aG) (m:Match):Bool:=bW sig ar I && eP ar I m
abbrev nS (sig:cP) (ar I:aG) (m:Match):Prop:=eO sig ar I m
def mP (sig:List Control) (ar:aG) (I:aG) (m:Match) (Z:Bool->Prop):Prop:=
 dI (fun (J6:Bool->Prop)=>(pI sig ar I)/\∀ r13:Bool,r13=B1 sig ar I->((r13=true->(nu ar I m)/\∀ r15:Bool,r15=yT ar I m->J6 (r15))/\(r13=false->J6 (false)))) (fun b9=>Z b9)
theorem BT (sig:cP) (ar I:aG) (m:Match) (h:nS sig ar I m):mP sig ar I m (fun y=>y=oT sig ar I m):=by
 unfold mP;simp only[forall_eq];refine⟨fun c=>c=oT sig ar I m,⟨⟨h.1,h.2.1⟩,fun h1=>⟨⟨⟨sig,fu h1⟩,h.2.2⟩,?_⟩,fun h1=>?_⟩,fun c h=>h⟩
 ·rw[oT,show bW sig ar I=true from h1];rfl
 ·rw[oT,show bW sig ar I=false from h1];rfl
end Go.Ab.Vg
namespace Go.Ab.Vg
def rootsB (ar I:aG) (nodes:List Int):List Int:=(List.range ar.roots.toNat).map fun r:Nat=>(at' I.nodes (at' nodes (at' (jG ar (-1 - (r:Int))) 0))).parent
def canB (ar I:aG) (nodes:List Int) (x:Int):Bool:=
 decide ((at' I.nodes x).control=(at' ar.nodes (nodes.length:Int)).control) && !lg nodes x && (decide ((at' ar.nodes (nodes.length:Int)).parent<0) || decide ((at' I.nodes x).parent=at' nodes (at' ar.nodes (nodes.length:Int)).parent))
noncomputable def allM (ar I:aG) (rs:List Int->List Int) (can:List Int->Int->Bool):Nat->List Int->List Match
 | 0,nodes=>if eP ar I ⟨nodes,rs nodes⟩ then [⟨nodes,rs nodes⟩] else []
 | k+1,nodes=>(List.range I.nodes.length).flatMap fun x:Nat=>if can nodes (x:Int) then allM ar I rs can k (nodes++[(x:Int)]) else []
end Go.Ab.Vg
namespace Go.Ab.Vg
abbrev ui (l:List Int):List Int:=l
abbrev mn (l:List Int):Prop:=l.length<=1048576
def oV (s:List Int) (Z:(List Int)->Prop):Prop:=
 ∀ c2:Bool,(c2=true->s=[])->((c2=true->Z [])/\(c2=false->(([]:List Int).length+s.length<=1073741824)/\∀ l7:List Int,l7=([]:List Int)++s->Z l7))
theorem D3 (l:List Int) (h:mn l):oV l (fun y=>y=ui l):=by
 unfold oV;intro c hc;refine⟨fun h1=>(hc h1).symm,fun _=>⟨by simp;omega,?_⟩⟩;rintro _ rfl;simp
noncomputable abbrev restM (ar I:aG) (nodes:List Int):List Match:=allM ar I (rootsB ar I) (canB ar I) (ar.nodes.length - nodes.length) nodes
noncomputable abbrev Gm (ar I:aG):List Match:=restM ar I []
end Go.Ab.Vg
namespace Go.Ab
theorem uH:∀ (ns:List Int) (s:Array UInt8),ns.foldl (fun r n=>r.push (UInt8.ofNat n.toNat)) (ByteArray.mk s)=ByteArray.mk (s++(ns.map fun n=>UInt8.ofNat n.toNat).toArray)
 | [],s=>by simp
 | n::ns,s=>by
  have h:(ByteArray.mk s).push (UInt8.ofNat n.toNat)=ByteArray.mk (s.push (UInt8.ofNat n.toNat)):=rfl;rw[List.foldl_cons,h,uH ns]
  congr 1
  simp
theorem qL {P:Program} {N:Nat} {Ty:Types} (hT:bg P Ty) {O:Env} {H:ax} {n:Nat} {d:Option Tmp} {ty:TypeId} {pos:String} {af:Array Edge} {gu:Option (Nat × Bool)} {s t:TypeId} {x:Operand} {j:TI} {els:List (List au)} {ns:List Int}
  (hs:kd Ty s = .slice j) (hj:j.desc = .int .u8) (ht:kd Ty t = .string) (hx:cb H (O.ev x)=some els) (hn:els=ns.map fun n=>[.v (.int .u8 n)]) :
  aW P N ⟨d,.convert s t x,ty,pos,af,gu⟩ O H n fun v1 H1 U=>v1=str (ns.map fun n=>UInt8.ofNat n.toNat)/\H1=H/\U=n:=by
 refine aW.ft fun c a hH hn' g r=>?_
 subst hH hn';obtain⟨i1,e,hi1,hd1,he⟩:=dL hs;obtain⟨i2,hi2,hd2⟩:=jq ht;have d1:=(hT s i1 hi1).1;rw[hd1] at d1;have d2:=(hT t i2 hi2).1;rw[hd2] at d2;have d3:=(hT e j he).1;rw[hj] at d3;have hsrc:=nL (sz:=1) g (r.ev x) hx (by subst hn;simp);refine⟨_,.string ⟨(ns.map fun n=>UInt8.ofNat n.toNat).toArray⟩,c,?_,⟨rfl,rfl,rfl⟩,.v _,g,bG.refl c⟩;rcases hsrc with ⟨h1,h2⟩ | ⟨ad,cap,news,h1,h2,h3,h4⟩
 ·have h0:ns=[]:=by rw[h2] at hn;simpa using hn.symm
  subst h0;have:=run_convert_bytes_string (P:=P) c.w s t e none 0 0 d1 d3 d2;simp[execOp,h1,this,Conv.bytesToString,Sem.run_pure]
  rfl
 ·have hnews:news=ns.map (Value.int .u8):=by
   apply List.ext_getElem?;intro q;rcases Nat.lt_or_ge q ns.length with hq | hq
   ·have hel:els[q]?=some [.v (.int .u8 ns[q])]:=by rw[hn];simp[hq]
    obtain⟨_,h5⟩:=h4 q _ hel;obtain⟨u,hu,hr⟩:=h5 0 _ rfl;simp only[Nat.mul_one,Nat.add_zero] at hu;rw[hu,hr.cd];simp[hq]
   ·rw[List.getElem?_eq_none (by rw[h2,hn];simpa using hq),List.getElem?_eq_none (by simpa using hq)]
  have hl:=run_loadCells_list (P:=P) c.w ad news h3;have hlen:news.length=els.length:=by rw[h2,Nat.mul_one]
  rw[hlen,hnews] at hl;have h5:=run_bytesToString c.w ad els.length cap ns hl;have h6:=run_convert_bytes_string (P:=P) c.w s t e (some ad) els.length cap d1 d3 d2;have h7:=uH ns #[];have h8:(ByteArray.empty:ByteArray)=ByteArray.mk #[]:=rfl;simp[execOp,h1,h6,h5,h8,h7]
end Go.Ab
namespace Go.Ab
open Go.Proofs
def Ez (k:Nat) (out:a6):a6:=if k=0 then out else Ez (k / 10) (UInt8.ofNat (48+k % 10)::out)
 termination_by k
 decreasing_by omega
def oM (k:Nat):a6:=if k=0 then [109,48] else 109::Ez k []
theorem wrap_u8 {a:Int} (h:0<=a) (h2:a<256):IntKind.u8.wrap a=a:=by
 unfold IntKind.wrap;simp[IntKind.min,IntKind.max,IntKind.bits,IntKind.signed];omega
theorem e53:a8 prog 53:=a8.of func53 (by kernel_rfl) rfl
set_option maxRecDepth 20000 in
theorem zL (k:Nat) (hk:k<=1152921504606846976):aF prog 53 [int k] (fun r=>r=str (oM k)):=by
 refine aF.of func53 rfl ntmps53 (by simp) fun Q hQ=>?_
 refine zE fun _ V=>?_
 simp;apply V;refine zS fun _ V=>?_
 simp;apply V;refine J.ite rfl (fun hc1 => ?_) (fun hc1 => ?_)
 ·simp at hc1;refine zE fun _ V=>?_
  simp;apply V;refine J.ret func53 (aU.one results53) (hQ _ _ _ _ (.v _ _ _) ?_);simp[oM,hc1]
 ·simp at hc1;apply J.skip;refine zE fun _ V=>?_
  simp;apply V;apply J.seq;refine J.block (J.GY (fun m O H n=>O 0=int m/\∃ out:a6,O 3=str out/\out.length+m<=k/\Ez m out=Ez k []) k ?_ ?_)
  ·simp
  ·rintro m O H n ⟨h0,out,h3,hlen,hd⟩ IH;refine zS fun _ V=>?_
   simp [h0];apply V;refine J.ite rfl (fun hc2 => ?_) (fun hc2 => ?_)
   ·simp at hc2;apply J.skip;apply J.block;refine zE fun _ V=>?_
    obtain⟨g,hg⟩:∃ g:Nat,g=48+m % 10:=⟨_,rfl⟩
    obtain⟨q,hq'⟩:∃ q:Nat,q=m / 10:=⟨_,rfl⟩
    have hq:((m:Int).tdiv 10)=(q:Int):=by rw[Int.tdiv_eq_ediv_of_nonneg (by omega)];omega
    have hw:IntKind.i64.wrap (48+((m:Int).tmod 10))=(g:Int):=by
     rw[Int.tmod_eq_emod_of_nonneg (by omega),wrap64]<;>omega
    have hw2:IntKind.i64.wrap (q:Int)=(q:Int):=by rw[wrap64]<;>omega
    have hw3:IntKind.u8.wrap (g:Int)=(g:Int):=wrap_u8 (by omega) (by omega);simp [h0, h3, hw, hw3];refine bX.op aB (by decide) (by decide) rfl (qL (ns:=[(g:Int)]) (els:=[[.v (.int .u8 g)]]) aB HM (by kernel_rfl) HX (by simp[cb]) rfl) ?_;rintro v H' n' ⟨rfl,rfl,rfl⟩;simp[h3,show 1+out.length<4611686018427387904 by omega];apply V;refine zF fun _ V=>?_
    simp [h0, hq, hw2];apply V;apply J.inBlock;refine IH q _ _ _ (by omega) ⟨by simp,UInt8.ofNat g::out,by simp,by simp;omega,?_⟩;rw[<- hd,hg,hq']
    conv=>rhs;rw[Ez,if_neg (by omega)]
   ·simp at hc2;subst hc2;rw[Ez,if_pos rfl] at hd;refine J.exit rfl ?_;refine zE fun _ V=>?_
    simp [h3, show 1 + out.length < 4611686018427387904 by omega];apply V;refine J.ret func53 (aU.one results53) (hQ _ _ _ _ (.v _ _ _) ?_);simp[oM,hc1,hd,show ¬ k=0 by omega]
end Go.Ab
namespace Go.Ab.Vg
theorem Fg {α:Type} [Inhabited α] {a:List α} {k:Nat} (hk:k<a.length):(a.take k++List.replicate (a.length - k) default).set k a[k]=a.take (k+1)++List.replicate (a.length - (k+1)) default:=by
 rw[List.set_append_right _ _ (by simp;omega)];rw[List.take_succ_eq_append_getElem hk,List.append_assoc]
 congr 1
 have h1:a.length - k=(a.length - (k+1))+1:=by omega
 have h2:k - (a.take k).length=0:=by simp;omega
 rw[h1,h2,List.replicate_succ]
 rfl
abbrev filled {α:Type} [Inhabited α] (a:List α) (k:Nat):List α:=a.take k++List.replicate (a.length - k) default
theorem jQ {α:Type} [Inhabited α] {a:List α} {k:Nat} (hk:k<=a.length):(filled a k).length=a.length:=by simp[filled];omega
theorem jY {α:Type} [Inhabited α] {a:List α} {k:Nat} (hk:k<a.length):(filled a k).set k (at' a (k:Int))=filled a (k+1):=by rw[cK hk];exact Fg hk
theorem jT {α:Type} [Inhabited α] (a:List α):filled a a.length=a:=by simp[filled]
theorem iw {α:Type} [Inhabited α] (a:List α):filled a 0=List.replicate a.length default:=by simp[filled]
abbrev rH (a:List Int):=a
abbrev fN (a:List Int):Prop:=a.length<=1048576
def oz (a:List Int) (Z:(List Int)->Prop):Prop:=
 ∀ cJ:Int,cJ=(a.length:Int)->(0<=cJ/\cJ<=1073741824)/\∀ l5:List Int,l5=List.replicate cJ.toNat default->aI (σ:=Int × (List Int)) (fun (i16,l17) K21=>∀ len22:Int,len22=(a.length:Int)->∀ c24:Bool,c24=decide (i16<len22)->((c24=true->(0<=i16/\i16<a.length)/\∀ x27:Int,x27=at' a i16->(0<=i16/\i16<l17.length)/\∀ x34:Int,x34=at' l17 i16->∀ l37:List Int,l37=l17.set i16.toNat x27->(bh (i16+1))/\∀ v44:Int,v44=i16+1->K21 (v44,l37))/\(c24=false->Z l17))) (0,l5)
theorem Fi (a:List Int) (h:fN a):oz a (fun y=>y=rH a):=by
 unfold oz;simp only[fN] at h;simp only[forall_eq,Int.toNat_natCast];refine⟨by omega,aI.mS a.length (fun k out=>out=filled a k) _ (iw a).symm ?_⟩;rintro k out K hk rfl IH;have hl:=jQ hk;simp only[decide_eq_true_eq,decide_eq_false_iff_not,bh,Int.toNat_natCast];refine⟨fun h1=>⟨by omega,by omega,by omega,IH (by omega) _ (jY (by omega))⟩,fun h1=>?_⟩;rw[show k=a.length by omega];exact jT a
abbrev rO (a:List a6):=a
abbrev gY (a:List a6):Prop:=a.length<=1048576
def iU (a:List a6) (Z:(List a6)->Prop):Prop:=
 ∀ cJ:Int,cJ=(a.length:Int)->(0<=cJ/\cJ<=1073741824)/\∀ l5:List a6,l5=List.replicate cJ.toNat default->aI (σ:=Int × (List a6)) (fun (i16,l17) K21=>∀ len22:Int,len22=(a.length:Int)->∀ c24:Bool,c24=decide (i16<len22)->((c24=true->(0<=i16/\i16<a.length)/\∀ x27:a6,x27=at' a i16->(0<=i16/\i16<l17.length)/\∀ x34:a6,x34=at' l17 i16->∀ l37:List a6,l37=l17.set i16.toNat x27->(bh (i16+1))/\∀ v44:Int,v44=i16+1->K21 (v44,l37))/\(c24=false->Z l17))) (0,l5)
theorem xS (a:List a6) (h:gY a):iU a (fun y=>y=rO a):=by
 unfold iU;simp only[gY] at h;simp only[forall_eq,Int.toNat_natCast];refine⟨by omega,aI.mS a.length (fun k out=>out=filled a k) _ (iw a).symm ?_⟩;rintro k out K hk rfl IH;have hl:=jQ hk;simp only[decide_eq_true_eq,decide_eq_false_iff_not,bh,Int.toNat_natCast];refine⟨fun h1=>⟨by omega,by omega,by omega,IH (by omega) _ (jY (by omega))⟩,fun h1=>?_⟩;rw[show k=a.length by omega];exact jT a
abbrev k7 (a:Control):=a
def mj (a:Control) (Z:Control->Prop):Prop:=
 Z a
theorem xw (a:Control):mj a (fun y=>y=k7 a):=rfl
abbrev fO (a:List Control):=a
abbrev dJ (a:List Control):Prop:=a.length<=1048576
def ig (a:List Control) (Z:(List Control)->Prop):Prop:=
 ∀ cJ:Int,cJ=(a.length:Int)->(0<=cJ/\cJ<=1073741824)/\∀ l5:List Control,l5=List.replicate cJ.toNat default->aI (σ:=Int × (List Control)) (fun (i16,l17) K21=>∀ len22:Int,len22=(a.length:Int)->∀ c24:Bool,c24=decide (i16<len22)->((c24=true->(0<=i16/\i16<a.length)/\∀ x27:Control,x27=at' a i16->∀ r29:Control,r29=k7 x27->(0<=i16/\i16<l17.length)/\∀ x35:Control,x35=at' l17 i16->∀ l38:List Control,l38=l17.set i16.toNat r29->(bh (i16+1))/\∀ v45:Int,v45=i16+1->K21 (v45,l38))/\(c24=false->Z l17))) (0,l5)
theorem vZ (a:List Control) (h:dJ a):ig a (fun y=>y=fO a):=by
 unfold ig;simp only[dJ] at h;simp only[forall_eq,Int.toNat_natCast];refine⟨by omega,aI.mS a.length (fun k out=>out=filled a k) _ (iw a).symm ?_⟩;rintro k out K hk rfl IH;have hl:=jQ hk;simp only[decide_eq_true_eq,decide_eq_false_iff_not,bh,Int.toNat_natCast];refine⟨fun h1=>⟨by omega,by omega,by omega,IH (by omega) _ (jY (by omega))⟩,fun h1=>?_⟩;rw[show k=a.length by omega];exact jT a
abbrev yP (a:aD):=a
def rh (a:aD) (Z:aD->Prop):Prop:=
 Z a
theorem Ej (a:aD):rh a (fun y=>y=yP a):=rfl
abbrev xK (a:List aD):=a
abbrev kE (a:List aD):Prop:=a.length<=1048576
def mi (a:List aD) (Z:(List aD)->Prop):Prop:=
 ∀ cJ:Int,cJ=(a.length:Int)->(0<=cJ/\cJ<=1073741824)/\∀ l5:List aD,l5=List.replicate cJ.toNat default->aI (σ:=Int × (List aD)) (fun (i16,l17) K21=>∀ len22:Int,len22=(a.length:Int)->∀ c24:Bool,c24=decide (i16<len22)->((c24=true->(0<=i16/\i16<a.length)/\∀ x27:aD,x27=at' a i16->∀ r29:aD,r29=yP x27->(0<=i16/\i16<l17.length)/\∀ x35:aD,x35=at' l17 i16->∀ l38:List aD,l38=l17.set i16.toNat r29->(bh (i16+1))/\∀ v45:Int,v45=i16+1->K21 (v45,l38))/\(c24=false->Z l17))) (0,l5)
theorem CM (a:List aD) (h:kE a):mi a (fun y=>y=xK a):=by
 unfold mi;simp only[kE] at h;simp only[forall_eq,Int.toNat_natCast];refine⟨by omega,aI.mS a.length (fun k out=>out=filled a k) _ (iw a).symm ?_⟩;rintro k out K hk rfl IH;have hl:=jQ hk;simp only[decide_eq_true_eq,decide_eq_false_iff_not,bh,Int.toNat_natCast];refine⟨fun h1=>⟨by omega,by omega,by omega,IH (by omega) _ (jY (by omega))⟩,fun h1=>?_⟩;rw[show k=a.length by omega];exact jT a
abbrev uE (a:ay):=a
abbrev p0 (a:ay):Prop:=a.links.length<=1048576
def oQ (a:ay) (Z:ay->Prop):Prop:=
 (fN a.links)/\∀ r10:List Int,r10=rH a.links->Z (ay.mk a.control a.parent r10)
theorem Ef (a:ay) (h:p0 a):oQ a (fun y=>y=uE a):=by
 unfold oQ;exact⟨h,by rintro _ rfl;rfl⟩
abbrev ym (a:List ay):=a
abbrev nX (a:List ay):Prop:=a.length<=1048576/\∀ x ∈ a,x.links.length<=1048576
def mo (a:List ay) (Z:(List ay)->Prop):Prop:=
 ∀ cJ:Int,cJ=(a.length:Int)->(0<=cJ/\cJ<=1073741824)/\∀ l5:List ay,l5=List.replicate cJ.toNat default->aI (σ:=Int × (List ay)) (fun (i16,l17) K21=>∀ len22:Int,len22=(a.length:Int)->∀ c24:Bool,c24=decide (i16<len22)->((c24=true->(0<=i16/\i16<a.length)/\∀ x27:ay,x27=at' a i16->(p0 x27)/\∀ r30:ay,r30=uE x27->(0<=i16/\i16<l17.length)/\∀ x44:ay,x44=at' l17 i16->∀ l63:List ay,l63=l17.set i16.toNat r30->(bh (i16+1))/\∀ v70:Int,v70=i16+1->K21 (v70,l63))/\(c24=false->Z l17))) (0,l5)
theorem Cj (a:List ay) (h:nX a):mo a (fun y=>y=ym a):=by
 unfold mo;obtain⟨h,h'⟩:=h;simp only[forall_eq,Int.toNat_natCast];refine⟨by omega,aI.mS a.length (fun k out=>out=filled a k) _ (iw a).symm ?_⟩;rintro k out K hk rfl IH;have hl:=jQ hk;simp only[decide_eq_true_eq,decide_eq_false_iff_not,bh,Int.toNat_natCast];refine⟨fun h1=>⟨by omega,?_,by omega,by omega,IH (by omega) _ (jY (by omega))⟩,fun h1=>?_⟩
 ·rw[cK (show k<a.length by omega)];exact h' _ (List.getElem_mem _)
 ·rw[show k=a.length by omega];exact jT a
abbrev cT (a:aG):=a
abbrev cF (a:aG):Prop:=(a.nodes.length<=1048576/\∀ x ∈ a.nodes,x.links.length<=1048576)/\a.sites.length<=1048576/\a.outer.length<=1048576/\a.inner.length<=1048576
def iQ (a:aG) (Z:aG->Prop):Prop:=
 (nX a.nodes)/\∀ r9:List ay,r9=ym a.nodes->(fN a.sites)/\∀ r21:List Int,r21=rH a.sites->(gY a.outer)/\∀ r37:List a6,r37=rO a.outer->(kE a.inner)/\∀ r51:List aD,r51=xK a.inner->Z (aG.mk a.roots r9 r21 a.edges r37 r51)
theorem w4 (a:aG) (h:cF a):iQ a (fun y=>y=cT a):=by
 unfold iQ;simp only[forall_eq];exact⟨h.1,h.2.1,h.2.2.1,h.2.2.2,trivial⟩
def dX {α:Type} (g:α->Int->α) (c:Int) (l:List α) (k:Int) (i:Nat):List α:=l.mapIdx fun j x=>if j<i then g x (k+c * j) else x
def eC {α:Type} (g:α->Int->α) (c:Int) (l:List α) (k:Int):List α × Int:=(dX g c l k l.length,k+c * l.length)
section
variable {α:Type} (g:α->Int->α) (c:Int) (l:List α) (k:Int)
theorem jj:dX g c l k 0=l:=by
 apply List.ext_getElem
 ·simp[dX]
 ·intro j h1 h2;simp[dX]
theorem dB (i:Nat):(dX g c l k i).length=l.length:=by simp[dX]
theorem kc {i:Nat} (hi:i<l.length):(dX g c l k i).set i (g l[i] (k+c * i))=dX g c l k (i+1):=by
 apply List.ext_getElem
 ·simp[dX]
 ·intro j h1 h2;simp only[List.getElem_set,dX,List.getElem_mapIdx]
  by_cases hj:i=j
  ·subst hj;simp
  ·rw[if_neg hj]
   by_cases h3:j<i
   ·rw[if_pos h3,if_pos (by omega)]
   ·rw[if_neg h3,if_neg (by omega)]
end
def df (k:Int):a6:=oM k.toNat
abbrev dj (k:Int):Prop:=0<=k/\k<=1152921504606846976
abbrev pP (c n k:Int):Prop:=0<=k/\n<=1048576/\k+c * n<=1152921504606846976
abbrev br (l:List Int) (k:Int):=eC (fun _ k=>k) 1 l k
abbrev fb (l:List Int) (k:Int):Prop:=pP 1 l.length k
def kA (a:List Int) (k_:Int) (Z:((List Int) × Int)->Prop):Prop:=
 aI (σ:=Int × Int × (List Int)) (fun (k10,i11,l12) K15=>∀ len16:Int,len16=(l12.length:Int)->∀ c18:Bool,c18=decide (i11<len16)->((c18=true->(0<=i11/\i11<l12.length)/\∀ x25:Int,x25=at' l12 i11->∀ l28:List Int,l28=l12.set i11.toNat k10->(bh (k10+1))/\∀ v34:Int,v34=k10+1->(bh (i11+1))/\∀ v37:Int,v37=i11+1->K15 (v34,v37,l28))/\(c18=false->Z (l12,k10)))) (k_,0,a)
theorem AL (l:List Int) (k:Int) (h:fb l k):kA l k (fun y=>y=br l k):=by
 unfold kA;obtain⟨h1,h2,h3⟩:=h;refine aI.up l.length (fun s=>s.2.1) (fun i t=>(k+1 * i,(i:Int),t)) (fun _ _=>rfl) (fun i out=>out=dX (fun _ k=>k) 1 l k i) l (by simp) (jj _ _ _ _).symm ?_;rintro i out K hk rfl IH;have hl:=dB (fun _ k=>k) 1 l k i;simp only[forall_eq,decide_eq_true_eq,decide_eq_false_iff_not,bh,Int.toNat_natCast];refine⟨fun h4=>⟨by omega,by omega,by omega,?_⟩,fun h4=>?_⟩
 ·have hi:i<l.length:=by omega
  have:=IH hi _ rfl;rw[<- kc _ _ _ _ hi] at this;rw[show k+1 * (((i+1:Nat)):Int)=k+1 * i+1 by omega] at this;simpa using this
 ·rw[show i=l.length by omega]
  rfl
abbrev ch (l:List a6) (k:Int):=eC (fun _ k=>df k) 1 l k
abbrev iB (l:List a6) (k:Int):Prop:=pP 1 l.length k
def gx (a:List a6) (k_:Int) (Z:((List a6) × Int)->Prop):Prop:=
 aI (σ:=Int × Int × (List a6)) (fun (k10,i11,l12) K15=>∀ len16:Int,len16=(l12.length:Int)->∀ c18:Bool,c18=decide (i11<len16)->((c18=true->(dj k10)/\∀ r21:a6,r21=df k10->(0<=i11/\i11<l12.length)/\∀ x27:a6,x27=at' l12 i11->∀ l30:List a6,l30=l12.set i11.toNat r21->(bh (k10+1))/\∀ v36:Int,v36=k10+1->(bh (i11+1))/\∀ v39:Int,v39=i11+1->K15 (v36,v39,l30))/\(c18=false->Z (l12,k10)))) (k_,0,a)
theorem tv (l:List a6) (k:Int) (h:iB l k):gx l k (fun y=>y=ch l k):=by
 unfold gx;obtain⟨h1,h2,h3⟩:=h;refine aI.up l.length (fun s=>s.2.1) (fun i t=>(k+1 * i,(i:Int),t)) (fun _ _=>rfl) (fun i out=>out=dX (fun _ k=>df k) 1 l k i) l (by simp) (jj _ _ _ _).symm ?_;rintro i out K hk rfl IH;have hl:=dB (fun _ k=>df k) 1 l k i;simp only[forall_eq,decide_eq_true_eq,decide_eq_false_iff_not,bh,Int.toNat_natCast];refine⟨fun h4=>⟨by simp only[dj];omega,by omega,by omega,by omega,?_⟩,fun h4=>?_⟩
 ·have hi:i<l.length:=by omega
  have:=IH hi _ rfl;rw[<- kc _ _ _ _ hi] at this;rw[show k+1 * (((i+1:Nat)):Int)=k+1 * i+1 by omega] at this;simpa using this
 ·rw[show i=l.length by omega]
  rfl
theorem xN {α:Type} [Inhabited α] {l:List α} {i:Nat} {x:α} (hi:i<l.length):at' (l.set i x) (i:Int)=x:=by
 rw[cK (by simpa using hi)];simp
abbrev dZ (l:List aD) (k:Int):=eC (fun _ k=>(⟨df k,k+1⟩:aD)) 2 l k
abbrev kN (l:List aD) (k:Int):Prop:=pP 2 l.length k
def jc (a:List aD) (k_:Int) (Z:((List aD) × Int)->Prop):Prop:=
 aI (σ:=Int × Int × (List aD)) (fun (k10,i11,l12) K15=>∀ len16:Int,len16=(l12.length:Int)->∀ c18:Bool,c18=decide (i11<len16)->((c18=true->(dj k10)/\∀ r21:a6,r21=df k10->(0<=i11/\i11<l12.length)/\∀ x27:aD,x27=at' l12 i11->∀ l30:List aD,l30=l12.set i11.toNat (aD.mk r21 x27.link)->(bh (k10+1))/\∀ v36:Int,v36=k10+1->(0<=i11/\i11<l30.length)/\∀ x44:aD,x44=at' l30 i11->∀ l47:List aD,l47=l30.set i11.toNat (aD.mk x44.name v36)->(bh (v36+1))/\∀ v53:Int,v53=v36+1->(bh (i11+1))/\∀ v56:Int,v56=i11+1->K15 (v53,v56,l47))/\(c18=false->Z (l12,k10)))) (k_,0,a)
theorem xT (l:List aD) (k:Int) (h:kN l k):jc l k (fun y=>y=dZ l k):=by
 unfold jc;obtain⟨h1,h2,h3⟩:=h;refine aI.up l.length (fun s=>s.2.1) (fun i t=>(k+2 * i,(i:Int),t)) (fun _ _=>rfl) (fun i out=>out=dX (fun _ k=>(⟨df k,k+1⟩:aD)) 2 l k i) l (by simp) (jj _ _ _ _).symm ?_;rintro i out K hk rfl IH;have hl:=dB (fun _ k=>(⟨df k,k+1⟩:aD)) 2 l k i;simp only[forall_eq,decide_eq_true_eq,decide_eq_false_iff_not,bh,Int.toNat_natCast,List.length_set];refine⟨fun h4=>⟨by simp only[dj];omega,by omega,by omega,by omega,by omega,by omega,?_⟩,fun h4=>?_⟩
 ·have hi:i<l.length:=by omega
  rw[xN (by rw[hl];exact hi),List.set_set];have:=IH hi _ rfl;rw[<- kc _ _ _ _ hi] at this;rw[show k+2 * (((i+1:Nat)):Int)=k+2 * i+1+1 by omega] at this;simpa using this
 ·rw[show i=l.length by omega]
  rfl
abbrev du (l:List Control) (k:Int):=eC (fun _ k=>(⟨df k,k+1,k+1+1⟩:Control)) 3 l k
abbrev gR (l:List Control) (k:Int):Prop:=pP 3 l.length k
def fI (a:List Control) (k_:Int) (Z:((List Control) × Int)->Prop):Prop:=
 aI (σ:=Int × Int × (List Control)) (fun (k10,i11,l12) K15=>∀ len16:Int,len16=(l12.length:Int)->∀ c18:Bool,c18=decide (i11<len16)->((c18=true->(dj k10)/\∀ r21:a6,r21=df k10->(0<=i11/\i11<l12.length)/\∀ x27:Control,x27=at' l12 i11->∀ l30:List Control,l30=l12.set i11.toNat (Control.mk r21 x27.ports x27.kind)->(bh (k10+1))/\∀ v36:Int,v36=k10+1->(0<=i11/\i11<l30.length)/\∀ x44:Control,x44=at' l30 i11->∀ l47:List Control,l47=l30.set i11.toNat (Control.mk x44.name v36 x44.kind)->(bh (v36+1))/\∀ v53:Int,v53=v36+1->(0<=i11/\i11<l47.length)/\∀ x61:Control,x61=at' l47 i11->∀ l64:List Control,l64=l47.set i11.toNat (Control.mk x61.name x61.ports v53)->(bh (v53+1))/\∀ v70:Int,v70=v53+1->(bh (i11+1))/\∀ v73:Int,v73=i11+1->K15 (v70,v73,l64))/\(c18=false->Z (l12,k10)))) (k_,0,a)
theorem sM (l:List Control) (k:Int) (h:gR l k):fI l k (fun y=>y=du l k):=by
 unfold fI;obtain⟨h1,h2,h3⟩:=h;refine aI.up l.length (fun s=>s.2.1) (fun i t=>(k+3 * i,(i:Int),t)) (fun _ _=>rfl) (fun i out=>out=dX (fun _ k=>(⟨df k,k+1,k+1+1⟩:Control)) 3 l k i) l (by simp) (jj _ _ _ _).symm ?_;rintro i out K hk rfl IH;have hl:=dB (fun _ k=>(⟨df k,k+1,k+1+1⟩:Control)) 3 l k i;simp only[forall_eq,decide_eq_true_eq,decide_eq_false_iff_not,bh,Int.toNat_natCast,List.length_set];refine⟨fun h4=>⟨by simp only[dj];omega,by omega,by omega,by omega,by omega,by omega,by omega,by omega,?_⟩,fun h4=>?_⟩
 ·have hi:i<l.length:=by omega
  rw[xN (by rw[hl];exact hi),List.set_set,xN (by simp only[List.length_set,hl];exact hi),List.set_set];have:=IH hi _ rfl;rw[<- kc _ _ _ _ hi] at this;rw[show k+3 * (((i+1:Nat)):Int)=k+3 * i+1+1+1 by omega] at this;simpa using this
 ·rw[show i=l.length by omega]
  rfl
def cE (l:List Int) (k:Int):Int:=if (List.range l.length).all (fun i=>decide (at' l (i:Int)=k+i)) then k+l.length else -1
abbrev jf (l:List Int) (k:Int):Prop:=pP 1 l.length k
def kf (a:List Int) (k_:Int) (Z:Int->Prop):Prop:=
 aI (σ:=Int × Int) (fun (k5,i6) K9=>∀ fX:Int,fX=(a.length:Int)->∀ c12:Bool,c12=decide (i6<fX)->((c12=true->(0<=i6/\i6<a.length)/\∀ x15:Int,x15=at' a i6->∀ c17:Bool,c17=decide (x15 ≠ k5)->((c17=true->Z (-1))/\(c17=false->(bh (k5+1))/\∀ v20:Int,v20=k5+1->(bh (i6+1))/\∀ v23:Int,v23=i6+1->K9 (v20,v23))))/\(c12=false->Z k5))) (k_,0)
theorem zN (l:List Int) (k:Int) (h:jf l k):kf l k (fun y=>y=cE l k):=by
 unfold kf;obtain⟨h1,h2,h3⟩:=h;refine aI.up (τ:=Unit) l.length (fun s=>s.2) (fun i _=>(k+i,(i:Int))) (fun _ _=>rfl) (fun i _=>∀ j<i,at' l (j:Int)=k+j) () (by simp) (by simp) ?_;rintro i _ K hk hI IH;simp only[forall_eq,decide_eq_true_eq,decide_eq_false_iff_not,bh];refine⟨fun h4=>⟨by omega,fun h5=>?_,fun h5=>⟨by omega,by omega,?_⟩⟩,fun h4=>?_⟩
 ·rw[cE,if_neg];rw[List.all_eq_true];intro h6;exact h5 (by simpa using h6 i (List.mem_range.2 (by omega)))
 ·have:=IH (by omega) () (fun j hj=>by
   rcases Nat.lt_or_ge j i with h6 | h6
   ·exact hI j h6
   ·rw[show j=i by omega];omega)
  simpa[show k+((i:Int)+1)=k+i+1 by omega] using this
 ·have hi:i=l.length:=by omega
  rw[cE,if_pos,hi];rw[List.all_eq_true];intro j hj;simpa using hI j (by have:=List.mem_range.1 hj;omega)
theorem we (l:List Int) (k:Int):cE (br l k).1 k=(br l k).2:=by
 have hl:(br l k).1.length=l.length:=by simp[br,eC,dB]
 rw[cE,if_pos,hl]
 ·simp[br,eC]
 ·rw[List.all_eq_true];intro j hj;have hj:=List.mem_range.1 hj;rw[cK hj];rw[hl] at hj;simp[br,eC,dX,hj]
end Go.Ab.Vg
namespace Go.Ab.Vg
section
variable {α:Type} (m:α->Int->α × Int)
def bO:List α->Int->List α × Int
 | [],k=>([],k)
 | x::l,k=>((m x k).1::(bO l (m x k).2).1,(bO l (m x k).2).2)
theorem nV (l1 l2:List α) (k:Int):bO m (l1++l2) k=((bO m l1 k).1++(bO m l2 (bO m l1 k).2).1,(bO m l2 (bO m l1 k).2).2):=by
 induction l1 generalizing k with
 | nil=>rfl
 | cons x l ih=>simp[bO,ih]
theorem kC (l:List α) (k:Int):(bO m l k).1.length=l.length:=by
 induction l generalizing k with
 | nil=>rfl
 | cons x l ih=>simp[bO,ih]
def gN (l:List α) (k:Int) (i:Nat):List α:=(bO m (l.take i) k).1++l.drop i
def iF (l:List α) (k:Int) (i:Nat):Int:=(bO m (l.take i) k).2
theorem zX (l:List α) (k:Int):gN m l k 0=l:=by simp[gN,bO]
theorem B8 (l:List α) (k:Int):gN m l k l.length=(bO m l k).1:=by simp[gN]
theorem tC (l:List α) (k:Int):iF m l k l.length=(bO m l k).2:=by simp[iF]
theorem uu (l:List α) (k:Int) (i:Nat):(gN m l k i).length=l.length:=by
 simp only[gN,List.length_append,kC,List.length_take,List.length_drop];omega
theorem BY [Inhabited α] {l:List α} {k:Int} {i:Nat} (hi:i<l.length):at' (gN m l k i) (i:Int)=l[i]:=by
 rw[cK (by rw[uu];exact hi)];have hl:(bO m (l.take i) k).1.length=i:=by rw[kC];simp;omega
 simp only[gN];rw[List.getElem_append_right (by omega)];simp[hl]
theorem BH {l:List α} {k:Int} {i:Nat} (hi:i<l.length):(gN m l k i).set i (m l[i] (iF m l k i)).1=gN m l k (i+1):=by
 have hl:(bO m (l.take i) k).1.length=i:=by rw[kC];simp;omega
 simp only[gN,iF];rw[List.set_append_right _ _ (by omega),hl,Nat.sub_self,List.take_succ_eq_append_getElem hi,nV,List.drop_eq_getElem_cons hi];simp only[List.set_cons_zero,bO,List.append_assoc,List.cons_append,List.nil_append]
theorem su {l:List α} {k:Int} {i:Nat} (hi:i<l.length):iF m l k (i+1)=(m l[i] (iF m l k i)).2:=by
 simp only[iF];rw[List.take_succ_eq_append_getElem hi,nV];simp[bO]
theorem nW {sz:α->Nat} (hm:∀ x k,(m x k).2=k+sz x) (l:List α) (k:Int) (i:Nat):iF m l k i=k+((l.take i).map sz).sum:=by
 have:∀ (l:List α) (k:Int),(bO m l k).2=k+(l.map sz).sum:=by
  intro l
  induction l with
  | nil=>intro k;simp[bO]
  | cons x l ih=>intro k;simp only[bO,ih,hm,List.map_cons,List.sum_cons];omega
 exact this _ _
theorem ku {f:α->Nat} (l:List α) (i:Nat):((l.take i).map f).sum<=(l.map f).sum:=by
 have:l.map f=(l.take i).map f++(l.drop i).map f:=by rw[<- List.map_append,List.take_append_drop]
 rw[this,List.sum_append];omega
end
def cC (x:ay) (k:Int):ay × Int:=(ay.mk k (k+1) (br x.links (k+2)).1,(br x.links (k+2)).2)
def bE (x:ay):Nat:=x.links.length+2
theorem fA (x:ay) (k:Int):(cC x k).2=k+bE x:=by simp[cC,bE,br,eC];omega
abbrev bU (l:List ay) (k:Int):=bO cC l k
abbrev hU (l:List ay) (k:Int):Prop:=0<=k/\l.length<=1048576/\(∀ x ∈ l,x.links.length<=1048576)/\k+(l.map bE).sum<=1152921504606846976
def iP (a:List ay) (k_:Int) (Z:((List ay) × Int)->Prop):Prop:=
 aI (σ:=Int × Int × (List ay)) (fun (k10,i11,l12) K15=>∀ len16:Int,len16=(l12.length:Int)->∀ c18:Bool,c18=decide (i11<len16)->((c18=true->(0<=i11/\i11<l12.length)/\∀ x21:ay,x21=at' l12 i11->∀ l40:List ay,l40=l12.set i11.toNat (ay.mk k10 x21.parent x21.links)->(bh (k10+1))/\∀ v46:Int,v46=k10+1->(0<=i11/\i11<l40.length)/\∀ x49:ay,x49=at' l40 i11->∀ l69:List ay,l69=l40.set i11.toNat (ay.mk x49.control v46 x49.links)->(bh (v46+1))/\∀ v75:Int,v75=v46+1->(0<=i11/\i11<l69.length)/\∀ x78:ay,x78=at' l69 i11->(fb x78.links v75)/\∀ r99:(List Int) × Int,r99=br x78.links v75->∀ l105:List ay,l105=l69.set i11.toNat (ay.mk x78.control x78.parent r99.1)->(bh (i11+1))/\∀ v109:Int,v109=i11+1->K15 (r99.2,v109,l105))/\(c18=false->Z (l12,k10)))) (k_,0,a)
theorem xJ (l:List ay) (k:Int) (h:hU l k):iP l k (fun y=>y=bU l k):=by
 unfold iP;obtain⟨h0,h1,h2,h3⟩:=h;refine aI.up l.length (fun s=>s.2.1) (fun i t=>(iF cC l k i,(i:Int),t)) (fun _ _=>rfl) (fun i out=>out=gN cC l k i) l (by simp[iF,bO]) (zX _ _ _).symm ?_;rintro i out K hk rfl IH;have hl:=uu cC l k i;have hs:=nW cC fA l k i;have hs2:=ku (f:=bE) l i;simp only[forall_eq,decide_eq_true_eq,decide_eq_false_iff_not,bh,Int.toNat_natCast,List.length_set];refine⟨fun h4=>?_,fun h4=>?_⟩
 ·have hi:i<l.length:=by omega
  have hs3:=nW cC fA l k (i+1);have hs4:=ku (f:=bE) l (i+1);have hs5:=su cC (k:=k) hi;rw[fA] at hs5;have hz:bE l[i]=l[i].links.length+2:=rfl;have hn:=h2 _ (List.getElem_mem hi);simp only[BY cC hi,List.set_set,xN (show i<(gN cC l k i).length by omega)];refine⟨by omega,by omega,by omega,by omega,by omega,⟨by omega,by omega,by omega⟩,by omega,?_⟩;have:=IH hi _ rfl;rw[<- BH _ hi,su _ hi] at this;have e2:iF cC l k i+1+1=iF cC l k i+2:=by omega
  rw[e2];simpa[cC] using this
 ·rw[show i=l.length by omega,B8,tC]
def nd {α:Type} [Inhabited α] (t:α->Int->Bool) (c:Int) (l:List α) (k:Int):Int:=if (List.range l.length).all (fun i=>t (at' l (i:Int)) (k+c * i)) then k+c * l.length else -1
theorem tt {α:Type} [Inhabited α] {t:α->Int->Bool} {g:α->Int->α} {c:Int} (ht:∀ x k,t (g x k) k=true) (l:List α) (k:Int):nd t c (eC g c l k).1 k=(eC g c l k).2:=by
 have hl:(eC g c l k).1.length=l.length:=by simp[eC,dB]
 rw[nd,if_pos,hl]
 ·simp[eC]
 ·rw[List.all_eq_true];intro j hj;have hj:=List.mem_range.1 hj;rw[cK hj];rw[hl] at hj;simp[eC,dX,hj,ht]
theorem A5 {α:Type} [Inhabited α] {t:α->Int->Bool} {c:Int} {l:List α} {k:Int} {i:Nat} (hi:i<l.length) (h:t (at' l (i:Int)) (k+c * i)=false):nd t c l k = -1:=by
 rw[nd,if_neg];rw[List.all_eq_true];intro h6;have:=h6 i (List.mem_range.2 hi);rw[h] at this;cases this
theorem wE {α:Type} [Inhabited α] {t:α->Int->Bool} {c:Int} {l:List α} {k:Int} (h:∀ i<l.length,t (at' l (i:Int)) (k+c * i)=true):nd t c l k=k+c * l.length:=by
 rw[nd,if_pos];rw[List.all_eq_true];exact fun j hj=>h j (List.mem_range.1 hj)
def dp (l:List a6) (k:Int):Int:=nd (fun x k=>decide (x=df k)) 1 l k
abbrev iz (l:List a6) (k:Int):Prop:=pP 1 l.length k
def gr (a:List a6) (k_:Int) (Z:Int->Prop):Prop:=
 aI (σ:=Int × Int) (fun (k5,i6) K9=>∀ fX:Int,fX=(a.length:Int)->∀ c12:Bool,c12=decide (i6<fX)->((c12=true->(0<=i6/\i6<a.length)/\∀ x15:a6,x15=at' a i6->(dj k5)/\∀ r18:a6,r18=df k5->∀ c19:Bool,c19=decide (x15 ≠ r18)->((c19=true->Z (-1))/\(c19=false->(bh (k5+1))/\∀ v22:Int,v22=k5+1->(bh (i6+1))/\∀ v25:Int,v25=i6+1->K9 (v22,v25))))/\(c12=false->Z k5))) (k_,0)
theorem uV (l:List a6) (k:Int) (h:iz l k):gr l k (fun y=>y=dp l k):=by
 unfold gr;obtain⟨h1,h2,h3⟩:=h;refine aI.up (τ:=Unit) l.length (fun s=>s.2) (fun i _=>(k+1 * i,(i:Int))) (fun _ _=>rfl) (fun i _=>∀ j<i,at' l (j:Int)=df (k+1 * j)) () (by simp) (by simp) ?_;rintro i _ K hk hI IH;simp only[forall_eq,decide_eq_true_eq,decide_eq_false_iff_not,bh,dj];refine⟨fun h4=>⟨by omega,by omega,fun h5=>?_,fun h5=>⟨by omega,by omega,?_⟩⟩,fun h4=>?_⟩
 ·rw[dp,A5 (i:=i) (by omega)];simpa using h5
 ·have:=IH (by omega) () (fun j hj=>by
   rcases Nat.lt_or_ge j i with h6 | h6
   ·exact hI j h6
   ·rw[show j=i by omega];simpa using h5)
  simpa[show k+((i:Int)+1)=k+i+1 by omega] using this
 ·have hi:i=l.length:=by omega
  rw[dp,wE (fun j hj=>by simpa using hI j (by omega)),hi]
def fg (l:List aD) (k:Int):Int:=nd (fun x k=>decide (x.name=df k/\x.link=k+1)) 2 l k
abbrev kY (l:List aD) (k:Int):Prop:=pP 2 l.length k
def jb (a:List aD) (k_:Int) (Z:Int->Prop):Prop:=
 aI (σ:=Int × Int) (fun (k5,i6) K9=>∀ fX:Int,fX=(a.length:Int)->∀ c12:Bool,c12=decide (i6<fX)->((c12=true->(0<=i6/\i6<a.length)/\∀ x15:aD,x15=at' a i6->(dj k5)/\∀ r18:a6,r18=df k5->∀ c19:Bool,c19=decide (x15.name ≠ r18)->((c19=true->Z (-1))/\(c19=false->(bh (k5+1))/\∀ v22:Int,v22=k5+1->(0<=i6/\i6<a.length)/\∀ x26:aD,x26=at' a i6->∀ c28:Bool,c28=decide (x26.link ≠ v22)->((c28=true->Z (-1))/\(c28=false->(bh (v22+1))/\∀ v31:Int,v31=v22+1->(bh (i6+1))/\∀ v34:Int,v34=i6+1->K9 (v31,v34))))))/\(c12=false->Z k5))) (k_,0)
theorem w0 (l:List aD) (k:Int) (h:kY l k):jb l k (fun y=>y=fg l k):=by
 unfold jb;obtain⟨h1,h2,h3⟩:=h;refine aI.up (τ:=Unit) l.length (fun s=>s.2) (fun i _=>(k+2 * i,(i:Int))) (fun _ _=>rfl) (fun i _=>∀ j<i,(at' l (j:Int)).name=df (k+2 * j)/\(at' l (j:Int)).link=k+2 * j+1) () (by simp) (by simp) ?_;rintro i _ K hk hI IH;simp only[forall_eq,decide_eq_true_eq,decide_eq_false_iff_not,bh,dj];have hno:i<l.length->¬ ((at' l (i:Int)).name=df (k+2 * i)/\(at' l (i:Int)).link=k+2 * i+1)->fg l k = -1:=fun hi h=>by
  rw[fg,A5 (i:=i) hi];simpa using h
 refine⟨fun h4=>⟨by omega,by omega,fun h5=>(hno (by omega) (fun h=>h5 h.1)).symm,fun h5=>⟨by omega,by omega,fun h6=>(hno (by omega) (fun h=>h6 h.2)).symm,fun h6=>⟨by omega,by omega,?_⟩⟩⟩,fun h4=>?_⟩
 ·have:=IH (by omega) () (fun j hj=>by
   rcases Nat.lt_or_ge j i with h7 | h7
   ·exact hI j h7
   ·rw[show j=i by omega];exact⟨by simpa using h5,by omega⟩)
  simpa[show k+2 * ((i:Int)+1)=k+2 * i+1+1 by omega] using this
 ·have hi:i=l.length:=by omega
  rw[fg,wE (fun j hj=>by simpa using hI j (by omega)),hi]
def iZ {α:Type} (h:α->Int->Int):List α->Int->Int
 | [],k=>k
 | x::l,k=>if h x k<0 then -1 else iZ h l (h x k)
theorem mg {α:Type} {h:α->Int->Int} {m:α->Int->α × Int} (hm:∀ x k,0<=k->h (m x k).1 k=(m x k).2/\0<=(m x k).2):∀ (l:List α) (k:Int),0<=k->iZ h (bO m l k).1 k=(bO m l k).2/\0<=(bO m l k).2
 | [],k,hk=>⟨rfl,hk⟩
 | x::l,k,hk=>by
  obtain⟨h1,h2⟩:=hm x k hk;simp only[bO,iZ,h1];rw[if_neg (by omega)];exact mg hm l _ h2
theorem nT (l:List Int) (k:Int):cE l k = -1\/cE l k=k+l.length:=by
 unfold cE;split
 ·exact .inr rfl
 ·exact .inl rfl
theorem zo {α:Type} [Inhabited α] (t:α->Int->Bool) (c:Int) (l:List α) (k:Int):nd t c l k = -1\/nd t c l k=k+c * l.length:=by
 unfold nd;split
 ·exact .inr rfl
 ·exact .inl rfl
def ed (x:ay) (k:Int):Int:=if x.control=k/\x.parent=k+1 then cE x.links (k+2) else -1
theorem jR (x:ay) (k:Int):ed x k = -1\/ed x k=k+bE x:=by
 unfold ed bE
 split
 ·rcases nT x.links (k+2) with h | h
  ·exact .inl h
  ·exact .inr (by rw[h];omega)
 ·exact .inl rfl
theorem pn (x:ay) (k:Int) (hk:0<=k):ed (cC x k).1 k=(cC x k).2/\0<=(cC x k).2:=by
 refine⟨?_,by rw[fA];omega⟩;simp only[ed,cC,and_self,if_true];exact we _ _
def cq (l:List ay) (k:Int):Int:=iZ ed l k
abbrev kJ (l:List ay) (k:Int):Prop:=hU l k
def iR (a:List ay) (k_:Int) (Z:Int->Prop):Prop:=
 aI (σ:=Int × Int) (fun (k5,i6) K9=>∀ fX:Int,fX=(a.length:Int)->∀ c12:Bool,c12=decide (i6<fX)->((c12=true->(0<=i6/\i6<a.length)/\∀ x15:ay,x15=at' a i6->∀ c17:Bool,c17=decide (x15.control ≠ k5)->((c17=true->Z (-1))/\(c17=false->(bh (k5+1))/\∀ v20:Int,v20=k5+1->(0<=i6/\i6<a.length)/\∀ x23:ay,x23=at' a i6->∀ c26:Bool,c26=decide (x15.parent ≠ v20)->((c26=true->Z (-1))/\(c26=false->(bh (v20+1))/\∀ v30:Int,v30=v20+1->(0<=i6/\i6<a.length)/\∀ x33:ay,x33=at' a i6->(jf x33.links v30)/\∀ r36:Int,r36=cE x33.links v30->∀ c37:Bool,c37=decide (r36<0)->((c37=true->Z (-1))/\(c37=false->(bh (i6+1))/\∀ v40:Int,v40=i6+1->K9 (r36,v40))))))))/\(c12=false->Z k5))) (k_,0)
theorem yc (l:List ay) (k:Int) (h:kJ l k):iR l k (fun y=>y=cq l k):=by
 unfold iR;obtain⟨h0,h1,h2,h3⟩:=h;refine aI.up (τ:=Unit) l.length (fun s=>s.2) (fun i _=>(k+((l.take i).map bE).sum,(i:Int))) (fun _ _=>rfl) (fun i _=>cq l k=iZ ed (l.drop i) (k+((l.take i).map bE).sum)) () (by simp) (by simp[cq]) ?_;rintro i _ K hk hI IH;have hs2:=ku (f:=bE) l i;simp only[forall_eq,decide_eq_true_eq,decide_eq_false_iff_not,bh];refine⟨fun h4=>?_,fun h4=>?_⟩
 ·have hi:i<l.length:=by omega
  have hs4:=ku (f:=bE) l (i+1);have hs5:((l.take (i+1)).map bE).sum=((l.take i).map bE).sum+bE l[i]:=by rw[List.take_succ_eq_append_getElem hi,List.map_append,List.sum_append];simp only[List.map_cons,List.map_nil,List.sum_cons,List.sum_nil,Nat.add_zero]
  have hz:bE l[i]=l[i].links.length+2:=rfl;have hn:=h2 _ (List.getElem_mem hi);rw[cK hi];rw[List.drop_eq_getElem_cons hi,iZ] at hI;have hno:ed l[i] (k+((l.take i).map bE).sum) = -1->(-1:Int)=cq l k:=fun h=>by rw[hI,h];rfl
  refine⟨by omega,fun h5=>hno (by rw[ed,if_neg (fun h=>h5 h.1)]),fun h5=>⟨by omega,by omega,fun h6=>hno (by rw[ed,if_neg (fun h=>h6 h.2)]),fun h6=>⟨by omega,by omega,⟨by omega,by omega,by omega⟩,?_⟩⟩⟩;have hq:ed l[i] (k+((l.take i).map bE).sum)=cE l[i].links (k+((l.take i).map bE).sum+1+1):=by
   rw[ed,if_pos ⟨by simpa using h5,by simpa using h6⟩]
   congr 1;omega
  refine⟨fun h7=>hno ?_,fun h7=>⟨by omega,?_⟩⟩
  ·rcases jR l[i] (k+((l.take i).map bE).sum) with h | h
   ·exact h
   ·rw[hq] at h;omega
  ·have hc:=jR l[i] (k+((l.take i).map bE).sum);rw[hq] at hc;have hv:cE l[i].links (k+((l.take i).map bE).sum+1+1)=k+((l.take (i+1)).map bE).sum:=by
    rcases hc with h | h
    ·omega
    ·rw[h,hs5];omega
   have:=IH hi () (by rw[hI,hq,hv,if_neg (by omega)]);rw[hv];simpa using this
 ·rw[hI,show i=l.length by omega,List.drop_length];simp[iZ]
def bR (b:aG) (k:Int):aG × Int:=
 let n:=bU b.nodes k
 let s:=br b.sites n.2
 let o:=ch b.outer s.2
 let i:=dZ b.inner o.2
 (aG.mk b.roots n.1 s.1 b.edges o.1 i.1,i.2)
def mQ (b:aG):Nat:=(b.nodes.map bE).sum+b.sites.length+b.outer.length+2 * b.inner.length
abbrev eW (b:aG) (k:Int):Prop:=0<=k/\b.nodes.length<=1048576/\(∀ x ∈ b.nodes,x.links.length<=1048576)/\b.sites.length<=1048576/\b.outer.length<=1048576/\b.inner.length<=1048576/\k+mQ b<=1152921504606846976
def mH (a:aG) (k_:Int) (Z:(aG × Int)->Prop):Prop:=
 (hU a.nodes k_)/\∀ r13:(List ay) × Int,r13=bU a.nodes k_->(fb a.sites r13.2)/\∀ r22:(List Int) × Int,r22=br a.sites r13.2->(iB a.outer r22.2)/\∀ r31:(List a6) × Int,r31=ch a.outer r22.2->(kN a.inner r31.2)/\∀ r40:(List aD) × Int,r40=dZ a.inner r31.2->Z ((aG.mk a.roots r13.1 r22.1 a.edges r31.1 r40.1),r40.2)
theorem ng (l:List ay) (k:Int):(bU l k).2=k+(l.map bE).sum:=by
 have:=nW cC fA l k l.length
 rwa [tC,List.take_length] at this
theorem Cn (b:aG) (k:Int) (h:eW b k):mH b k (fun y=>y=bR b k):=by
 unfold mH;obtain⟨h0,h1,h2,h3,h4,h5,h6⟩:=h;have hb:mQ b=(b.nodes.map bE).sum+b.sites.length+b.outer.length+2 * b.inner.length:=rfl;have hn:=ng b.nodes k;simp only[forall_eq];refine⟨⟨h0,h1,h2,by omega⟩,⟨by omega,by omega,by omega⟩,⟨?_,by omega,?_⟩,⟨?_,by omega,?_⟩,rfl⟩
 all_goals simp only[eC,hn];omega
def ky (b:aG) (k:Int):Int:=
 if cq b.nodes k<0 then -1 else
 if cE b.sites (cq b.nodes k)<0 then -1 else
 if dp b.outer (cE b.sites (cq b.nodes k))<0 then -1 else
 if fg b.inner (dp b.outer (cE b.sites (cq b.nodes k)))<0 then -1 else fg b.inner (dp b.outer (cE b.sites (cq b.nodes k)))
abbrev iq (b:aG) (k:Int):Prop:=eW b k
theorem sT (l:List ay) (k:Int):cq l k = -1\/cq l k=k+(l.map bE).sum:=by
 unfold cq
 induction l generalizing k with
 | nil=>exact .inr (by simp[iZ])
 | cons x l ih=>
  rw[iZ]
  split
  ·exact .inl rfl
  ·rename_i h
   rcases jR x k with h1 | h1
   ·omega
   ·rcases ih (ed x k) with h2 | h2
    ·exact .inl h2
    ·exact .inr (by rw[h2,h1];simp;omega)
def my (a:aG) (k_:Int) (Z:Int->Prop):Prop:=
 (kJ a.nodes k_)/\∀ r5:Int,r5=cq a.nodes k_->∀ c6:Bool,c6=decide (r5<0)->((c6=true->Z (-1))/\(c6=false->(jf a.sites r5)/\∀ r9:Int,r9=cE a.sites r5->∀ c10:Bool,c10=decide (r9<0)->((c10=true->Z (-1))/\(c10=false->(iz a.outer r9)/\∀ r14:Int,r14=dp a.outer r9->∀ c16:Bool,c16=decide (r14<0)->((c16=true->Z (-1))/\(c16=false->(kY a.inner r14)/\∀ r19:Int,r19=fg a.inner r14->∀ c20:Bool,c20=decide (r19<0)->((c20=true->Z (-1))/\(c20=false->Z r19))))))))
theorem C8 (b:aG) (k:Int) (h:iq b k):my b k (fun y=>y=ky b k):=by
 unfold my;obtain⟨h0,h1,h2,h3,h4,h5,h6⟩:=h;have hb:mQ b=(b.nodes.map bE).sum+b.sites.length+b.outer.length+2 * b.inner.length:=rfl;simp only[forall_eq,decide_eq_true_eq,decide_eq_false_iff_not];have c1:=sT b.nodes k;have c2:=nT b.sites (cq b.nodes k);have c3:=zo (fun x k=>decide (x=df k)) 1 b.outer (cE b.sites (cq b.nodes k))
 change dp b.outer (cE b.sites (cq b.nodes k)) = -1\/dp b.outer (cE b.sites (cq b.nodes k))=_ at c3
 unfold ky;refine⟨⟨h0,h1,h2,by omega⟩,fun q1=>by rw[if_pos q1],fun q1=>⟨⟨by omega,by omega,by omega⟩,fun q2=>by rw[if_neg q1,if_pos q2],fun q2=>⟨⟨by omega,by omega,by omega⟩,fun q3=>by rw[if_neg q1,if_neg q2,if_pos q3],fun q3=>⟨⟨by omega,by omega,by omega⟩,fun q4=>by rw[if_neg q1,if_neg q2,if_neg q3,if_pos q4],fun q4=>by rw[if_neg q1,if_neg q2,if_neg q3,if_neg q4]⟩⟩⟩⟩
theorem xC (b:aG) (k:Int) (hk:0<=k):ky (bR b k).1 k=(bR b k).2:=by
 have e1:cq (bU b.nodes k).1 k=(bU b.nodes k).2:=(mg pn b.nodes k hk).1;have p1:0<=(bU b.nodes k).2:=(mg pn b.nodes k hk).2;have e2:=we b.sites (bU b.nodes k).2;have p2:0<=(br b.sites (bU b.nodes k).2).2:=by simp only[eC];omega
 have e3:dp (ch b.outer (br b.sites (bU b.nodes k).2).2).1 (br b.sites (bU b.nodes k).2).2=(ch b.outer (br b.sites (bU b.nodes k).2).2).2:=tt (by simp) _ _;have p3:0<=(ch b.outer (br b.sites (bU b.nodes k).2).2).2:=by simp only[eC] at p2 ⊢;omega
 have e4:fg (dZ b.inner (ch b.outer (br b.sites (bU b.nodes k).2).2).2).1 (ch b.outer (br b.sites (bU b.nodes k).2).2).2=(dZ b.inner (ch b.outer (br b.sites (bU b.nodes k).2).2).2).2:=tt (by simp) _ _;have p4:0<=(dZ b.inner (ch b.outer (br b.sites (bU b.nodes k).2).2).2).2:=by simp only[eC] at p3 ⊢;omega
 simp only[bR,ky,e1,e2,e3,e4];rw[if_neg (by omega),if_neg (by omega),if_neg (by omega),if_neg (by omega)]
end Go.Ab.Vg
namespace Go.Ab
open Go.Proofs
theorem aQ.DQ {H:ax} {n:Nat} (t:Bool) (x:ay):aQ H n (.agg (x.cells t)) (.agg (x.cells false)):=aQ.yL (.agg _ (Av t x)) (by rw[te,zm])
theorem aQ.DP {H:ax} {n:Nat} (x:aD):aQ H n (.agg x.cells) (.agg x.cells):=aQ.aggF (by simp[aD.cells])
theorem aQ.Iu {H:ax} {n:Nat} (x:Control):aQ H n (.agg x.cells) (.agg x.cells):=aQ.aggF (by simp[Control.cells])
theorem e48:a8 prog 48:=a8.of func48 (by kernel_rfl) rfl
theorem oh (p q:List (Int)) (hp:p.length<=1048576):aF prog 48 [.list false (p.map aA),.list false (q.map aA)] (fun r=>r=bool (decide (p=q))):=by
 refine aF.of func48 rfl ntmps48 (by simp) fun Q hQ=>?_
 refine zE fun _ V=>?_
 simp;apply V;refine zS fun _ V=>?_
 simp;apply V;refine J.ite rfl (fun hc1=>?_) (fun hc1=>?_)
 ·simp at hc1;refine zE fun _ V=>?_
  simp;apply V;refine J.ret func48 (aU.one results48) (hQ _ _ _ _ (.v _ _ _) ?_);have:p ≠ q:=by intro h;subst h;omega
  simp[this]
 ·simp at hc1;have hlen:p.length=q.length:=by omega
  apply J.skip;refine zS fun _ V=>?_
  simp;apply V;refine J.block (J.cz p.length (fun k O H n=>O 0 = .list false (p.map aA)/\O 1 = .list false (q.map aA)/\O 5=int k/\p.take k=q.take k) ?_ ?_)
  ·simp
  ·rintro k O H n hk ⟨h0,h1,h5,heq⟩ IH;refine zS fun _ V=>?_
   simp [h0, h5];apply V;refine J.ite rfl (fun hc2=>?_) (fun hc2=>?_)
   ·simp at hc2;have hq2:k<q.length:=by omega
    apply zK;apply J.block;refine J.fC aB aP bZ (by decide) (by kernel_rfl) fun _ V=>?_
    simp [h0, h1, h5, hc2, hq2, aA];apply V;refine J.ite rfl (fun hc3=>?_) (fun hc3=>?_)
    ·simp at hc3;refine zE fun _ V=>?_
     simp;apply V;refine J.ret func48 (aU.one results48) (hQ _ _ _ _ (.v _ _ _) ?_);have:p ≠ q:=by intro h;subst h;exact hc3 rfl
     simp[this]
    ·simp at hc3;apply J.skip;refine zI fun _ V=>?_
     simp [h5, bz (show k < 4611686018427387904 by omega)];apply V;refine IH hc2 _ _ _ ?_;refine⟨by simp[h0,aA],by simp[h1,aA],by simp,?_⟩;rw[List.take_succ_eq_append_getElem hc2,List.take_succ_eq_append_getElem hq2,heq,hc3]
   ·simp at hc2;refine J.exit rfl ?_;refine zE fun _ V=>?_
    simp;apply V;refine J.ret func48 (aU.one results48) (hQ _ _ _ _ (.v _ _ _) ?_);rw[List.take_of_length_le hc2,List.take_of_length_le (by omega)] at heq;simp[heq]
theorem e51:a8 prog 51:=a8.of func51 (by kernel_rfl) rfl
theorem yp (p q:List (a6)) (hp:p.length<=1048576):aF prog 51 [.list false (p.map aT),.list false (q.map aT)] (fun r=>r=bool (decide (p=q))):=by
 refine aF.of func51 rfl ntmps51 (by simp) fun Q hQ=>?_
 refine zE fun _ V=>?_
 simp;apply V;refine zS fun _ V=>?_
 simp;apply V;refine J.ite rfl (fun hc1=>?_) (fun hc1=>?_)
 ·simp at hc1;refine zE fun _ V=>?_
  simp;apply V;refine J.ret func51 (aU.one results51) (hQ _ _ _ _ (.v _ _ _) ?_);have:p ≠ q:=by intro h;subst h;omega
  simp[this]
 ·simp at hc1;have hlen:p.length=q.length:=by omega
  apply J.skip;refine zS fun _ V=>?_
  simp;apply V;refine J.block (J.cz p.length (fun k O H n=>O 0 = .list false (p.map aT)/\O 1 = .list false (q.map aT)/\O 5=int k/\p.take k=q.take k) ?_ ?_)
  ·simp
  ·rintro k O H n hk ⟨h0,h1,h5,heq⟩ IH;refine zS fun _ V=>?_
   simp [h0, h5];apply V;refine J.ite rfl (fun hc2=>?_) (fun hc2=>?_)
   ·simp at hc2;have hq2:k<q.length:=by omega
    apply zK;apply J.block;refine J.fC aB aP bZ (by decide) (by kernel_rfl) fun _ V=>?_
    simp [h0, h1, h5, hc2, hq2, aT];apply V;refine J.ite rfl (fun hc3=>?_) (fun hc3=>?_)
    ·simp at hc3;refine zE fun _ V=>?_
     simp;apply V;refine J.ret func51 (aU.one results51) (hQ _ _ _ _ (.v _ _ _) ?_);have:p ≠ q:=by intro h;subst h;exact hc3 rfl
     simp[this]
    ·simp at hc3;apply J.skip;refine zI fun _ V=>?_
     simp [h5, bz (show k < 4611686018427387904 by omega)];apply V;refine IH hc2 _ _ _ ?_;refine⟨by simp[h0,aT],by simp[h1,aT],by simp,?_⟩;rw[List.take_succ_eq_append_getElem hc2,List.take_succ_eq_append_getElem hq2,heq,hc3]
   ·simp at hc2;refine J.exit rfl ?_;refine zE fun _ V=>?_
    simp;apply V;refine J.ret func51 (aU.one results51) (hQ _ _ _ _ (.v _ _ _) ?_);rw[List.take_of_length_le hc2,List.take_of_length_le (by omega)] at heq;simp[heq]
theorem e80:a8 prog 80:=a8.of func80 (by kernel_rfl) rfl
theorem Eh (x y:aD):aF prog 80 [.agg (aD.cells x),.agg (aD.cells y)] (fun r=>r=bool (decide (x=y))):=by
 obtain⟨x0,x1⟩:=x;obtain⟨y0,y1⟩:=y;refine aF.of func80 rfl ntmps80 (by simp) fun Q hQ=>?_
 refine zE fun _ V=>?_
 simp [aD.cells, cw, encI, encS, cI];apply V;refine zS fun _ V=>?_
 simp;apply V;refine J.ite rfl (fun hc=>?_) (fun hd0=>?_)
 ·simp at hc;refine zE fun _ V=>?_
  simp;apply V;exact J.ret func80 (aU.one results80) (hQ _ _ _ _ (.v _ _ _) (by simp[hc]))
 simp at hd0;apply J.skip;refine zS fun _ V=>?_
 simp;apply V;refine J.ite rfl (fun hc=>?_) (fun hd1=>?_)
 ·simp at hc;refine zE fun _ V=>?_
  simp;apply V;exact J.ret func80 (aU.one results80) (hQ _ _ _ _ (.v _ _ _) (by simp[hc]))
 simp at hd1;apply J.skip;refine zE fun _ V=>?_
 simp;apply V;exact J.ret func80 (aU.one results80) (hQ _ _ _ _ (.v _ _ _) (by simp[hd0,hd1]))
theorem e52:a8 prog 52:=a8.of func52 (by kernel_rfl) rfl
theorem Bl (p q:List (aD)) (hp:p.length<=1048576):aF prog 52 [.list false (p.map aD.cells),.list false (q.map aD.cells)] (fun r=>r=bool (decide (p=q))):=by
 refine aF.of func52 rfl ntmps52 (by simp) fun Q hQ=>?_
 refine zE fun _ V=>?_
 simp;apply V;refine zS fun _ V=>?_
 simp;apply V;refine J.ite rfl (fun hc1=>?_) (fun hc1=>?_)
 ·simp at hc1;refine zE fun _ V=>?_
  simp;apply V;refine J.ret func52 (aU.one results52) (hQ _ _ _ _ (.v _ _ _) ?_);have:p ≠ q:=by intro h;subst h;omega
  simp[this]
 ·simp at hc1;have hlen:p.length=q.length:=by omega
  apply J.skip;refine zS fun _ V=>?_
  simp;apply V;refine J.block (J.cz p.length (fun k O H n=>O 0 = .list false (p.map aD.cells)/\O 1 = .list false (q.map aD.cells)/\O 5=int k/\p.take k=q.take k) ?_ ?_)
  ·simp
  ·rintro k O H n hk ⟨h0,h1,h5,heq⟩ IH;refine zS fun _ V=>?_
   simp [h0, h5];apply V;refine J.ite rfl (fun hc2=>?_) (fun hc2=>?_)
   ·simp at hc2;have hq2:k<q.length:=by omega
    apply zK;apply J.block;refine J.fC aB aP bZ (by decide) (by kernel_rfl) fun _ V=>?_
    simp [h0, h1, h5, hc2, hq2, aD.cells];refine bN.dA aB aP (Eh p[k] q[k]) e80 (.cons (aQ.DP p[k]) (.cons (aQ.DP q[k]) .nil)) (by decide) rfl (by simp[aD.cells]) ?_;simp;apply V;refine J.ite rfl (fun hc3=>?_) (fun hc3=>?_)
    ·simp at hc3;refine zE fun _ V=>?_
     simp;apply V;refine J.ret func52 (aU.one results52) (hQ _ _ _ _ (.v _ _ _) ?_);have:p ≠ q:=by intro h;subst h;exact hc3 rfl
     simp[this]
    ·simp at hc3;apply J.skip;refine zI fun _ V=>?_
     simp [h5, bz (show k < 4611686018427387904 by omega)];apply V;refine IH hc2 _ _ _ ?_;refine⟨by simp[h0,aD.cells],by simp[h1,aD.cells],by simp,?_⟩;rw[List.take_succ_eq_append_getElem hc2,List.take_succ_eq_append_getElem hq2,heq,hc3]
   ·simp at hc2;refine J.exit rfl ?_;refine zE fun _ V=>?_
    simp;apply V;refine J.ret func52 (aU.one results52) (hQ _ _ _ _ (.v _ _ _) ?_);rw[List.take_of_length_le hc2,List.take_of_length_le (by omega)] at heq;simp[heq]
theorem e49:a8 prog 49:=a8.of func49 (by kernel_rfl) rfl
theorem yC (x y:Control):aF prog 49 [.agg (Control.cells x),.agg (Control.cells y)] (fun r=>r=bool (decide (x=y))):=by
 obtain⟨x0,x1,x2⟩:=x;obtain⟨y0,y1,y2⟩:=y;refine aF.of func49 rfl ntmps49 (by simp) fun Q hQ=>?_
 refine zE fun _ V=>?_
 simp [Control.cells, cw, encI, encS, cI];apply V;refine zS fun _ V=>?_
 simp;apply V;refine J.ite rfl (fun hc=>?_) (fun hd0=>?_)
 ·simp at hc;refine zE fun _ V=>?_
  simp;apply V;exact J.ret func49 (aU.one results49) (hQ _ _ _ _ (.v _ _ _) (by simp[hc]))
 simp at hd0;apply J.skip;refine zS fun _ V=>?_
 simp;apply V;refine J.ite rfl (fun hc=>?_) (fun hd1=>?_)
 ·simp at hc;refine zE fun _ V=>?_
  simp;apply V;exact J.ret func49 (aU.one results49) (hQ _ _ _ _ (.v _ _ _) (by simp[hc]))
 simp at hd1;apply J.skip;refine zS fun _ V=>?_
 simp;apply V;refine J.ite rfl (fun hc=>?_) (fun hd2=>?_)
 ·simp at hc;refine zE fun _ V=>?_
  simp;apply V;exact J.ret func49 (aU.one results49) (hQ _ _ _ _ (.v _ _ _) (by simp[hc]))
 simp at hd2;apply J.skip;refine zE fun _ V=>?_
 simp;apply V;exact J.ret func49 (aU.one results49) (hQ _ _ _ _ (.v _ _ _) (by simp[hd0,hd1,hd2]))
theorem e12:a8 prog 12:=a8.of func12 (by kernel_rfl) rfl
theorem vo (p q:List (Control)) (hp:p.length<=1048576):aF prog 12 [.list false (p.map Control.cells),.list false (q.map Control.cells)] (fun r=>r=bool (decide (p=q))):=by
 refine aF.of func12 rfl ntmps12 (by simp) fun Q hQ=>?_
 refine zE fun _ V=>?_
 simp;apply V;refine zS fun _ V=>?_
 simp;apply V;refine J.ite rfl (fun hc1=>?_) (fun hc1=>?_)
 ·simp at hc1;refine zE fun _ V=>?_
  simp;apply V;refine J.ret func12 (aU.one results12) (hQ _ _ _ _ (.v _ _ _) ?_);have:p ≠ q:=by intro h;subst h;omega
  simp[this]
 ·simp at hc1;have hlen:p.length=q.length:=by omega
  apply J.skip;refine zS fun _ V=>?_
  simp;apply V;refine J.block (J.cz p.length (fun k O H n=>O 0 = .list false (p.map Control.cells)/\O 1 = .list false (q.map Control.cells)/\O 5=int k/\p.take k=q.take k) ?_ ?_)
  ·simp
  ·rintro k O H n hk ⟨h0,h1,h5,heq⟩ IH;refine zS fun _ V=>?_
   simp [h0, h5];apply V;refine J.ite rfl (fun hc2=>?_) (fun hc2=>?_)
   ·simp at hc2;have hq2:k<q.length:=by omega
    apply zK;apply J.block;refine J.fC aB aP bZ (by decide) (by kernel_rfl) fun _ V=>?_
    simp [h0, h1, h5, hc2, hq2, Control.cells];refine bN.dA aB aP (yC p[k] q[k]) e49 (.cons (aQ.Iu p[k]) (.cons (aQ.Iu q[k]) .nil)) (by decide) rfl (by simp[Control.cells]) ?_;simp;apply V;refine J.ite rfl (fun hc3=>?_) (fun hc3=>?_)
    ·simp at hc3;refine zE fun _ V=>?_
     simp;apply V;refine J.ret func12 (aU.one results12) (hQ _ _ _ _ (.v _ _ _) ?_);have:p ≠ q:=by intro h;subst h;exact hc3 rfl
     simp[this]
    ·simp at hc3;apply J.skip;refine zI fun _ V=>?_
     simp [h5, bz (show k < 4611686018427387904 by omega)];apply V;refine IH hc2 _ _ _ ?_;refine⟨by simp[h0,Control.cells],by simp[h1,Control.cells],by simp,?_⟩;rw[List.take_succ_eq_append_getElem hc2,List.take_succ_eq_append_getElem hq2,heq,hc3]
   ·simp at hc2;refine J.exit rfl ?_;refine zE fun _ V=>?_
    simp;apply V;refine J.ret func12 (aU.one results12) (hQ _ _ _ _ (.v _ _ _) ?_);rw[List.take_of_length_le hc2,List.take_of_length_le (by omega)] at heq;simp[heq]
theorem e79:a8 prog 79:=a8.of func79 (by kernel_rfl) rfl
theorem FA (x y:ay) (hl:x.links.length<=1048576):aF prog 79 [.agg (ay.cells false x),.agg (ay.cells false y)] (fun r=>r=bool (decide (x=y))):=by
 obtain⟨x0,x1,x2⟩:=x;obtain⟨y0,y1,y2⟩:=y;refine aF.of func79 rfl ntmps79 (by simp) fun Q hQ=>?_
 refine zE fun _ V=>?_
 simp [ay.cells, cw, encI, encS, cI];apply V;refine zS fun _ V=>?_
 simp;apply V;refine J.ite rfl (fun hc=>?_) (fun hd0=>?_)
 ·simp at hc;refine zE fun _ V=>?_
  simp;apply V;exact J.ret func79 (aU.one results79) (hQ _ _ _ _ (.v _ _ _) (by simp[hc]))
 simp at hd0;apply J.skip;refine zS fun _ V=>?_
 simp;apply V;refine J.ite rfl (fun hc=>?_) (fun hd1=>?_)
 ·simp at hc;refine zE fun _ V=>?_
  simp;apply V;exact J.ret func79 (aU.one results79) (hQ _ _ _ _ (.v _ _ _) (by simp[hc]))
 simp at hd1;apply J.skip;refine zS fun _ V=>?_
 simp;refine zA (oh x2 y2 hl) e48 (.cons (aQ.encI false x2) (.cons (aQ.encI false y2) .nil)) (by simp[cw,encI,encS,cI]) ?_;rintro _ rfl;simp;apply V;refine J.ite rfl (fun hc=>?_) (fun hd2=>?_)
 ·simp at hc;refine zE fun _ V=>?_
  simp;apply V;exact J.ret func79 (aU.one results79) (hQ _ _ _ _ (.v _ _ _) (by simp[hc]))
 simp at hd2;apply J.skip;refine zE fun _ V=>?_
 simp;apply V;exact J.ret func79 (aU.one results79) (hQ _ _ _ _ (.v _ _ _) (by simp[hd0,hd1,hd2]))
theorem e50:a8 prog 50:=a8.of func50 (by kernel_rfl) rfl
theorem Cp (p q:List (ay)) (hp:p.length<=1048576) (hl:∀ x ∈ p,x.links.length<=1048576):aF prog 50 [.list false (p.map (ay.cells false)),.list false (q.map (ay.cells false))] (fun r=>r=bool (decide (p=q))):=by
 refine aF.of func50 rfl ntmps50 (by simp) fun Q hQ=>?_
 refine zE fun _ V=>?_
 simp;apply V;refine zS fun _ V=>?_
 simp;apply V;refine J.ite rfl (fun hc1=>?_) (fun hc1=>?_)
 ·simp at hc1;refine zE fun _ V=>?_
  simp;apply V;refine J.ret func50 (aU.one results50) (hQ _ _ _ _ (.v _ _ _) ?_);have:p ≠ q:=by intro h;subst h;omega
  simp[this]
 ·simp at hc1;have hlen:p.length=q.length:=by omega
  apply J.skip;refine zS fun _ V=>?_
  simp;apply V;refine J.block (J.cz p.length (fun k O H n=>O 0 = .list false (p.map (ay.cells false))/\O 1 = .list false (q.map (ay.cells false))/\O 5=int k/\p.take k=q.take k) ?_ ?_)
  ·simp
  ·rintro k O H n hk ⟨h0,h1,h5,heq⟩ IH;refine zS fun _ V=>?_
   simp [h0, h5];apply V;refine J.ite rfl (fun hc2=>?_) (fun hc2=>?_)
   ·simp at hc2;have hq2:k<q.length:=by omega
    apply zK;apply J.block;refine J.fC aB aP bZ (by decide) (by kernel_rfl) fun _ V=>?_
    simp [h0, h1, h5, hc2, hq2, ay.cells];refine bN.dA aB aP (FA p[k] q[k] (hl _ (List.getElem_mem hc2))) e79 (.cons (aQ.DQ false p[k]) (.cons (aQ.DQ false q[k]) .nil)) (by decide) rfl (by simp[ay.cells]) ?_;simp;apply V;refine J.ite rfl (fun hc3=>?_) (fun hc3=>?_)
    ·simp at hc3;refine zE fun _ V=>?_
     simp;apply V;refine J.ret func50 (aU.one results50) (hQ _ _ _ _ (.v _ _ _) ?_);have:p ≠ q:=by intro h;subst h;exact hc3 rfl
     simp[this]
    ·simp at hc3;apply J.skip;refine zI fun _ V=>?_
     simp [h5, bz (show k < 4611686018427387904 by omega)];apply V;refine IH hc2 _ _ _ ?_;refine⟨by simp[h0,ay.cells],by simp[h1,ay.cells],by simp,?_⟩;rw[List.take_succ_eq_append_getElem hc2,List.take_succ_eq_append_getElem hq2,heq,hc3]
   ·simp at hc2;refine J.exit rfl ?_;refine zE fun _ V=>?_
    simp;apply V;refine J.ret func50 (aU.one results50) (hQ _ _ _ _ (.v _ _ _) ?_);rw[List.take_of_length_le hc2,List.take_of_length_le (by omega)] at heq;simp[heq]
theorem e13:a8 prog 13:=a8.of func13 (by kernel_rfl) rfl
theorem gf (x y:aG) (hb:x.nodes.length<=1048576/\(∀ z ∈ x.nodes,z.links.length<=1048576)/\x.sites.length<=1048576/\x.outer.length<=1048576/\x.inner.length<=1048576):aF prog 13 [.agg (aG.cells false x),.agg (aG.cells false y)] (fun r=>r=bool (decide (x=y))):=by
 obtain⟨x0,x1,x2,x3,x4,x5⟩:=x;obtain⟨y0,y1,y2,y3,y4,y5⟩:=y;refine aF.of func13 rfl ntmps13 (by simp) fun Q hQ=>?_
 refine zE fun _ V=>?_
 simp [aG.cells, cw, encI, encS, cI];apply V;refine zS fun _ V=>?_
 simp;apply V;refine J.ite rfl (fun hc=>?_) (fun hd0=>?_)
 ·simp at hc;refine zE fun _ V=>?_
  simp;apply V;exact J.ret func13 (aU.one results13) (hQ _ _ _ _ (.v _ _ _) (by simp[hc]))
 simp at hd0;apply J.skip;refine zS fun _ V=>?_
 simp;refine zA (Cp x1 y1 hb.1 hb.2.1) e50 (.cons (aQ.cw false x1) (.cons (aQ.cw false y1) .nil)) (by simp[cw,encI,encS,cI]) ?_;rintro _ rfl;simp;apply V;refine J.ite rfl (fun hc=>?_) (fun hd1=>?_)
 ·simp at hc;refine zE fun _ V=>?_
  simp;apply V;exact J.ret func13 (aU.one results13) (hQ _ _ _ _ (.v _ _ _) (by simp[hc]))
 simp at hd1;apply J.skip;refine zS fun _ V=>?_
 simp;refine zA (oh x2 y2 hb.2.2.1) e48 (.cons (aQ.encI false x2) (.cons (aQ.encI false y2) .nil)) (by simp[cw,encI,encS,cI]) ?_;rintro _ rfl;simp;apply V;refine J.ite rfl (fun hc=>?_) (fun hd2=>?_)
 ·simp at hc;refine zE fun _ V=>?_
  simp;apply V;exact J.ret func13 (aU.one results13) (hQ _ _ _ _ (.v _ _ _) (by simp[hc]))
 simp at hd2;apply J.skip;refine zS fun _ V=>?_
 simp;apply V;refine J.ite rfl (fun hc=>?_) (fun hd3=>?_)
 ·simp at hc;refine zE fun _ V=>?_
  simp;apply V;exact J.ret func13 (aU.one results13) (hQ _ _ _ _ (.v _ _ _) (by simp[hc]))
 simp at hd3;apply J.skip;refine zS fun _ V=>?_
 simp;refine zA (yp x4 y4 hb.2.2.2.1) e51 (.cons (aQ.encS false x4) (.cons (aQ.encS false y4) .nil)) (by simp[cw,encI,encS,cI]) ?_;rintro _ rfl;simp;apply V;refine J.ite rfl (fun hc=>?_) (fun hd4=>?_)
 ·simp at hc;refine zE fun _ V=>?_
  simp;apply V;exact J.ret func13 (aU.one results13) (hQ _ _ _ _ (.v _ _ _) (by simp[hc]))
 simp at hd4;apply J.skip;refine zS fun _ V=>?_
 simp;refine zA (Bl x5 y5 hb.2.2.2.2) e52 (.cons (aQ.cI false x5) (.cons (aQ.cI false y5) .nil)) (by simp[cw,encI,encS,cI]) ?_;rintro _ rfl;simp;apply V;refine J.ite rfl (fun hc=>?_) (fun hd5=>?_)
 ·simp at hc;refine zE fun _ V=>?_
  simp;apply V;exact J.ret func13 (aU.one results13) (hQ _ _ _ _ (.v _ _ _) (by simp[hc]))
 simp at hd5;apply J.skip;refine zE fun _ V=>?_
 simp;apply V;exact J.ret func13 (aU.one results13) (hQ _ _ _ _ (.v _ _ _) (by simp[hd0,hd1,hd2,hd3,hd4,hd5]))
end Go.Ab
namespace Go.Ab
open Go.Proofs
theorem e36:a8 prog 36:=a8.of func36 (by kernel_rfl) rfl
theorem gU (p:List (Int)) (hp:p.length<=1048576):aF prog 36 [.list false (p.map aA)] (fun r=>r = .list true (p.map aA)):=by
 refine aF.of func36 rfl ntmps36 (by simp) fun Q hQ=>?_
 refine zE fun _ V=>?_
 simp;apply V;refine zE fun _ V=>?_
 simp [show (p.length : Int) <= 1073741824 by omega];apply V;refine zS fun _ V=>?_
 simp;apply V;refine J.block (J.cz p.length (fun k O H n=>O 0 = .list false (p.map aA)/\O 4=int k/\O 3 = .arr (0,7) p.length 0 p.length/\H (0,7)=some ⟨1,part aA [int 0] p k⟩) ?_ ?_)
 ·simp[aA,lq]
 ·rintro k O H n hk ⟨h0,h4,h3,hH⟩ IH;refine zS fun _ V=>?_
  simp [h0, h4];apply V;refine J.ite rfl (fun hc1=>?_) (fun hc1=>?_)
  ·simp at hc1;apply zK;apply J.block;refine zF fun _ V=>?_
   simp [h0, h3, h4, hH, hc1, iu hk, gE hc1, aA];apply V;refine zI fun _ V=>?_
   simp [h4, bz (show k < 4611686018427387904 by omega)];apply V;refine IH hc1 _ _ _ ?_;rw[<- na hc1];simp[h0,h3,aA,lG hc1]
  ·simp at hc1;have hke:k=p.length:=by omega
   subst hke;rw[nz] at hH;refine J.exit rfl ?_;refine zE fun _ V=>?_
   simp [h3];apply V;exact J.ret func36 (aU.one results36) (hQ _ _ _ _ (.of (lO.Dm (by simp[hH];rfl) (by simp[aA,aA]))) rfl)
theorem e37:a8 prog 37:=a8.of func37 (by kernel_rfl) rfl
theorem mD (p:List (a6)) (hp:p.length<=1048576):aF prog 37 [.list false (p.map aT)] (fun r=>r = .list true (p.map aT)):=by
 refine aF.of func37 rfl ntmps37 (by simp) fun Q hQ=>?_
 refine zE fun _ V=>?_
 simp;apply V;refine zE fun _ V=>?_
 simp [show (p.length : Int) <= 1073741824 by omega];apply V;refine zS fun _ V=>?_
 simp;apply V;refine J.block (J.cz p.length (fun k O H n=>O 0 = .list false (p.map aT)/\O 4=int k/\O 3 = .arr (0,7) p.length 0 p.length/\H (0,7)=some ⟨1,part aT [str []] p k⟩) ?_ ?_)
 ·simp[aT,lq]
 ·rintro k O H n hk ⟨h0,h4,h3,hH⟩ IH;refine zS fun _ V=>?_
  simp [h0, h4];apply V;refine J.ite rfl (fun hc1=>?_) (fun hc1=>?_)
  ·simp at hc1;apply zK;apply J.block;refine zF fun _ V=>?_
   simp [h0, h3, h4, hH, hc1, iu hk, gE hc1, aT];apply V;refine zI fun _ V=>?_
   simp [h4, bz (show k < 4611686018427387904 by omega)];apply V;refine IH hc1 _ _ _ ?_;rw[<- na hc1];simp[h0,h3,aT,lG hc1]
  ·simp at hc1;have hke:k=p.length:=by omega
   subst hke;rw[nz] at hH;refine J.exit rfl ?_;refine zE fun _ V=>?_
   simp [h3];apply V;exact J.ret func37 (aU.one results37) (hQ _ _ _ _ (.of (lO.Dm (by simp[hH];rfl) (by simp[aT,aA]))) rfl)
end Go.Ab
namespace Go.Ab
open Go.Proofs
theorem e72:a8 prog 72:=a8.of func72 (by kernel_rfl) rfl
theorem rJ (x:aD):aF prog 72 [.agg (aD.cells x)] (fun r=>r = .agg (aD.cells x)):=by
 refine aF.of func72 rfl ntmps72 (by simp) fun Q hQ=>?_
 refine zE fun _ V=>?_
 simp [aD.cells, cw, encI, encS, cI];apply V;refine zE fun _ V=>?_
 simp;apply V;refine zE fun _ V=>?_
 simp;apply V;refine zE fun _ V=>?_
 simp;apply V;refine zE fun _ V=>?_
 simp;apply V;exact J.ret func72 (aU.cell (cs:=aD.cells x) (v:=.agg (aD.cells x)) aB results72 HP (by simp[aD.cells,cw,encI,encS,cI]) (by simp[nA,aD.cells])) (hQ _ _ _ _ (.of (lO.fresh (by simp[aD.cells,cw,encI,encS,cI,ay.cells,aA,aT,aD.cells]))) rfl)
theorem e34:a8 prog 34:=a8.of func34 (by kernel_rfl) rfl
theorem lX (x:Control):aF prog 34 [.agg (Control.cells x)] (fun r=>r = .agg (Control.cells x)):=by
 refine aF.of func34 rfl ntmps34 (by simp) fun Q hQ=>?_
 refine zE fun _ V=>?_
 simp [Control.cells, cw, encI, encS, cI];apply V;refine zE fun _ V=>?_
 simp;apply V;refine zE fun _ V=>?_
 simp;apply V;refine zE fun _ V=>?_
 simp;apply V;refine zE fun _ V=>?_
 simp;apply V;refine zE fun _ V=>?_
 simp;apply V;exact J.ret func34 (aU.cell (cs:=Control.cells x) (v:=.agg (Control.cells x)) aB results34 IJ (by simp[Control.cells,cw,encI,encS,cI]) (by simp[nA,Control.cells])) (hQ _ _ _ _ (.of (lO.fresh (by simp[Control.cells,cw,encI,encS,cI,ay.cells,aA,aT,aD.cells]))) rfl)
theorem e71:a8 prog 71:=a8.of func71 (by kernel_rfl) rfl
theorem rP (x:ay) (hl:x.links.length<=1048576):aF prog 71 [.agg (ay.cells false x)] (fun r=>r = .agg (ay.cells true x)):=by
 refine aF.of func71 rfl ntmps71 (by simp) fun Q hQ=>?_
 refine zE fun _ V=>?_
 simp [ay.cells, cw, encI, encS, cI];apply V;refine zE fun _ V=>?_
 simp;apply V;refine zE fun _ V=>?_
 simp;apply V;refine zE fun _ V=>?_
 simp;apply V;refine zE fun _ V=>?_
 simp;refine zA (gU x.links hl) e36 (.cons (aQ.encI false x.links) .nil) (by simp[cw,encI,encS,cI]) ?_;rintro _ rfl;simp;apply V;refine zE fun _ V=>?_
 simp;apply V;exact J.ret func71 (aU.cell (cs:=ay.cells true x) (v:=.agg (ay.cells true x)) aB results71 xh (by simp[ay.cells,cw,encI,encS,cI]) (by simp[nA,ay.cells])) (hQ _ _ _ _ (.of (lO.fresh (by simp[ay.cells,cw,encI,encS,cI,ay.cells,aA,aT,aD.cells]))) rfl)
theorem e38:a8 prog 38:=a8.of func38 (by kernel_rfl) rfl
theorem pJ (p:List (aD)) (hp:p.length<=1048576):aF prog 38 [.list false (p.map aD.cells)] (fun r=>r = .list true (p.map aD.cells)):=by
 refine aF.of func38 rfl ntmps38 (by simp) fun Q hQ=>?_
 refine zE fun _ V=>?_
 simp;apply V;refine zE fun _ V=>?_
 simp [show (p.length : Int) <= 1073741824 by omega];apply V;refine zS fun _ V=>?_
 simp;apply V;refine J.block (J.cz p.length (fun k O H n=>O 0 = .list false (p.map aD.cells)/\O 4=int k/\O 3 = .arr (0,7) p.length 0 p.length/\H (0,7)=some ⟨2,part aD.cells [str [],int 0] p k⟩) ?_ ?_)
 ·simp[aD.cells,lq]
 ·rintro k O H n hk ⟨h0,h4,h3,hH⟩ IH;refine zS fun _ V=>?_
  simp [h0, h4];apply V;refine J.ite rfl (fun hc1=>?_) (fun hc1=>?_)
  ·simp at hc1;apply zK;apply J.block;refine zF fun _ V=>?_
   simp [h0, h3, h4, hH, hc1, iu hk, gE hc1, aD.cells];refine zA (rJ p[k]) e72 (.cons (aQ.DP _) .nil) (by simp[aD.cells]) ?_;rintro _ rfl;simp[h3,h4,hH,hc1,iu hk,gE hc1,aD.cells];apply V;refine zI fun _ V=>?_
   simp [h4, bz (show k < 4611686018427387904 by omega)];apply V;refine IH hc1 _ _ _ ?_;rw[<- na hc1];simp[h0,h3,aD.cells,lG hc1]
  ·simp at hc1;have hke:k=p.length:=by omega
   subst hke;rw[nz] at hH;refine J.exit rfl ?_;refine zE fun _ V=>?_
   simp [h3];apply V;exact J.ret func38 (aU.one results38) (hQ _ _ _ _ (.of (lO.Dm (by simp[hH];rfl) (by simp[aD.cells,aA]))) rfl)
theorem e8:a8 prog 8:=a8.of func8 (by kernel_rfl) rfl
theorem fF (p:List (Control)) (hp:p.length<=1048576):aF prog 8 [.list false (p.map Control.cells)] (fun r=>r = .list true (p.map Control.cells)):=by
 refine aF.of func8 rfl ntmps8 (by simp) fun Q hQ=>?_
 refine zE fun _ V=>?_
 simp;apply V;refine zE fun _ V=>?_
 simp [show (p.length : Int) <= 1073741824 by omega];apply V;refine zS fun _ V=>?_
 simp;apply V;refine J.block (J.cz p.length (fun k O H n=>O 0 = .list false (p.map Control.cells)/\O 4=int k/\O 3 = .arr (0,7) p.length 0 p.length/\H (0,7)=some ⟨3,part Control.cells [str [],int 0,int 0] p k⟩) ?_ ?_)
 ·simp[Control.cells,lq]
 ·rintro k O H n hk ⟨h0,h4,h3,hH⟩ IH;refine zS fun _ V=>?_
  simp [h0, h4];apply V;refine J.ite rfl (fun hc1=>?_) (fun hc1=>?_)
  ·simp at hc1;apply zK;apply J.block;refine zF fun _ V=>?_
   simp [h0, h3, h4, hH, hc1, iu hk, gE hc1, Control.cells];refine zA (lX p[k]) e34 (.cons (aQ.Iu _) .nil) (by simp[Control.cells]) ?_;rintro _ rfl;simp[h3,h4,hH,hc1,iu hk,gE hc1,Control.cells];apply V;refine zI fun _ V=>?_
   simp [h4, bz (show k < 4611686018427387904 by omega)];apply V;refine IH hc1 _ _ _ ?_;rw[<- na hc1];simp[h0,h3,Control.cells,lG hc1]
  ·simp at hc1;have hke:k=p.length:=by omega
   subst hke;rw[nz] at hH;refine J.exit rfl ?_;refine zE fun _ V=>?_
   simp [h3];apply V;exact J.ret func8 (aU.one results8) (hQ _ _ _ _ (.of (lO.Dm (by simp[hH];rfl) (by simp[Control.cells,aA]))) rfl)
theorem e35:a8 prog 35:=a8.of func35 (by kernel_rfl) rfl
theorem pt (p:List (ay)) (hp:p.length<=1048576) (hl:∀ x ∈ p,x.links.length<=1048576):aF prog 35 [.list false (p.map (ay.cells false))] (fun r=>r = .list true (p.map (ay.cells true))):=by
 refine aF.of func35 rfl ntmps35 (by simp) fun Q hQ=>?_
 refine zE fun _ V=>?_
 simp;apply V;refine zE fun _ V=>?_
 simp [show (p.length : Int) <= 1073741824 by omega];apply V;refine zS fun _ V=>?_
 simp;apply V;refine J.block (J.cz p.length (fun k O H n=>O 0 = .list false (p.map (ay.cells false))/\O 4=int k/\O 3 = .arr (0,7) p.length 0 p.length/\H (0,7)=some ⟨3,part (ay.cells true) [int 0,int 0,.v (.slice none 0 0)] p k⟩) ?_ ?_)
 ·simp[ay.cells,lq]
 ·rintro k O H n hk ⟨h0,h4,h3,hH⟩ IH;refine zS fun _ V=>?_
  simp [h0, h4];apply V;refine J.ite rfl (fun hc1=>?_) (fun hc1=>?_)
  ·simp at hc1;apply zK;apply J.block;refine zF fun _ V=>?_
   simp [h0, h3, h4, hH, hc1, iu hk, gE hc1, ay.cells];refine zA (rP p[k] (hl _ (List.getElem_mem hc1))) e71 (.cons (aQ.DQ false _) .nil) (by simp[ay.cells]) ?_;rintro _ rfl;simp[h3,h4,hH,hc1,iu hk,gE hc1,ay.cells];apply V;refine zI fun _ V=>?_
   simp [h4, bz (show k < 4611686018427387904 by omega)];apply V;refine IH hc1 _ _ _ ?_;rw[<- na hc1];simp[h0,h3,ay.cells,lG hc1]
  ·simp at hc1;have hke:k=p.length:=by omega
   subst hke;rw[nz] at hH;refine J.exit rfl ?_;refine zE fun _ V=>?_
   simp [h3];apply V;exact J.ret func35 (aU.one results35) (hQ _ _ _ _ (.of (lO.Dm (by simp[hH];rfl) (by simp[ay.cells,aA]))) rfl)
theorem e9:a8 prog 9:=a8.of func9 (by kernel_rfl) rfl
theorem dv (x:aG) (hb:x.nodes.length<=1048576/\(∀ z ∈ x.nodes,z.links.length<=1048576)/\x.sites.length<=1048576/\x.outer.length<=1048576/\x.inner.length<=1048576):aF prog 9 [.agg (aG.cells false x)] (fun r=>r = .agg (aG.cells true x)):=by
 refine aF.of func9 rfl ntmps9 (by simp) fun Q hQ=>?_
 refine zE fun _ V=>?_
 simp [aG.cells, cw, encI, encS, cI];apply V;refine zE fun _ V=>?_
 simp;apply V;refine zE fun _ V=>?_
 simp;apply V;refine zE fun _ V=>?_
 simp;refine zA (pt x.nodes hb.1 hb.2.1) e35 (.cons (aQ.cw false x.nodes) .nil) (by simp[cw,encI,encS,cI]) ?_;rintro _ rfl;simp;apply V;refine zE fun _ V=>?_
 simp;refine zA (gU x.sites hb.2.2.1) e36 (.cons (aQ.encI false x.sites) .nil) (by simp[cw,encI,encS,cI]) ?_;rintro _ rfl;simp;apply V;refine zE fun _ V=>?_
 simp;apply V;refine zE fun _ V=>?_
 simp;refine zA (mD x.outer hb.2.2.2.1) e37 (.cons (aQ.encS false x.outer) .nil) (by simp[cw,encI,encS,cI]) ?_;rintro _ rfl;simp;apply V;refine zE fun _ V=>?_
 simp;refine zA (pJ x.inner hb.2.2.2.2) e38 (.cons (aQ.cI false x.inner) .nil) (by simp[cw,encI,encS,cI]) ?_;rintro _ rfl;simp;apply V;refine zE fun _ V=>?_
 simp;apply V;exact J.ret func9 (aU.cell (cs:=aG.cells true x) (v:=.agg (aG.cells true x)) aB results9 r0 (by simp[aG.cells,cw,encI,encS,cI]) (by simp[nA,aG.cells])) (hQ _ _ _ _ (.of (lO.fresh (by simp[aG.cells,cw,encI,encS,cI,ay.cells,aA,aT,aD.cells]))) rfl)
end Go.Ab
namespace Go.Ab
open Go.Proofs
end Go.Ab
namespace Go.Ab
open Go.Proofs
end Go.Ab
namespace Go.Ab
open Go.Proofs
def dV (s:a6) (left:Int):Int:=if left - s.length<0 then -1 else left - s.length
def Small (p:Proc):Prop:=p.length<=9223372036854775807/\∀ x ∈ p,x.name.length<=9223372036854775807
end Go.Ab
