/- Merged texts (9 of 16) of the proof that ends in Isy: Mc Mk Mn Uj Uk Lm Nm Gm Gn Go Wb Wc ak. -/
import Derived.Test.YtheoibfaknbobaaGreatDoorAbQis8
import Derived.Laws.BytesString
open Go.Proofs.Tryz
set_option linter.unusedSimpArgs false
set_option linter.unusedVariables false
namespace Go.Ab.Vg
noncomputable abbrev mo (sig:dE) (b:aD):Bool:=iC sig b && gL b
abbrev lJ (sig:dE) (b:aD):Prop:=cQ sig b
def kK (sig:List Control) (b:aD) (Z:Bool->Prop):Prop:=
 cE (fun (J4:Bool->Prop)=>(cQ sig b)/\∀ r11:Bool,r11=iC sig b->((r11=true->(lS b)/\∀ r13:Bool,r13=vg b->J4 (r13))/\(r11=false->J4 (false)))) (fun b7=>Z b7)
theorem Ao (sig:dE) (b:aD) (h:lJ sig b):kK sig b (fun y=>y=mo sig b):=by
 unfold kK;simp only[forall_eq];refine⟨fun c=>c=mo sig b,⟨h,fun h1=>⟨(jj h1).Ew,by rw[mo,h1];rfl⟩,fun h1=>by rw[mo,h1];rfl⟩,fun c h=>h⟩
noncomputable abbrev Ak (sig:dE) (I ar:aD):Bool:=cV sig I ar
abbrev nT (sig:dE) (I ar:aD):Prop:=cQ sig I/\cQ sig ar
def mA (sig:List Control) (I:aD) (ar:aD) (Z:Bool->Prop):Prop:=
 cE (fun (J5:Bool->Prop)=>(lJ sig I)/\∀ r12:Bool,r12=mo sig I->((r12=true->(lI sig ar)/\∀ r14:Bool,r14=vy sig ar->J5 (r14))/\(r12=false->J5 (false)))) (fun b8=>Z b8)
theorem BQ (sig:dE) (I ar:aD) (h:nT sig I ar):mA sig I ar (fun y=>y=Ak sig I ar):=by
 unfold mA;simp only[forall_eq];refine⟨fun c=>c=cV sig I ar,⟨h.1,fun h1=>⟨h.2,?_⟩,fun h1=>?_⟩,fun c h=>h⟩
 ·rw[cV,show (iC sig I && gL I)=true from h1];rfl
 ·rw[cV,show (iC sig I && gL I)=false from h1];rfl
def kA (I ar:aD) (nodes:List Int):Prop:=uA I ar nodes/\∀ k:Nat,k<I.nodes.length->(at' ar.nodes (at' nodes (k:Int))).control=(at' I.nodes (k:Int)).control
open Classical in
noncomputable def gE (I ar:aD) (nodes:List Int):Bool:=decide (kA I ar nodes)
abbrev kW (I ar:aD) (nodes:List Int):Prop:=nodes.length<=1048576/\ar.nodes.length<=1048576
def jg (I:aD) (ar:aD) (nodes:List Int) (Z:Bool->Prop):Prop:=
 ∀ kV:Int,kV=(nodes.length:Int)->∀ na:Int,na=(I.nodes.length:Int)->∀ c9:Bool,c9=decide (kV ≠ na)->((c9=true->Z false)/\(c9=false->aG (σ:=Int) (fun i13 K16=>∀ len17:Int,len17=(nodes.length:Int)->∀ c19:Bool,c19=decide (i13<len17)->((c19=true->cE (fun (J21:Bool->Prop)=>(0<=i13/\i13<nodes.length)/\∀ x31:Int,x31=at' nodes i13->(ar.nodes.length<=1048576)/\∀ r34:Bool,r34=ec ar x31->((r34=true->((0:Int)<=0/\(0:Int)<=i13/\i13<=nodes.length)/\∀ l36:List Int,l36=(nodes.take i13.toNat).drop 0->(0<=i13/\i13<nodes.length)/\∀ x39:Int,x39=at' nodes i13->(l36.length<=1048576)/\∀ r43:Bool,r43=kc l36 x31->((r43=true->J21 (true))/\(r43=false->(0<=i13/\i13<nodes.length)/\∀ x45:Int,x45=at' nodes i13->(0<=x31/\x31<ar.nodes.length)/\∀ x49:aA,x49=at' ar.nodes x31->(0<=i13/\i13<I.nodes.length)/\∀ x52:aA,x52=at' I.nodes i13->∀ c54:Bool,c54=decide (x49.control ≠ x52.control)->J21 (c54))))/\(r34=false->J21 (true)))) (fun b24=>((b24=true->Z false)/\(b24=false->(bp (i13+1))/\∀ v28:Int,v28=i13+1->K16 (v28)))))/\(c19=false->Z true))) (0)))
theorem vU (I ar:aD) (nodes:List Int) (h:kW I ar nodes):jg I ar nodes (fun y=>y=gE I ar nodes):=by
 unfold jg;obtain⟨h1,h2⟩:=h;have no:¬ kA I ar nodes->false=gE I ar nodes:=fun h=>by simp[gE,h]
 simp only[forall_eq,decide_eq_true_eq,decide_eq_false_iff_not,List.drop_zero];refine⟨fun h3=>no fun hI=>h3 (by have:=hI.1.1;omega),fun h3=>?_⟩;have hnode:∀ x,ec ar x=true->0<=x/\x<ar.nodes.length:=fun x hx=>by
  simp only[ec,within,Bool.and_eq_true,decide_eq_true_eq] at hx;omega
 refine aG.wM nodes.length (fun k=>∀ i:Nat,i<k->(ec ar (at' nodes (i:Int))=true/\at' nodes (i:Int) ∉ nodes.take i)/\(at' ar.nodes (at' nodes (i:Int))).control=(at' I.nodes (i:Int)).control) (fun i hi=>by omega) ?_;rintro k K hk hI IH;refine⟨fun h4=>⟨fun c=>c=true↔¬ ((ec ar (at' nodes (k:Int))=true/\at' nodes (k:Int) ∉ nodes.take k)/\(at' ar.nodes (at' nodes (k:Int))).control=(at' I.nodes (k:Int)).control),⟨by omega,h2,fun h5=>⟨by omega,by omega,by simp;omega,fun h6=>?_,fun h6=>⟨by omega,hnode _ h5,by omega,?_⟩⟩,fun h5=>iff_of_true rfl (by rw[h5];simp)⟩,fun c hJ=>⟨fun h5=>no fun hP=>hJ.1 h5 ⟨hP.1.2 k (by omega),hP.2 k (by omega)⟩,fun h5=>⟨by simp only[bp];omega,IH (by omega) fun i hi=>?_⟩⟩⟩,fun h4=>?_⟩
 ·rw[Int.toNat_natCast] at h6;exact iff_of_true rfl fun h7=>h7.1.2 (eK.1 h6)
 ·rw[Int.toNat_natCast] at h6;simp only[decide_eq_true_eq];exact⟨fun h7 h8=>h7 h8.2,fun h7 h8=>h7 ⟨⟨h5,qC.1 h6⟩,h8⟩⟩
 ·rcases Nat.lt_or_ge i k with h6 | h6
  ·exact hI i h6
  ·rw[show i=k by omega];exact Classical.not_not.1 fun h=>by rw[hJ.2 h] at h5;cases h5
 ·have hP:kA I ar nodes:=⟨⟨by omega,fun i hi=>(hI i (by omega)).1⟩,fun i hi=>(hI i (by omega)).2⟩
  simp[gE,hP]
def jZ (I ar:aD) (m:Match):Prop:=∀ k:Nat,k<I.nodes.length->(at' ar.nodes (at' m.nodes (k:Int))).parent=cS I m (k:Int)
open Classical in
noncomputable def ff (I ar:aD) (m:Match):Bool:=decide (jZ I ar m)
abbrev gn (I ar:aD) (m:Match):Prop:=(∃ sig,qt sig I ar)/\pe ar m.nodes I.nodes.length/\(m.roots.length:Int)=I.roots
def iu (I:aD) (ar:aD) (m:Match) (Z:Bool->Prop):Prop:=
 aG (σ:=Int) (fun i8 K11=>∀ cD:Int,cD=(m.nodes.length:Int)->∀ c14:Bool,c14=decide (i8<cD)->((c14=true->(0<=i8/\i8<I.nodes.length)/\∀ x17:aA,x17=at' I.nodes i8->∀ c19:Bool,c19=decide (0<=x17.parent)->((c19=true->(0<=x17.parent/\x17.parent<m.nodes.length)/\∀ x23:Int,x23=at' m.nodes x17.parent->(0<=i8/\i8<m.nodes.length)/\∀ x26:Int,x26=at' m.nodes i8->(0<=x26/\x26<ar.nodes.length)/\∀ x29:aA,x29=at' ar.nodes x26->∀ c31:Bool,c31=decide (x29.parent ≠ x23)->((c31=true->Z false)/\(c31=false->(bp (i8+1))/\∀ v35:Int,v35=i8+1->K11 (v35))))/\(c19=false->(bp ((-1) - x17.parent))/\∀ v38:Int,v38=(-1) - x17.parent->(0<=v38/\v38<m.roots.length)/\∀ x41:Int,x41=at' m.roots v38->(0<=i8/\i8<m.nodes.length)/\∀ x44:Int,x44=at' m.nodes i8->(0<=x44/\x44<ar.nodes.length)/\∀ x47:aA,x47=at' ar.nodes x44->∀ c49:Bool,c49=decide (x47.parent ≠ x41)->((c49=true->Z false)/\(c49=false->(bp (i8+1))/\∀ v53:Int,v53=i8+1->K11 (v53))))))/\(c14=false->Z true))) (0)
theorem uV (I ar:aD) (m:Match) (h:gn I ar m):iu I ar m (fun y=>y=ff I ar m):=by
 unfold iu;obtain⟨⟨sig,hP⟩,⟨hlen,hin⟩,hroots⟩:=h;have no:¬ jZ I ar m->false=ff I ar m:=fun h=>by simp[ff,h]
 have hr8:=hP.r.len;have hrr:=hP.r.roots;simp only[forall_eq,decide_eq_true_eq,decide_eq_false_iff_not];refine aG.wM m.nodes.length (fun k=>∀ j:Nat,j<k->(at' ar.nodes (at' m.nodes (j:Int))).parent=cS I m (j:Int)) (fun j hj=>by omega) ?_;rintro k K hk hI IH;refine⟨fun hc=>?_,fun hc=>?_⟩
 ·have hk1:k<I.nodes.length:=by omega
  have hpar:=hP.r.xO (i:=k) ⟨by omega,by omega⟩;have him:=hin k (by omega);have hnext:(at' ar.nodes (at' m.nodes (k:Int))).parent=cS I m (k:Int)->∀ j:Nat,j<k+1->(at' ar.nodes (at' m.nodes (j:Int))).parent=cS I m (j:Int):=fun h j hj=>by
   rcases Nat.lt_or_ge j k with h1 | h1
   ·exact hI j h1
   ·rw[show j=k by omega];exact h
  refine⟨by omega,fun h1=>?_,fun h1=>?_⟩
  ·have hx:at' m.nodes (at' I.nodes (k:Int)).parent=cS I m k:=by rw[cS,if_pos h1]
   rw[hx];exact⟨by omega,by omega,him,fun h2=>no fun hA=>h2 (hA k hk1),fun h2=>⟨by simp only[bp];omega,IH (by omega) (hnext (Classical.not_not.1 h2))⟩⟩
  ·have hx:at' m.roots (-1 - (at' I.nodes (k:Int)).parent)=cS I m k:=by rw[cS,if_neg h1]
   rw[hx];exact⟨by simp only[bp];omega,by omega,by omega,him,fun h2=>no fun hA=>h2 (hA k hk1),fun h2=>⟨by simp only[bp];omega,IH (by omega) (hnext (Classical.not_not.1 h2))⟩⟩
 ·have hA:jZ I ar m:=fun j hj=>hI j (by omega)
  simp[ff,hA]
def tR (I ar:aD) (m:Match):Prop:=∀ k:Nat,k<I.nodes.length->(iE I (k:Int)).length=0->∀ c ∈ dG ar (at' m.nodes (k:Int)),c ∈ m.nodes
open Classical in
noncomputable def kv (I ar:aD) (m:Match):Bool:=decide (tR I ar m)
abbrev nv (I ar:aD) (m:Match):Prop:=gn I ar m
def mL (I:aD) (ar:aD) (m:Match) (Z:Bool->Prop):Prop:=
 aG (σ:=Int) (fun i8 K11=>∀ cD:Int,cD=(m.nodes.length:Int)->∀ c14:Bool,c14=decide (i8<cD)->((c14=true->(0<=i8/\i8<m.nodes.length)/\∀ x17:Int,x17=at' m.nodes i8->(dn ar x17)/\∀ r20:List Int,r20=kR ar x17->aG (σ:=Int) (fun k23 K26=>cE (fun (J27:Bool->Prop)=>∀ len44:Int,len44=(r20.length:Int)->∀ c46:Bool,c46=decide (k23<len44)->((c46=true->(ee I i8)/\∀ r49:List Int,r49=k8 I i8->∀ len50:Int,len50=(r49.length:Int)->∀ c52:Bool,c52=decide (len50=0)->J27 (c52))/\(c46=false->J27 (false)))) (fun b30=>((b30=true->(0<=k23/\k23<r20.length)/\∀ x34:Int,x34=at' r20 k23->(m.nodes.length<=1048576)/\∀ r37:Bool,r37=kc m.nodes x34->((r37=true->(bp (k23+1))/\∀ v39:Int,v39=k23+1->K26 (v39))/\(r37=false->Z false)))/\(b30=false->(bp (i8+1))/\∀ v42:Int,v42=i8+1->K11 (v42))))) (0))/\(c14=false->Z true))) (0)
theorem Bi (I ar:aD) (m:Match) (h:nv I ar m):mL I ar m (fun y=>y=kv I ar m):=by
 unfold mL;obtain⟨⟨sig,hP⟩,⟨hlen,hin⟩,hroots⟩:=h;have no:¬ tR I ar m->false=kv I ar m:=fun h=>by simp[kv,h]
 have hr8:=hP.r.len;have ha8:=hP.a.len;have hs4:=hP.r.slen;simp only[forall_eq,decide_eq_true_eq,decide_eq_false_iff_not,kR,k8];refine aG.wM m.nodes.length (fun k=>∀ j:Nat,j<k->(iE I (j:Int)).length=0->∀ c ∈ dG ar (at' m.nodes (j:Int)),c ∈ m.nodes) (fun j hj=>by omega) ?_;rintro k K hk hI IH;refine⟨fun hc=>?_,fun hc=>?_⟩
 ·have him:=hin k (by omega);have hkl:(dG ar (at' m.nodes (k:Int))).length<=ar.nodes.length:=iW _ _ _;refine⟨by omega,by simp only[dn];omega,?_⟩;refine aG.wM (dG ar (at' m.nodes (k:Int))).length (fun q=>∀ j:Nat,j<q->at' (dG ar (at' m.nodes (k:Int))) (j:Int) ∈ m.nodes) (fun j hj=>by omega) ?_;rintro q K2 hq hI2 IH2;refine⟨fun c=>c=true↔(q<(dG ar (at' m.nodes (k:Int))).length/\(iE I (k:Int)).length=0),⟨fun h1=>⟨by simp only[ee];omega,by simp only[decide_eq_true_eq];omega⟩,fun h1=>iff_of_false (by simp) (by omega)⟩,fun c hJ=>⟨fun h1=>?_,fun h1=>⟨by simp only[bp];omega,IH (by omega) fun j hj h0 c hcm=>?_⟩⟩⟩
  ·have h2:=hJ.1 h1;refine⟨by omega,by omega,fun h3=>⟨by simp only[bp];omega,IH2 h2.1 fun j hj=>?_⟩,fun h3=>no fun hA=>?_⟩
   ·rcases Nat.lt_or_ge j q with h4 | h4
    ·exact hI2 j h4
    ·rw[show j=q by omega];exact eK.1 h3
   ·exact qC.1 h3 (hA k (by omega) h2.2 _ (at_mem ⟨by omega,by omega⟩))
  ·rcases Nat.lt_or_ge j k with h2 | h2
   ·exact hI j h2 h0 c hcm
   ·rw[show j=k by omega] at h0 hcm;obtain⟨z,hz,rfl⟩:=List.getElem_of_mem hcm;have hql:¬ q<(dG ar (at' m.nodes (k:Int))).length:=fun h=>by rw[hJ.2 ⟨h,h0⟩] at h1;cases h1
    have:=hI2 z (by omega)
    rwa [cG hz] at this
 ·have hA:tR I ar m:=fun j hj=>hI j (by omega)
  simp[kv,hA]
abbrev oP (b:aD) (p:Int):Bool:=within p (-b.roots) (b.nodes.length - 1)
abbrev mc (b:aD) (_:Int):Prop:=b.nodes.length<=1048576/\bp (-b.roots)
def kr (b:aD) (x:Int) (Z:Bool->Prop):Prop:=
 (bp (-b.roots))/\∀ v5:Int,v5 = -b.roots->∀ na:Int,na=(b.nodes.length:Int)->(bp (na - 1))/\∀ v10:Int,v10=na - 1->∀ r12:Bool,r12=within x v5 v10->Z r12
theorem zf (b:aD) (p:Int) (h:mc b p):kr b p (fun y=>y=oP b p):=by
 unfold kr;simp only[forall_eq];exact⟨h.2,by have:=h.1;simp only[bp];omega,by trivial⟩
open Classical in
noncomputable def fj (I ar:aD) (m:Match):Bool:=decide (ij I ar m)
abbrev kq (I ar:aD) (m:Match):Prop:=ya ar/\MSz m/\bp (-ar.roots)
def jh (I:aD) (ar:aD) (m:Match) (Z:Bool->Prop):Prop:=
 aG (σ:=Int) (fun r8 K11=>∀ cD:Int,cD=(m.roots.length:Int)->∀ c14:Bool,c14=decide (r8<cD)->((c14=true->cE (fun (J16:Bool->Prop)=>(0<=r8/\r8<m.roots.length)/\∀ x26:Int,x26=at' m.roots r8->(mc ar x26)/\∀ r29:Bool,r29=oP ar x26->((r29=true->(0<=r8/\r8<m.roots.length)/\∀ x31:Int,x31=at' m.roots r8->(kt ar m x26)/\∀ r35:Bool,r35=iD ar m x26->J16 (r35))/\(r29=false->J16 (true)))) (fun b19=>((b19=true->Z false)/\(b19=false->(bp (r8+1))/\∀ v23:Int,v23=r8+1->K11 (v23)))))/\(c14=false->∀ len36:Int,len36=(m.roots.length:Int)->∀ c38:Bool,c38=decide (len36=I.roots)->Z c38))) (0)
theorem wv (I ar:aD) (m:Match) (h:kq I ar m):jh I ar m (fun y=>y=fj I ar m):=by
 unfold jh;obtain⟨hd,hm,hr⟩:=h;have hd1:=hd.1;have no:¬ ij I ar m->false=fj I ar m:=fun h=>by simp[fj,h]
 simp only[forall_eq,decide_eq_true_eq,decide_eq_false_iff_not];refine aG.wM m.roots.length (fun k=>∀ i:Nat,i<k -> -ar.roots<=at' m.roots (i:Int)/\at' m.roots (i:Int)<ar.nodes.length/\c8 ar m.nodes (at' m.roots (i:Int))=false) (fun i hi=>by omega) ?_;rintro k K hk hI IH;refine⟨fun h1=>⟨fun c=>c=true↔¬ (-ar.roots<=at' m.roots (k:Int)/\at' m.roots (k:Int)<ar.nodes.length/\c8 ar m.nodes (at' m.roots (k:Int))=false),⟨by omega,⟨hd1,hr⟩,fun h2=>?_,fun h2=>iff_of_true rfl fun h3=>?_⟩,fun c hJ=>⟨fun h2=>no fun hR=>hJ.1 h2 (hR.2 _ (at_mem ⟨by omega,by omega⟩)),fun h2=>⟨by simp only[bp];omega,IH (by omega) fun i hi=>?_⟩⟩⟩,fun h1=>?_⟩
 ·simp only[oP,within,Bool.and_eq_true,decide_eq_true_eq] at h2;refine⟨by omega,⟨hd,by omega,hm.1⟩,?_⟩;cases hu:c8 ar m.nodes (at' m.roots (k:Int)) with
  | false=>exact iff_of_false (by rw[iD,hu];simp) fun h=>h ⟨by omega,by omega,rfl⟩
  | true=>exact iff_of_true (by rw[iD,hu]) fun h=>by cases h.2.2
 ·simp only[oP,within,Bool.and_eq_false_iff,decide_eq_false_iff_not] at h2;omega
 ·rcases Nat.lt_or_ge i k with h5 | h5
  ·exact hI i h5
  ·rw[show i=k by omega];exact Classical.not_not.1 fun h=>by rw[hJ.2 h] at h2;cases h2
 ·have hA:∀ p ∈ m.roots,-ar.roots<=p/\p<ar.nodes.length/\c8 ar m.nodes p=false:=fun p hp=>by
   obtain⟨z,hz,rfl⟩:=List.getElem_of_mem hp;have:=hI z (by omega)
   rwa [cG hz] at this
  by_cases hl:(m.roots.length:Int)=I.roots
  ·have hR:ij I ar m:=⟨hl,hA⟩
   simp[fj,hR,hl]
  ·have hR:¬ ij I ar m:=fun h=>hl h.1
   simp[fj,hR,hl]
open Classical in
noncomputable def gW (I ar:aD) (m:Match) (l:Int):Int × Bool:=(eF I ar m.nodes l,decide (ru I ar m.nodes l))
abbrev lE (I ar:aD) (m:Match) (l:Int):Prop:=dv I ar m.nodes/\0<=l/\l<I.edges+I.outer.length
def kE (I:aD) (ar:aD) (m:Match) (link:Int) (Z:(Int × Bool)->Prop):Prop:=
 (gD I link)/\∀ r7:List (Int × Int),r7=jI I link->((0:Int)<=0/\(0:Int)<r7.length)/\∀ x9:Int × Int,x9=at' r7 0->(0<=x9.1/\x9.1<m.nodes.length)/\∀ x13:Int,x13=at' m.nodes x9.1->(0<=x13/\x13<ar.nodes.length)/\∀ x16:aA,x16=at' ar.nodes x13->((0:Int)<=0/\(0:Int)<r7.length)/\∀ x19:Int × Int,x19=at' r7 0->(0<=x9.2/\x9.2<x16.links.length)/\∀ x24:Int,x24=at' x16.links x9.2->aG (σ:=Int) (fun i29 K32=>∀ len33:Int,len33=(r7.length:Int)->∀ c35:Bool,c35=decide (i29<len33)->((c35=true->(0<=i29/\i29<r7.length)/\∀ x38:Int × Int,x38=at' r7 i29->(0<=x38.1/\x38.1<m.nodes.length)/\∀ x42:Int,x42=at' m.nodes x38.1->(0<=x42/\x42<ar.nodes.length)/\∀ x45:aA,x45=at' ar.nodes x42->(0<=i29/\i29<r7.length)/\∀ x48:Int × Int,x48=at' r7 i29->(0<=x38.2/\x38.2<x45.links.length)/\∀ x53:Int,x53=at' x45.links x38.2->∀ c55:Bool,c55=decide (x53 ≠ x24)->((c55=true->Z (x24,false))/\(c55=false->(bp (i29+1))/\∀ v59:Int,v59=i29+1->K32 (v59))))/\(c35=false->∀ c61:Bool,c61=decide (link<I.edges)->((c61=true->cE (fun (J63:Bool->Prop)=>∀ c69:Bool,c69=decide (x24<ar.edges)->((c69=true->(gD ar x24)/\∀ r72:List (Int × Int),r72=jI ar x24->∀ len73:Int,len73=(r72.length:Int)->∀ len75:Int,len75=(r7.length:Int)->∀ c77:Bool,c77=decide (len73=len75)->J63 (c77))/\(c69=false->J63 (false)))) (fun b66=>Z (x24,b66)))/\(c61=false->Z (x24,true)))))) (1)
theorem pP.port {b:aD} (h:pP b) {l:Int} (h0:0<=l) (h1:l<b.edges+b.outer.length):0<(cn b l).length:=by
 have h2:=h.2.2.2 l h0 h1;have h3:b.inner=[]:=List.eq_nil_of_length_eq_zero h.1;simp only[ko,lL,sn,h3,List.filter_nil,List.map_nil,List.length_nil,decide_true,Bool.and_true,decide_eq_false_iff_not] at h2;omega
theorem yS {ar:aD} {nodes:List Int} {P:List (Int × Int)} (h:0<P.length):c5 ar nodes P=gO ar nodes (at' P 0):=by
 cases P with
 | nil=>simp at h
 | cons a P=>rfl
theorem zY (I ar:aD) (m:Match) (l:Int) (h:lE I ar m l):kE I ar m l (fun y=>y=gW I ar m l):=by
 unfold kE;obtain⟨hpre,hl0,hl1⟩:=h;have hpre2:=hpre;obtain⟨⟨sig,hP⟩,_⟩:=hpre2;have hne:=hP.red.port hl0 hl1;have hLr:=hP.r.pL;have hLa:=hP.a.pL;have hin:∀ k:Nat,k<(cn I l).length->_:=fun k hk=>yC hpre (l:=l) (p:=at' (cn I l) (k:Int)) (at_mem ⟨by omega,by omega⟩)
 have h0:=hin 0 hne;have hf:gO ar m.nodes (at' (cn I l) 0)=eF I ar m.nodes l:=(yS hne).symm;have hpl:(cn I l).length<=1024 * 1024:=Nat.le_trans (gA hLr.2.1 l _ (Nat.le_refl _)) (by have:=hLr.1;omega);simp only[forall_eq,decide_eq_true_eq,decide_eq_false_iff_not,jI];have hun:∀ p:Int × Int,at' (at' ar.nodes (at' m.nodes p.1)).links p.2=gO ar m.nodes p:=fun p=>rfl
 simp only[hun,hf];refine⟨hLr,⟨by omega,by omega⟩,h0.1,h0.2.1,⟨by omega,by omega⟩,h0.2.2.1,?_⟩;have res:∀ b:Bool,(b=true↔ru I ar m.nodes l)->(eF I ar m.nodes l,b)=gW I ar m l:=fun b hb=>by
  rw[gW]
  congr 1
  rw[Bool.eq_iff_iff,hb];simp
 refine aG.byM (fun i=>∃ k:Nat,i=k/\k<=(cn I l).length/\∀ j:Nat,j<k->gO ar m.nodes (at' (cn I l) (j:Int))=eF I ar m.nodes l) (fun i=>((cn I l).length - i).toNat) ⟨1,rfl,by omega,fun j hj=>by rw[show j=0 by omega];exact hf⟩ ?_;rintro _ ⟨k,rfl,hk,hI⟩;refine⟨fun h1=>?_,fun h1=>?_⟩
 ·have hk1:=hin k (by omega);refine⟨by omega,hk1.1,hk1.2.1,by omega,hk1.2.2.1,fun h2=>res _ (iff_of_false (by simp) fun hL=>h2 (hL.1 _ (at_mem ⟨by omega,by omega⟩))),fun h2=>⟨by simp only[bp];omega,⟨k+1,by omega,by omega,fun j hj=>?_⟩,by omega⟩⟩;rcases Nat.lt_or_ge j k with h3 | h3
  ·exact hI j h3
  ·rw[show j=k by omega];exact Classical.not_not.1 h2
 ·have bu:∀ p ∈ cn I l,gO ar m.nodes p=eF I ar m.nodes l:=fun p hp=>by
   obtain⟨z,hz,rfl⟩:=List.getElem_of_mem hp;have:=hI z (by omega)
   rwa [cG hz] at this
  refine⟨fun h2=>⟨fun c=>c=true↔ru I ar m.nodes l,⟨fun h3=>⟨hLa,?_⟩,fun h3=>iff_of_false (by simp) fun hL=>h3 (hL.2 h2).1⟩,fun c hc=>res c hc⟩,fun h2=>res true (iff_of_true rfl ⟨bu,fun h=>absurd h h2⟩)⟩;simp only[decide_eq_true_eq];exact⟨fun h4=>⟨bu,fun _=>⟨h3,by omega⟩⟩,fun hL=>by have:=(hL.2 h2).2;omega⟩
noncomputable abbrev jo (I ar:aD) (m:Match):=pq I ar m.nodes
abbrev lK (I ar:aD) (m:Match):Prop:=dv I ar m.nodes
def kX (I:aD) (ar:aD) (m:Match) (Z:((List Int) × Bool)->Prop):Prop:=
 aG (σ:=Int × (List Int)) (fun (link16,l17) K21=>∀ len22:Int,len22=(I.outer.length:Int)->(bp (I.edges+len22))/\∀ v25:Int,v25=I.edges+len22->∀ c27:Bool,c27=decide (link16<v25)->((c27=true->(lE I ar m link16)/\∀ r30:Int × Bool,r30=gW I ar m link16->((r30.2=true->(l17.length+1<=1073741824)/\∀ l38:List Int,l38=l17++[r30.1]->(bp (link16+1))/\∀ v48:Int,v48=link16+1->K21 (v48,l38))/\(r30.2=false->Z (([]:List Int),false))))/\(c27=false->Z (l17,true)))) (0,([]:List Int))
theorem Aj (I ar:aD) (m:Match) (h:lK I ar m):kX I ar m (fun y=>y=jo I ar m):=by
 unfold kX;have hpre:=h;obtain⟨⟨sig,hP⟩,_⟩:=h;have hE:=hP.r.edges;have hO:=hP.r.outer;simp only[forall_eq,decide_eq_true_eq,decide_eq_false_iff_not];refine aG.sE (I.edges+I.outer.length).toNat (fun k out=>out=(List.range k).map (fun l:Nat=>eF I ar m.nodes (l:Int))/\∀ l:Nat,l<k->ru I ar m.nodes (l:Int)) [] ⟨rfl,fun l hl=>by omega⟩ ?_;rintro k out K hk ⟨rfl,hI⟩ IH;dsimp only;refine⟨by simp only[bp];omega,fun h1=>⟨⟨hpre,by omega,h1⟩,fun h2=>⟨by simp;omega,by simp only[bp];omega,IH (by omega) _ ⟨?_,fun l hl=>?_⟩⟩,fun h2=>?_⟩,fun h1=>?_⟩
 ·simp[List.range_succ,gW]
 ·rcases Nat.lt_or_ge l k with h3 | h3
  ·exact hI l h3
  ·rw[show l=k by omega];simpa[gW] using h2
 ·rw[jo,j0 fun hL=>?_];have:=hL k (by omega) h1;simp[gW] at h2;exact h2 this
 ·rw[jo,kp fun l h2 h3=>?_,show k=(I.edges+I.outer.length).toNat by omega];have:=hI l.toNat (by omega)
  rwa [show ((l.toNat:Nat):Int)=l by omega] at this
noncomputable abbrev uH (I ar:aD) (m:Match):Bool:=fD I ar m
abbrev mf (I ar:aD) (m:Match):Prop:=jt I ar m
def la (I:aD) (ar:aD) (m:Match) (Z:Bool->Prop):Prop:=
 cE (fun (J6:Bool->Prop)=>(kW I ar m.nodes)/\∀ r15:Bool,r15=gE I ar m.nodes->((r15=true->(kq I ar m)/\∀ r17:Bool,r17=fj I ar m->((r17=true->(gn I ar m)/\∀ r19:Bool,r19=ff I ar m->((r19=true->(nv I ar m)/\∀ r21:Bool,r21=kv I ar m->J6 ((!r21)))/\(r19=false->J6 (true))))/\(r17=false->J6 (true))))/\(r15=false->J6 (true)))) (fun b9=>((b9=true->Z false)/\(b9=false->(lK I ar m)/\∀ r13:(List Int) × Bool,r13=jo I ar m->Z r13.2)))
theorem zb (I ar:aD) (m:Match) (h:mf I ar m):la I ar m (fun y=>y=uH I ar m):=by
 unfold la;obtain⟨⟨sig,hP⟩,hm⟩:=h;have ha8:=hP.a.len;have har:=hP.a.roots;simp only[forall_eq];have hIm:∀ b:Bool,gE I ar m.nodes=b->(b=true↔kA I ar m.nodes):=fun b hb=>by rw[<- hb];simp[gE]
 have hPl:∀ b:Bool,fj I ar m=b->(b=true↔ij I ar m):=fun b hb=>by rw[<- hb];simp[fj]
 have hPa:∀ b:Bool,ff I ar m=b->(b=true↔jZ I ar m):=fun b hb=>by rw[<- hb];simp[ff]
 have hKi:∀ b:Bool,kv I ar m=b->(b=true↔tR I ar m):=fun b hb=>by rw[<- hb];simp[kv]
 have hin:kA I ar m.nodes->pe ar m.nodes I.nodes.length:=fun hI=>⟨hI.1.1,fun i hi=>by have:=(hI.1.2 i hi).1;simp only[ec,within,Bool.and_eq_true,decide_eq_true_eq] at this;omega⟩
 have spl:uW I ar m↔(kA I ar m.nodes/\ij I ar m/\jZ I ar m/\tR I ar m)/\lz I ar m.nodes:=by
  constructor
  ·rintro⟨h1,h2,h3,h4⟩;exact⟨⟨⟨h1,fun k hk=>(h3 k hk).1⟩,h2,fun k hk=>(h3 k hk).2.1,fun k hk=>(h3 k hk).2.2⟩,h4⟩
  ·rintro⟨⟨h1,h2,h3,h4⟩,h5⟩;exact⟨h1.1,h2,fun k hk=>⟨h1.2 k hk,h3 k hk,h4 k hk⟩,h5⟩
 refine⟨fun c=>c=true↔¬ (kA I ar m.nodes/\ij I ar m/\jZ I ar m/\tR I ar m),⟨⟨hm.1,by omega⟩,fun h1=>⟨⟨hP.a.FD,hm,by simp only[bp];omega⟩,fun h2=>?_,fun h2=>?_⟩,fun h1=>?_⟩,fun c hJ=>⟨fun h1=>(fT fun hM=>hJ.1 h1 (spl.1 hM).1).symm,fun h1=>?_⟩⟩
 ·have i1:=(hIm _ h1).1 rfl;have i2:=(hPl _ h2).1 rfl;refine⟨⟨⟨sig,hP⟩,hin i1,i2.1⟩,fun h3=>?_,fun h3=>?_⟩
  ·have i3:=(hPa _ h3).1 rfl;refine⟨⟨⟨sig,hP⟩,hin i1,i2.1⟩,?_⟩;cases h4:kv I ar m with
   | true=>exact iff_of_false (by simp) fun h=>h ⟨i1,i2,i3,(hKi _ h4).1 rfl⟩
   | false=>exact iff_of_true rfl fun h=>by have:=(hKi _ h4).2 h.2.2.2;cases this
  ·exact iff_of_true rfl fun h=>by have:=(hPa _ h3).2 h.2.2.1;cases this
 ·exact iff_of_true rfl fun h=>by have:=(hPl _ h2).2 h.2.1;cases this
 ·exact iff_of_true rfl fun h=>by have:=(hIm _ h1).2 h.1;cases this
 ·have hA:=Classical.not_not.1 fun h=>by rw[hJ.2 h] at h1;cases h1
  refine⟨⟨⟨sig,hP⟩,hin hA.1,hA.1.2⟩,?_⟩
  by_cases hL:lz I ar m.nodes
  ·rw[jo,kp hL];exact (kQ.2 (spl.2 ⟨hA,hL⟩)).symm
  ·rw[jo,j0 hL];exact (fT fun hM=>hL hM.2.2.2).symm
end Go.Ab.Vg
namespace Go.Ab.Vg
def eE (I ar:aD) (nodes:List Int):List Int:=(List.range I.roots.toNat).map fun r:Nat=>(at' ar.nodes (at' nodes (at' (dG I (-1 - (r:Int))) 0))).parent
def qP (I ar:aD) (nodes:List Int) (x:Int):Bool:=
 decide ((at' ar.nodes x).control=(at' I.nodes (nodes.length:Int)).control) && !kc nodes x && (decide ((at' I.nodes (nodes.length:Int)).parent<0) || decide ((at' ar.nodes x).parent=at' nodes (at' I.nodes (nodes.length:Int)).parent))
noncomputable def allM (I ar:aD) (rs:List Int->List Int) (can:List Int->Int->Bool):Nat->List Int->List Match
 | 0,nodes=>if fD I ar ⟨nodes,rs nodes⟩ then [⟨nodes,rs nodes⟩] else []
 | k+1,nodes=>(List.range ar.nodes.length).flatMap fun x:Nat=>if can nodes (x:Int) then allM I ar rs can k (nodes++[(x:Int)]) else []
def jd {σ α:Type} (step:σ->α->σ × Bool):List α->σ->σ × Bool
 | [],s=>(s,true)
 | m::l,s=>if (step s m).2 then jd step l (step s m).1 else ((step s m).1,false)
theorem jw {σ α:Type} (step:σ->α->σ × Bool):∀ (l1 l2:List α) (s:σ),jd step (l1++l2) s=if (jd step l1 s).2 then jd step l2 (jd step l1 s).1 else jd step l1 s
 | [],l2,s=>by simp[jd]
 | m::l1,l2,s=>by
  simp only[List.cons_append,jd]
  split
  ·exact jw step l1 l2 _
  ·rename_i h;simp
theorem B4 {σ α:Type} (step:σ->α->σ × Bool) (l1 l2:List α) (s:σ) (h:(jd step l1 s).2=false):jd step (l1++l2) s=jd step l1 s:=by rw[jw,h];rfl
theorem o3 {α:Type} (bZ:Nat):∀ (l:List α) (out:List α),out.length<=bZ->jd (fun (s:List α) (m:α)=>(s++[m],decide ((s++[m]).length<=bZ))) l out=(out++l.take (bZ+1 - out.length),decide (out.length+l.length<=bZ))
 | [],out,h=>by simp[jd,h]
 | m::l,out,h=>by
  have hs:bZ+1 - out.length=(bZ+1 - (out++[m]).length)+1:=by simp;omega
  simp only[jd]
  split
  ·rename_i h1
   have h1':(out++[m]).length<=bZ:=by simpa using h1
   rw[o3 bZ l (out++[m]) h1',hs,List.take_succ_cons];simp only[List.append_assoc,List.singleton_append,List.length_append,List.length_cons,List.length_nil,Prod.mk.injEq,true_and,decide_eq_decide];omega
  ·rename_i h1
   have h1':¬ (out++[m]).length<=bZ:=by simpa using h1
   simp only[List.length_append,List.length_cons,List.length_nil] at h1';have:bZ+1 - out.length=1:=by omega
   simp only[this,List.take_succ_cons,List.take_zero,Prod.mk.injEq,true_and]
   symm
   simp;omega
theorem Cw {α:Type} (n:Nat) (a b:List α) (h:a.length<=n):(a++b).take (n+1)=a++b.take (n - a.length+1):=by
 rw[List.take_append,List.take_of_length_le (by omega),show n+1 - a.length=n - a.length+1 by omega]
theorem kD {α:Type} (f:Nat->List α) (k:Nat):(List.range (k+1)).flatMap f=(List.range k).flatMap f++f k:=by simp[List.range_succ]
theorem ub (I ar:aD) (rs:List Int->List Int) (can:List Int->Int->Bool) (k:Nat) (nodes:List Int):allM I ar rs can (k+1) nodes=(List.range ar.nodes.length).flatMap fun x:Nat=>if can nodes (x:Int) then allM I ar rs can k (nodes++[(x:Int)]) else []:=rfl
theorem BD (I ar:aD) (rs:List Int->List Int) (can:List Int->Int->Bool) (nodes:List Int):allM I ar rs can 0 nodes=if fD I ar ⟨nodes,rs nodes⟩ then [⟨nodes,rs nodes⟩] else []:=rfl
theorem sc {I ar:aD} {rs:List Int->List Int} {can:List Int->Int->Bool}:∀ {k:Nat} {nodes:List Int} {m:Match},m ∈ allM I ar rs can k nodes->fD I ar m=true
 | 0,nodes,m,h=>by
  rw[BD] at h
  split at h
  ·rename_i h1
   rw[List.mem_singleton] at h;rw[h];exact h1
  ·cases h
 | k+1,nodes,m,h=>by
  rw[ub,List.mem_flatMap] at h;obtain⟨x,_,hx⟩:=h
  split at hx
  ·exact sc hx
  ·cases hx
end Go.Ab.Vg
namespace Go.Ab.Vg
abbrev MZ (m:Match):Prop:=m.nodes.length<=1048576/\m.roots.length<=1048576
abbrev nP (l:List Int):List Int:=l
abbrev iO (l:List Int):Prop:=l.length<=1048576
def mN (s:List Int) (Z:(List Int)->Prop):Prop:=
 ∀ c2:Bool,(c2=true->s=[])->((c2=true->Z [])/\(c2=false->(([]:List Int).length+s.length<=1073741824)/\∀ l7:List Int,l7=([]:List Int)++s->Z l7))
theorem Cu (l:List Int) (h:iO l):mN l (fun y=>y=nP l):=by
 unfold mN;intro c hc;refine⟨fun h1=>(hc h1).symm,fun _=>⟨by simp;omega,?_⟩⟩;rintro _ rfl;simp
abbrev xj (l:List Int):List Int:=l
abbrev mB (l:List Int):Prop:=l.length<=1048576
def oX (l:List Int) (Z:(List Int)->Prop):Prop:=
 (([]:List Int).length+l.length<=1073741824)/\∀ l4:List Int,l4=([]:List Int)++l->Z l4
theorem DP (l:List Int) (h:mB l):oX l (fun y=>y=xj l):=by
 unfold oX;refine⟨by simp;omega,?_⟩;rintro _ rfl;simp
abbrev l8 (m:Match):Match:=m
abbrev kO (m:Match):Prop:=MZ m
def jy (m:Match) (Z:Match->Prop):Prop:=
 (iO m.nodes)/\∀ r7:List Int,r7=nP m.nodes->(iO m.roots)/\∀ r10:List Int,r10=nP m.roots->Z (Match.mk r7 r10)
theorem xC (m:Match) (h:kO m):jy m (fun y=>y=l8 m):=by
 unfold jy;simp only[forall_eq,nP];exact⟨h.1,h.2,trivial⟩
abbrev InA (ar:aD) (nodes:List Int):Prop:=∀ i:Int,0<=i->i<nodes.length->0<=at' nodes i/\at' nodes i<ar.nodes.length
theorem InA.snoc {ar:aD} {nodes:List Int} {x:Int} (h:InA ar nodes) (hx:0<=x/\x<ar.nodes.length):InA ar (nodes++[x]):=fun i h0 h1=>by
 obtain⟨k,rfl⟩:∃ k:Nat,i=k:=⟨i.toNat,by omega⟩
 simp only[List.length_append,List.length_cons,List.length_nil] at h1;rcases Nat.lt_or_ge k nodes.length with hk | hk
 ·have:=h k h0 (by omega);rw[cG hk] at this;rw[cG (by simp;omega),List.getElem_append_left hk];exact this
 ·have V:k=nodes.length:=by omega
  subst V;rw[cG (by simp),List.getElem_append_right (Nat.le_refl _)];simpa using hx
theorem kid0 {sig:dE} {I ar:aD} (hP:qt sig I ar) {r:Nat} (hr:(r:Int)<I.roots):0<(dG I (-1 - (r:Int))).length/\0<=at' (dG I (-1 - (r:Int))) 0/\at' (dG I (-1 - (r:Int))) 0<I.nodes.length:=by
 have h1:=hP.red.2.2.1 (-1 - (r:Int)) (by omega) (by omega);have h2:0<(dG I (-1 - (r:Int))).length:=by
  rw[il] at h1;omega
 have h3:at' (dG I (-1 - (r:Int))) 0 ∈ dG I (-1 - (r:Int)):=at_mem ⟨by omega,by omega⟩;rw[dG,rb] at h3;exact⟨h2,h3.1,h3.2.1⟩
abbrev gq (I ar:aD) (nodes:List Int) (k:Nat):List Int:=(List.range k).map fun r:Nat=>(at' ar.nodes (at' nodes (at' (dG I (-1 - (r:Int))) 0))).parent
theorem oA (I ar:aD) (nodes:List Int) (k:Nat):gq I ar nodes (k+1)=gq I ar nodes k++[(at' ar.nodes (at' nodes (at' (dG I (-1 - (k:Int))) 0))).parent]:=by simp[gq,List.range_succ]
theorem rV (I ar:aD) (nodes:List Int):(eE I ar nodes).length=I.roots.toNat:=by simp[eE]
noncomputable abbrev lU (I ar:aD) (nodes:List Int):List Match:=allM I ar (eE I ar) (qP I ar) (I.nodes.length - nodes.length) nodes
noncomputable abbrev ea (I ar:aD) (nodes:List Int) (x:Nat):List Match:=if qP I ar nodes (x:Int) then lU I ar (nodes++[(x:Int)]) else []
theorem mJ {I ar:aD} {nodes:List Int} (h:nodes.length=I.nodes.length):lU I ar nodes=if fD I ar ⟨nodes,eE I ar nodes⟩ then [⟨nodes,eE I ar nodes⟩] else []:=by
 rw[lU,show I.nodes.length - nodes.length=0 by omega];rfl
theorem nR {I ar:aD} {nodes:List Int} (h:nodes.length<I.nodes.length):lU I ar nodes=(List.range ar.nodes.length).flatMap (ea I ar nodes):=by
 obtain⟨q,hq⟩:∃ q,I.nodes.length - nodes.length=q+1:=⟨I.nodes.length - nodes.length - 1,by omega⟩
 rw[lU,hq,ub]
 congr 1
 funext x
 rw[ea,lU,show I.nodes.length - (nodes++[(x:Int)]).length=q by simp;omega]
abbrev Giv (I ar:aD) (nodes:List Int):Prop:=(∃ sig,qt sig I ar)/\nodes.length<=I.nodes.length/\InA ar nodes
abbrev et {σ:Type} (step:σ->Match->σ × Bool) (G:σ->Prop) (I ar:aD) (nodes:List Int) (s:σ):Prop:=Giv I ar nodes/\G s/\∀ s m,G s->(step s m).2=true->G (step s m).1
abbrev eX (I ar:aD) (nodes:List Int):Nat:=I.nodes.length - nodes.length
noncomputable def cz {σ:Type} (step:σ->Match->σ × Bool) (I ar:aD) (nodes:List Int) (s:σ):σ × Bool:=jd step (lU I ar nodes) s
theorem ug {σ:Type} {step:σ->Match->σ × Bool} {G:σ->Prop} (hG:∀ s m,G s->(step s m).2=true->G (step s m).1):∀ (l:List Match) (s:σ),G s->(jd step l s).2=true->G (jd step l s).1
 | [],s,h,_=>h
 | m::l,s,h,h1=>by
  rw[jd] at h1 ⊢
  split at h1
  ·rename_i h2
   rw[if_pos h2];exact ug hG l _ (hG s m h h2) h1
  ·cases h1
def jr {σ:Type} (step:σ->Match->σ × Bool) (G:σ->Prop) (I:aD) (ar:aD) (nodes:List Int) (sG:σ) (Z:σ × Bool->Prop):Prop:=
 ∀ na:Int,na=(nodes.length:Int)->∀ iJ:Int,iJ=(I.nodes.length:Int)->∀ c11:Bool,c11=decide (na=iJ)->((c11=true->aG (σ:=σ × Int × (List Int)) (fun (sG32,v33,l34) K39=>∀ c40:Bool,c40=decide (v33<I.roots)->((c40=true->(bp ((-1) - v33))/\∀ v43:Int,v43=(-1) - v33->(bH I v43)/\∀ r46:(List Int) × (List Int),r46=dJ I v43->((0:Int)<=0/\(0:Int)<r46.1.length)/\∀ x68:Int,x68=at' r46.1 0->(0<=x68/\x68<nodes.length)/\∀ x72:Int,x72=at' nodes x68->(0<=x72/\x72<ar.nodes.length)/\∀ x75:aA,x75=at' ar.nodes x72->(l34.length+1<=1073741824)/\∀ l78:List Int,l78=l34++[x75.parent]->(bp (v33+1))/\∀ v90:Int,v90=v33+1->K39 (sG32,v90,l78))/\(c40=false->(jt I ar (Match.mk nodes l34))/\∀ r93:Bool,r93=isMatch I ar (Match.mk nodes l34)->((r93=true->(kO (Match.mk nodes l34))/\∀ r95:Match,r95=l8 (Match.mk nodes l34)->(G sG32/\MZ r95)/\∀ r109:σ × Bool,r109=step sG32 r95->Z (r109.1,r109.2))/\(r93=false->Z (sG32,true)))))) (sG,0,([]:List Int)))/\(c11=false->(0<=na/\na<I.nodes.length)/\∀ x121:aA,x121=at' I.nodes na->∀ len126:Int,len126=(ar.nodes.length:Int)->aG (σ:=σ × Int) (fun (sG132,fh) K137=>∀ c138:Bool,c138=decide (fh<len126)->((c138=true->(0<=fh/\fh<ar.nodes.length)/\∀ x141:aA,x141=at' ar.nodes fh->cE (fun (J146:Bool->Prop)=>∀ c180:Bool,c180=decide (x141.control ≠ x121.control)->((c180=true->J146 (true))/\(c180=false->(nodes.length<=1048576)/\∀ r183:Bool,r183=kc nodes fh->((r183=true->J146 (true))/\(r183=false->∀ c184:Bool,c184=decide (0<=x121.parent)->((c184=true->(0<=x121.parent/\x121.parent<nodes.length)/\∀ x187:Int,x187=at' nodes x121.parent->∀ c189:Bool,c189=decide (x141.parent ≠ x187)->J146 (c189))/\(c184=false->J146 (false)))))))) (fun b149=>((b149=true->(bp (fh+1))/\∀ v154:Int,v154=fh+1->K137 (sG132,v154))/\(b149=false->(nodes.length+1<=1073741824)/\∀ l159:List Int,l159=nodes++[fh]->(et step G I ar l159 sG132/\eX I ar l159<eX I ar nodes)/\∀ r161:σ × Bool,r161=cz step I ar l159 sG132->((r161.2=true->(bp (fh+1))/\∀ v178:Int,v178=fh+1->K137 (r161.1,v178))/\(r161.2=false->Z (r161.1,false)))))))/\(c138=false->Z (sG132,true)))) (sG,0)))
theorem wy {σ:Type} (step:σ->Match->σ × Bool) (G:σ->Prop) (I ar:aD) (nodes:List Int) (sG:σ) (h:et step G I ar nodes sG):jr step G I ar nodes sG (fun y=>y=cz step I ar nodes sG):=by
 unfold jr;obtain⟨⟨⟨sig,hP⟩,hl,hin⟩,hG,hGs⟩:=h;have hr8:=hP.r.len;have ha8:=hP.a.len;have hrr:=hP.r.roots;have hrs:=hP.r.slen;simp only[forall_eq,decide_eq_true_eq,decide_eq_false_iff_not];refine⟨fun hc=>?_,fun hc=>?_⟩
 ·refine aG.up (τ:=σ × List Int) I.roots.toNat (fun s=>s.2.1) (fun k t=>(t.1,(k:Int),t.2)) (fun _ _=>rfl) (fun k t=>t=(sG,gq I ar nodes k)) (sG,[]) rfl rfl ?_;rintro k _ K hk rfl IH;dsimp only;have hrl:(gq I ar nodes k).length=k:=by simp
  refine⟨fun h1=>?_,fun h1=>?_⟩
  ·obtain⟨k1,k2,k3⟩:=kid0 hP (r:=k) h1;have hx:=hin (at' (dG I (-1 - (k:Int))) 0) k2 (by omega);refine⟨by simp only[bp];omega,⟨by omega,by omega⟩,⟨by omega,by omega⟩,⟨k2,by omega⟩,hx,by omega,by simp only[bp];omega,?_⟩;have:=IH (by omega) (sG,gq I ar nodes (k+1)) rfl;rw[oA] at this;exact this
  ·have hk2:gq I ar nodes k=eE I ar nodes:=by rw[eE,show I.roots.toNat=k by omega]
   rw[hk2];have hMS:MSz ⟨nodes,eE I ar nodes⟩:=⟨by show nodes.length<=_;omega,by show (eE I ar nodes).length<=_;rw[rV];omega⟩
   refine⟨⟨⟨sig,hP⟩,hMS⟩,fun h2=>⟨hMS,⟨hG,hMS⟩,?_⟩,fun h2=>?_⟩
   ·rw[cz,mJ (by omega),if_pos h2,l8,jd,jd];cases h3:(step sG ⟨nodes,eE I ar nodes⟩).2<;>simp[h3,Prod.ext_iff]
   ·rw[cz,mJ (by omega),if_neg (by rw[show fD I ar ⟨nodes,eE I ar nodes⟩=false from h2];simp)];rfl
 ·have hlt:nodes.length<I.nodes.length:=by omega
  have hpar:=(hP.r.xO (i:=(nodes.length:Int)) ⟨by omega,by omega⟩).2;refine⟨⟨by omega,by omega⟩,?_⟩;refine aG.upR ar.nodes.length (fun k s=>jd step ((List.range k).flatMap (ea I ar nodes)) sG=(s,true)/\G s) sG ⟨rfl,hG⟩ ?_;rintro k s K hk ⟨hs,hGk⟩ IH;refine⟨fun h1=>⟨⟨by omega,by omega⟩,?_⟩,fun h1=>?_⟩
  ·refine⟨fun b=>b = !qP I ar nodes (k:Int),⟨fun h2=>?_,fun h2=>⟨by omega,fun h3=>?_,fun h3=>⟨fun h4=>⟨⟨h4,hpar⟩,?_⟩,fun h4=>?_⟩⟩⟩,?_⟩
   ·rw[qP,decide_eq_false h2];rfl
   ·rw[qP,show kc nodes (k:Int)=true from h3];simp
   ·have h2':(at' ar.nodes (k:Int)).control=(at' I.nodes (nodes.length:Int)).control:=by simpa using h2
    rw[qP,decide_eq_true h2',show kc nodes (k:Int)=false from h3,decide_eq_false (show ¬ (at' I.nodes (nodes.length:Int)).parent<0 by omega)];simp
   ·have h2':(at' ar.nodes (k:Int)).control=(at' I.nodes (nodes.length:Int)).control:=by simpa using h2
    rw[qP,decide_eq_true h2',show kc nodes (k:Int)=false from h3,decide_eq_true (show (at' I.nodes (nodes.length:Int)).parent<0 by omega)];simp
   ·rintro b rfl;refine⟨fun h2=>⟨by simp only[bp];omega,?_⟩,fun h2=>?_⟩
    ·have hn:ea I ar nodes k=[]:=by rw[ea,if_neg (by simpa using h2)]
     exact IH (by omega) s ⟨by rw[kD,hn,List.append_nil];exact hs,hGk⟩
    ·have hn:ea I ar nodes k=lU I ar (nodes++[(k:Int)]):=by rw[ea,if_pos (by simpa using h2)]
     refine⟨by omega,⟨⟨⟨⟨sig,hP⟩,by simp;omega,hin.snoc ⟨by omega,by omega⟩⟩,hGk,hGs⟩,by simp only[eX,List.length_append,List.length_cons,List.length_nil];omega⟩,fun h3=>⟨by simp only[bp];omega,?_⟩,fun h3=>?_⟩
     ·refine IH (by omega) _ ⟨?_,ug hGs _ s hGk h3⟩;rw[kD,jw,hs,hn];exact Prod.ext rfl h3
     ·have hst:jd step ((List.range (k+1)).flatMap (ea I ar nodes)) sG=((cz step I ar (nodes++[(k:Int)]) s).1,false):=by
       rw[kD,jw,hs,hn];exact Prod.ext rfl h3
      obtain⟨d,hd⟩:∃ d,ar.nodes.length=(k+1)+d:=⟨ar.nodes.length - (k+1),by omega⟩
      have hT:cz step I ar nodes sG=((cz step I ar (nodes++[(k:Int)]) s).1,false):=by
       rw[cz,nR hlt,hd,List.range_add,List.flatMap_append,B4 _ _ _ _ (by rw[hst]),hst]
      exact hT.symm
  ·rw[cz,nR hlt,show ar.nodes.length=k by omega,hs]
abbrev iZ (m:Match) (out:List Match):Prop:=out.length<=400
abbrev ky (m:Match) (out:List Match):List Match × Bool:=(out++[m],decide ((out++[m]).length<=400))
def mX (m:Match) (v_:List Match) (Z:((List Match) × Bool)->Prop):Prop:=
 (v_.length+1<=1073741824)/\∀ l16:List Match,l16=v_++[m]->∀ len26:Int,len26=(l16.length:Int)->∀ c28:Bool,c28=decide (len26<=400)->Z (l16,c28)
theorem Cq (m:Match) (out:List Match) (h:iZ m out):mX m out (fun y=>y=ky m out):=by
 unfold mX;simp only[forall_eq];refine⟨by omega,?_⟩;rw[ky]
 congr 1
 simp;omega
noncomputable abbrev er (I ar:aD):List Match:=lU I ar []
noncomputable def uk (I ar:aD):List Match × Bool:=if (er I ar).length<=400 then (er I ar,true) else ([],false)
abbrev iT (I ar:aD):Prop:=∃ sig,qt sig I ar
noncomputable abbrev fS (I ar:aD):List Match × Bool:=uk I ar
theorem giv0 {I ar:aD} (h:∃ sig,qt sig I ar):Giv I ar []:=⟨h,by simp,fun i h0 h1=>by simp at h1;omega⟩
def fX (I:aD) (ar:aD) (Z:((List Match) × Bool)->Prop):Prop:=
 (et (fun s m=>ky m s) (fun s=>∀ m,MZ m->iZ m s) I ar [] ([]:List Match))/\∀ r11:(List Match) × Bool,r11=cz (fun s m=>ky m s) I ar [] ([]:List Match)->∀ len20:Int,len20=(r11.1.length:Int)->∀ c22:Bool,c22=decide (400<len20)->((c22=true->Z ([],false))/\(c22=false->Z (r11.1,true)))
theorem tj (I ar:aD) (h:iT I ar):fX I ar (fun y=>y=fS I ar):=by
 unfold fX;have he:cz (fun s m=>ky m s) I ar [] []=((er I ar).take 401,decide ((er I ar).length<=400)):=by
  rw[cz];show jd (fun (s:List Match) (m:Match)=>(s++[m],decide ((s++[m]).length<=400))) (er I ar) []=_;rw[o3 400 _ [] (by simp)];simp
 simp only[forall_eq,decide_eq_true_eq,decide_eq_false_iff_not];rw[he];refine⟨⟨giv0 h,fun m _=>by simp[iZ],fun s m h1 h2 m' _=>by simpa[ky] using h2⟩,fun h1=>?_,fun h1=>?_⟩
 ·rw[List.length_take] at h1;rw[fS,uk,if_neg (by omega)]
 ·rw[List.length_take] at h1;have hl:(er I ar).length<=400:=by omega
  rw[fS,uk,if_pos hl,List.take_of_length_le (by omega)]
noncomputable abbrev a7 (sig:List Control) (I ar:aD):List Match × Bool:=if cV sig I ar then uk I ar else ([],false)
abbrev iL (sig:List Control) (I ar:aD):Prop:=ch sig I ar
def gy (sig:List Control) (I:aD) (ar:aD) (Z:((List Match) × Bool)->Prop):Prop:=
 (ch sig I ar)/\∀ r6:Bool,r6=nW sig I ar->((r6=true->(iT I ar)/\∀ r10:(List Match) × Bool,r10=fS I ar->Z (r10.1,r10.2))/\(r6=false->Z ([],false)))
theorem sO (sig:List Control) (I ar:aD) (h:iL sig I ar):gy sig I ar (fun y=>y=a7 sig I ar):=by
 unfold gy;simp only[forall_eq];refine⟨h,fun h1=>⟨⟨sig,jN h1⟩,?_⟩,fun h1=>?_⟩
 ·rw[a7,if_pos h1]
 ·rw[a7,if_neg (by rw[show cV sig I ar=false from h1];simp)]
theorem CQ {sig:dE} {I ar:aD} {m:Match} (h:m ∈ (a7 sig I ar).1):cV sig I ar=true/\fD I ar m=true:=by
 rw[a7] at h
 split at h
 ·rename_i h1
  rw[uk] at h
  split at h
  ·exact⟨h1,sc h⟩
  ·cases h
 ·cases h
theorem yE {sig:dE} {I ar:aD} {m:Match} (hP:qt sig I ar) (h:fD I ar m=true):m.nodes.length<=8/\m.roots.length<=4:=by
 have hM:=kQ.1 h;have h1:=hM.1.1;have h2:=hM.2.1.1;have:=hP.r.len;have:=hP.r.roots;omega
theorem vM (sig:dE) (I ar:aD):(a7 sig I ar).1.length<=400:=by
 rw[a7]
 split
 ·rw[uk]
  split
  ·assumption
  ·simp
 ·simp
noncomputable abbrev qD (I ar:aD) (nodes:List Int):List Int:=eE I ar nodes
abbrev mh (I ar:aD) (nodes:List Int):Prop:=Giv I ar nodes/\nodes.length=I.nodes.length
def lg (I:aD) (ar:aD) (nodes:List Int) (Z:(List Int)->Prop):Prop:=
 aG (σ:=Int × (List Int)) (fun (r15,l16) K20=>∀ c21:Bool,c21=decide (r15<I.roots)->((c21=true->(bp ((-1) - r15))/\∀ v24:Int,v24=(-1) - r15->(dn I v24)/\∀ r27:List Int,r27=kR I v24->((0:Int)<=0/\(0:Int)<r27.length)/\∀ x29:Int,x29=at' r27 0->(0<=x29/\x29<nodes.length)/\∀ x32:Int,x32=at' nodes x29->(0<=x32/\x32<ar.nodes.length)/\∀ x35:aA,x35=at' ar.nodes x32->(l16.length+1<=1073741824)/\∀ l38:List Int,l38=l16++[x35.parent]->(bp (r15+1))/\∀ v48:Int,v48=r15+1->K20 (v48,l38))/\(c21=false->Z l16))) (0,([]:List Int))
theorem zM (I ar:aD) (nodes:List Int) (h:mh I ar nodes):lg I ar nodes (fun y=>y=qD I ar nodes):=by
 unfold lg;obtain⟨⟨⟨sig,hP⟩,hl,hin⟩,he⟩:=h;have hr8:=hP.r.len;have ha8:=hP.a.len;have hrr:=hP.r.roots;simp only[forall_eq,decide_eq_true_eq,decide_eq_false_iff_not];refine aG.sE I.roots.toNat (fun k t=>t=gq I ar nodes k) [] rfl ?_;rintro k _ K hk rfl IH;dsimp only;have hrl:(gq I ar nodes k).length=k:=by simp
 refine⟨fun h1=>?_,fun h1=>?_⟩
 ·obtain⟨k1,k2,k3⟩:=kid0 hP (r:=k) h1;have hx:=hin (at' (dG I (-1 - (k:Int))) 0) k2 (by omega);refine⟨by simp only[bp];omega,by simp only[dn];omega,⟨by omega,by simp only[kR];omega⟩,⟨k2,by simp only[kR];omega⟩,hx,by omega,by simp only[bp];omega,?_⟩;have:=IH (by omega) (gq I ar nodes (k+1)) rfl;rw[oA] at this;exact this
 ·rw[qD,eE,show I.roots.toNat=k by omega]
abbrev yc (I ar:aD) (nodes:List Int) (x:Int):Bool:=qP I ar nodes x
abbrev pK (I ar:aD) (nodes:List Int) (x:Int):Prop:=(∃ sig,qt sig I ar)/\nodes.length<I.nodes.length/\0<=x/\x<ar.nodes.length
def oo (I:aD) (ar:aD) (nodes:List Int) (x:Int) (Z:Bool->Prop):Prop:=
 ∀ kV:Int,kV=(nodes.length:Int)->cE (fun (J7:Bool->Prop)=>(0<=x/\x<ar.nodes.length)/\∀ x33:aA,x33=at' ar.nodes x->(0<=kV/\kV<I.nodes.length)/\∀ x36:aA,x36=at' I.nodes kV->∀ c38:Bool,c38=decide (x33.control ≠ x36.control)->((c38=true->J7 (true))/\(c38=false->(nodes.length<=1048576)/\∀ r41:Bool,r41=kc nodes x->J7 (r41)))) (fun b10=>((b10=true->Z false)/\(b10=false->(0<=kV/\kV<I.nodes.length)/\∀ x14:aA,x14=at' I.nodes kV->cE (fun (J16:Bool->Prop)=>∀ c22:Bool,c22=decide (x14.parent<0)->((c22=true->J16 (true))/\(c22=false->(0<=x/\x<ar.nodes.length)/\∀ x25:aA,x25=at' ar.nodes x->(0<=x14.parent/\x14.parent<nodes.length)/\∀ x28:Int,x28=at' nodes x14.parent->∀ c30:Bool,c30=decide (x25.parent=x28)->J16 (c30)))) (fun b19=>Z b19))))
theorem DJ (I ar:aD) (nodes:List Int) (x:Int) (h:pK I ar nodes x):oo I ar nodes x (fun y=>y=yc I ar nodes x):=by
 unfold oo;obtain⟨⟨sig,hP⟩,hl,hx⟩:=h;have hr8:=hP.r.len;have hpar:=(hP.r.xO (i:=(nodes.length:Int)) ⟨by omega,by omega⟩).2;simp only[forall_eq,decide_eq_true_eq,decide_eq_false_iff_not];refine⟨fun b=>b=(decide ((at' ar.nodes x).control ≠ (at' I.nodes (nodes.length:Int)).control) || kc nodes x),⟨hx,⟨by omega,by omega⟩,fun h1=>by simp[h1],fun h1=>⟨by omega,by
  rw[show decide ((at' ar.nodes x).control ≠ (at' I.nodes (nodes.length:Int)).control)=false by simpa using h1];rfl⟩⟩,?_⟩
 rintro b rfl;refine⟨fun h1=>?_,fun h1=>⟨⟨by omega,by omega⟩,fun c=>c=(decide ((at' I.nodes (nodes.length:Int)).parent<0) || decide ((at' ar.nodes x).parent=at' nodes (at' I.nodes (nodes.length:Int)).parent)),⟨fun h2=>by simp[h2],fun h2=>⟨hx,⟨by omega,hpar⟩,by rw[decide_eq_false h2];rfl⟩⟩,?_⟩⟩
 ·simp only[Bool.or_eq_true,decide_eq_true_eq] at h1;rw[yc,qP];rcases h1 with h1 | h1
  ·rw[decide_eq_false h1];rfl
  ·rw[h1];simp
 ·rintro c rfl;simp only[Bool.or_eq_false_iff,decide_eq_false_iff_not,Classical.not_not] at h1;rw[yc,qP,decide_eq_true h1.1,h1.2];rfl
abbrev fb (I ar:aD) (nodes:List Int) (bZ:Int):Nat:=I.nodes.length - nodes.length
abbrev eB (I ar:aD) (nodes:List Int) (bZ:Int):Prop:=Giv I ar nodes/\0<=bZ/\bZ<=1000000
noncomputable def dP (I ar:aD) (nodes:List Int) (bZ:Int):List Match:=(lU I ar nodes).take (bZ.toNat+1)
def js (I:aD) (ar:aD) (nodes:List Int) (bZ:Int) (Z:(List Match)->Prop):Prop:=
 ∀ len8:Int,len8=(nodes.length:Int)->∀ gT:Int,gT=(I.nodes.length:Int)->∀ c12:Bool,c12=decide (len8=gT)->((c12=true->(mB nodes)/\∀ r17:List Int,r17=xj nodes->(mh I ar nodes)/\∀ r19:List Int,r19=qD I ar nodes->(mf I ar (Match.mk r17 r19))/\∀ r29:Bool,r29=uH I ar (Match.mk r17 r19)->((r29=true->(([]:List Match).length+1<=1073741824)/\∀ l31:List Match,l31=([]:List Match)++[(Match.mk r17 r19)]->Z l31)/\(r29=false->Z ([]:List Match))))/\(c12=false->aG (σ:=Int × (List Match)) (fun (x47,l48) K52=>cE (fun (J53:Bool->Prop)=>∀ len120:Int,len120=(ar.nodes.length:Int)->∀ c122:Bool,c122=decide (x47<len120)->((c122=true->∀ len124:Int,len124=(l48.length:Int)->∀ c126:Bool,c126=decide (len124<=bZ)->J53 (c126))/\(c122=false->J53 (false)))) (fun b56=>((b56=true->(pK I ar nodes x47)/\∀ r61:Bool,r61=yc I ar nodes x47->((r61=true->(mB nodes)/\∀ r65:List Int,r65=xj nodes->(r65.length+1<=1073741824)/\∀ l68:List Int,l68=r65++[x47]->∀ len69:Int,len69=(l48.length:Int)->(bp (bZ - len69))/\∀ v72:Int,v72=bZ - len69->(eB I ar l68 v72/\fb I ar l68 v72<fb I ar nodes bZ)/\∀ r75:List Match,r75=dP I ar l68 v72->(l48.length+r75.length<=1073741824)/\∀ l77:List Match,l77=l48++r75->(bp (x47+1))/\∀ v115:Int,v115=x47+1->K52 (v115,l77))/\(r61=false->(bp (x47+1))/\∀ v118:Int,v118=x47+1->K52 (v118,l48))))/\(b56=false->Z l48)))) (0,([]:List Match))))
theorem wq (I ar:aD) (nodes:List Int) (bZ:Int) (h:eB I ar nodes bZ):js I ar nodes bZ (fun y=>y=dP I ar nodes bZ):=by
 unfold js;obtain⟨⟨⟨sig,hP⟩,hl,hin⟩,hm0,hm1⟩:=h;have hr8:=hP.r.len;have ha8:=hP.a.len;have hrr:=hP.r.roots;simp only[forall_eq,decide_eq_true_eq,decide_eq_false_iff_not,xj];refine⟨fun hc=>?_,fun hc=>?_⟩
 ·have hMS:MSz ⟨nodes,eE I ar nodes⟩:=⟨by show nodes.length<=_;omega,by show (eE I ar nodes).length<=_;rw[rV];omega⟩
  refine⟨by omega,⟨⟨⟨sig,hP⟩,hl,hin⟩,by omega⟩,⟨⟨sig,hP⟩,hMS⟩,fun h2=>⟨by simp,?_⟩,fun h2=>?_⟩
  ·rw[dP,mJ (by omega),if_pos h2,List.take_of_length_le (by simp)];rfl
  ·rw[dP,mJ (by omega),if_neg (by rw[show fD I ar ⟨nodes,eE I ar nodes⟩=false from h2];simp)];rfl
 ·have hlt:nodes.length<I.nodes.length:=by omega
  refine aG.sE ar.nodes.length (fun k out=>out=((List.range k).flatMap (ea I ar nodes)).take (bZ.toNat+1)) [] rfl ?_;rintro k _ K hk rfl IH;dsimp only;have hol:=List.length_take_le (bZ.toNat+1) ((List.range k).flatMap (ea I ar nodes));refine⟨fun b=>b=(decide ((k:Int)<ar.nodes.length) && decide ((((List.range k).flatMap (ea I ar nodes)).take (bZ.toNat+1)).length<=bZ)),⟨fun h1=>by simp[h1],fun h1=>by simp[h1]⟩,?_⟩;rintro b rfl;refine⟨fun h1=>?_,fun h1=>?_⟩
  ·simp only[Bool.and_eq_true,decide_eq_true_eq] at h1;obtain⟨h1,h2⟩:=h1;rw[List.length_take] at h2;have hle:((List.range k).flatMap (ea I ar nodes)).length<=bZ.toNat:=by omega
   have he:((List.range k).flatMap (ea I ar nodes)).take (bZ.toNat+1)=(List.range k).flatMap (ea I ar nodes):=List.take_of_length_le (by omega);rw[he] at hol ⊢;have hsucc:((List.range (k+1)).flatMap (ea I ar nodes)).take (bZ.toNat+1)=(List.range k).flatMap (ea I ar nodes)++(ea I ar nodes k).take (bZ.toNat - ((List.range k).flatMap (ea I ar nodes)).length+1):=by
    rw[kD,Cw _ _ _ hle]
   refine⟨⟨⟨sig,hP⟩,hlt,by omega,by omega⟩,fun h3=>⟨by omega,by omega,by simp only[bp];omega,⟨⟨⟨⟨sig,hP⟩,by simp;omega,hin.snoc ⟨by omega,by omega⟩⟩,by omega,by omega⟩,by simp only[fb,List.length_append,List.length_cons,List.length_nil];omega⟩,?_,by simp only[bp];omega,?_⟩,fun h3=>⟨by simp only[bp];omega,?_⟩⟩
   ·have:=List.length_take_le ((bZ - ((List.range k).flatMap (ea I ar nodes)).length).toNat+1) (lU I ar (nodes++[(k:Int)]));rw[dP];omega
   ·refine IH (by omega) _ ?_;rw[hsucc,ea,if_pos h3,dP,show (bZ - (((List.range k).flatMap (ea I ar nodes)).length:Int)).toNat=bZ.toNat - ((List.range k).flatMap (ea I ar nodes)).length by omega]
   ·refine IH (by omega) _ ?_;rw[hsucc,ea,if_neg (by rw[show qP I ar nodes (k:Int)=false from h3];simp)];simp
  ·rw[dP,nR hlt]
   by_cases hk2:k=ar.nodes.length
   ·rw[hk2]
   ·simp only[Bool.and_eq_false_iff,decide_eq_false_iff_not] at h1;have h2:¬ ((((List.range k).flatMap (ea I ar nodes)).take (bZ.toNat+1)).length:Int)<=bZ:=h1.resolve_left (by omega);rw[List.length_take] at h2;obtain⟨d,hd⟩:∃ d,ar.nodes.length=k+d:=⟨ar.nodes.length - k,by omega⟩
    rw[hd,List.range_add,List.flatMap_append,List.take_append_of_le_length (by omega)]
noncomputable abbrev wj (I ar:aD):List Match:=(er I ar).take 401
abbrev po (I ar:aD):Prop:=∃ sig,qt sig I ar
def o9 (I:aD) (ar:aD) (Z:(List Match)->Prop):Prop:=
 (eB I ar ([]:List Int) 400)/\∀ r7:List Match,r7=dP I ar ([]:List Int) 400->∀ iJ:Int,iJ=(r7.length:Int)->∀ c11:Bool,c11=decide (400<iJ)->((c11=true->((0:Int)<=0/\(0:Int)<=401/\(401:Int)<=r7.length)/\∀ l14:List Match,l14=(r7.take 401).drop 0->Z l14)/\(c11=false->Z r7))
theorem Eb (I ar:aD) (h:po I ar):o9 I ar (fun y=>y=wj I ar):=by
 unfold o9;have he:dP I ar [] 400=(er I ar).take 401:=rfl;simp only[forall_eq,decide_eq_true_eq,decide_eq_false_iff_not];rw[he];have hl:=List.length_take_le 401 (er I ar);refine⟨⟨giv0 h,by omega,by omega⟩,fun h1=>⟨⟨by omega,by omega,by omega⟩,?_⟩,fun _=>rfl⟩;rw[wj,List.take_take];rfl
noncomputable abbrev dF (sig:List Control) (I ar:aD):List Match × Bool:=a7 sig I ar
abbrev gI (sig:List Control) (I ar:aD):Prop:=ch sig I ar
def fq (sig:List Control) (I:aD) (ar:aD) (Z:((List Match) × Bool)->Prop):Prop:=
 (nT sig I ar)/\∀ r6:Bool,r6=Ak sig I ar->((r6=true->(po I ar)/\∀ r10:List Match,r10=wj I ar->∀ pd:Int,pd=(r10.length:Int)->∀ c13:Bool,c13=decide (400<pd)->((c13=true->Z (([]:List Match),false))/\(c13=false->Z (r10,true))))/\(r6=false->Z (([]:List Match),false)))
theorem sb (sig:List Control) (I ar:aD) (h:gI sig I ar):fq sig I ar (fun y=>y=dF sig I ar):=by
 unfold fq;simp only[forall_eq,decide_eq_true_eq,decide_eq_false_iff_not,wj];refine⟨h,fun h1=>⟨⟨sig,jN h1⟩,fun h2=>?_,fun h2=>?_⟩,fun h1=>?_⟩
 ·rw[List.length_take] at h2;rw[dF,a7,if_pos h1,uk,if_neg (by omega)]
 ·rw[List.length_take] at h2;have hl:(er I ar).length<=400:=by omega
  rw[dF,a7,if_pos h1,uk,if_pos hl,List.take_of_length_le (by omega)]
 ·rw[dF,a7,if_neg (by rw[show cV sig I ar=false from h1];simp)]
end Go.Ab.Vg
namespace Go.Ab
theorem qU:∀ (ns:List Int) (s:Array UInt8),ns.foldl (fun r n=>r.push (UInt8.ofNat n.toNat)) (ByteArray.mk s)=ByteArray.mk (s++(ns.map fun n=>UInt8.ofNat n.toNat).toArray)
 | [],s=>by simp
 | n::ns,s=>by
  have h:(ByteArray.mk s).push (UInt8.ofNat n.toNat)=ByteArray.mk (s.push (UInt8.ofNat n.toNat)):=rfl;rw[List.foldl_cons,h,qU ns]
  congr 1
  simp
theorem oh {P:Program} {N:Nat} {Ty:Types} (hT:aX P Ty) {O:Env} {H:az} {n:Nat} {d:Option Tmp} {ty:TypeId} {pos:String} {af:Array Edge} {gu:Option (Nat × Bool)} {s t:TypeId} {x:Operand} {j:TI} {els:List (List au)} {ns:List Int}
  (hs:kd Ty s = .slice j) (hj:j.desc = .int .u8) (ht:kd Ty t = .string) (hx:dq H (O.ev x)=some els) (hn:els=ns.map fun n=>[.v (.int .u8 n)]) :
  aO P N ⟨d,.convert s t x,ty,pos,af,gu⟩ O H n fun v1 H1 U=>v1=str (ns.map fun n=>UInt8.ofNat n.toNat)/\H1=H/\U=n:=by
 refine aO.ef fun c a hH hn' g r=>?_
 subst hH hn';obtain⟨i1,e,hi1,hd1,he⟩:=cC hs;obtain⟨i2,hi2,hd2⟩:=j1 ht;have d1:=(hT s i1 hi1).1;rw[hd1] at d1;have d2:=(hT t i2 hi2).1;rw[hd2] at d2;have d3:=(hT e j he).1;rw[hj] at d3;have hsrc:=iP (sz:=1) g (r.ev x) hx (by subst hn;simp);refine⟨_,.string ⟨(ns.map fun n=>UInt8.ofNat n.toNat).toArray⟩,c,?_,⟨rfl,rfl,rfl⟩,.v _,g,bh.refl c⟩;rcases hsrc with ⟨h1,h2⟩ | ⟨ad,cap,news,h1,h2,h3,h4⟩
 ·have h0:ns=[]:=by rw[h2] at hn;simpa using hn.symm
  subst h0;have:=run_convert_bytes_string (P:=P) c.w s t e none 0 0 d1 d3 d2;simp[execOp,h1,this,Conv.bytesToString,Sem.run_pure]
  rfl
 ·have hnews:news=ns.map (Value.int .u8):=by
   apply List.ext_getElem?;intro q;rcases Nat.lt_or_ge q ns.length with hq | hq
   ·have hel:els[q]?=some [.v (.int .u8 ns[q])]:=by rw[hn];simp[hq]
    obtain⟨_,h5⟩:=h4 q _ hel;obtain⟨u,hu,hr⟩:=h5 0 _ rfl;simp only[Nat.mul_one,Nat.add_zero] at hu;rw[hu,hr.bS];simp[hq]
   ·rw[List.getElem?_eq_none (by rw[h2,hn];simpa using hq),List.getElem?_eq_none (by simpa using hq)]
  have hl:=run_loadCells_list (P:=P) c.w ad news h3;have hlen:news.length=els.length:=by rw[h2,Nat.mul_one]
  rw[hlen,hnews] at hl;have h5:=run_bytesToString c.w ad els.length cap ns hl;have h6:=run_convert_bytes_string (P:=P) c.w s t e (some ad) els.length cap d1 d3 d2;have h7:=qU ns #[];have h8:(ByteArray.empty:ByteArray)=ByteArray.mk #[]:=rfl;simp[execOp,h1,h6,h5,h8,h7]
end Go.Ab
namespace Go.Ab
open Go.Proofs
def CM (k:Nat) (out:cB):cB:=if k=0 then out else CM (k / 10) (UInt8.ofNat (48+k % 10)::out)
 termination_by k
 decreasing_by omega
def mS (k:Nat):cB:=if k=0 then [109,48] else 109::CM k []
theorem wrap_u8 {a:Int} (h:0<=a) (h2:a<256):IntKind.u8.wrap a=a:=by
 unfold IntKind.wrap;simp[IntKind.min,IntKind.max,IntKind.bits,IntKind.signed];omega
theorem e45:aW prog 45:=aW.of func45 (by kernel_rfl) rfl
set_option maxRecDepth 20000 in
theorem x7 (k:Nat) (hk:k<=1152921504606846976):aB prog 45 [int k] (fun r=>r=str (mS k)):=by
 refine aB.of func45 rfl ntmps45 (by simp) fun Q hQ=>?_
 refine zE fun _ V=>?_
 simp;apply V;refine zS fun _ V=>?_
 simp;apply V;refine J.ite rfl (fun hc1 => ?_) (fun hc1 => ?_)
 ·simp at hc1;refine zE fun _ V=>?_
  simp;apply V;refine J.ret func45 (aN.one results45) (hQ _ _ _ _ (.v _ _ _) ?_);simp[mS,hc1]
 ·simp at hc1;apply J.skip;refine zE fun _ V=>?_
  simp;apply V;apply J.seq;refine J.block (J.Ec (fun m O H n=>O 0=int m/\∃ out:cB,O 3=str out/\out.length+m<=k/\CM m out=CM k []) k ?_ ?_)
  ·simp
  ·rintro m O H n ⟨h0,out,h3,hlen,hd⟩ IH;refine zS fun _ V=>?_
   simp [h0];apply V;refine J.ite rfl (fun hc2 => ?_) (fun hc2 => ?_)
   ·simp at hc2;apply J.skip;apply J.block;refine zE fun _ V=>?_
    obtain⟨g,hg⟩:∃ g:Nat,g=48+m % 10:=⟨_,rfl⟩
    obtain⟨q,hq'⟩:∃ q:Nat,q=m / 10:=⟨_,rfl⟩
    have hq:((m:Int).tdiv 10)=(q:Int):=by rw[Int.tdiv_eq_ediv_of_nonneg (by omega)];omega
    have hw:IntKind.i64.wrap (48+((m:Int).tmod 10))=(g:Int):=by
     rw[Int.tmod_eq_emod_of_nonneg (by omega),wrap64]<;>omega
    have hw2:IntKind.i64.wrap (q:Int)=(q:Int):=by rw[wrap64]<;>omega
    have hw3:IntKind.u8.wrap (g:Int)=(g:Int):=wrap_u8 (by omega) (by omega);simp [h0, h3, hw, hw3];refine bE.op aH (by decide) (by decide) rfl (oh (ns:=[(g:Int)]) (els:=[[.v (.int .u8 g)]]) aH FM (by kernel_rfl) kd_9 (by simp[dq]) rfl) ?_;rintro v H' n' ⟨rfl,rfl,rfl⟩;simp[h3,show 1+out.length<4611686018427387904 by omega];apply V;refine zF fun _ V=>?_
    simp [h0, hq, hw2];apply V;apply J.inBlock;refine IH q _ _ _ (by omega) ⟨by simp,UInt8.ofNat g::out,by simp,by simp;omega,?_⟩;rw[<- hd,hg,hq']
    conv=>rhs;rw[CM,if_neg (by omega)]
   ·simp at hc2;subst hc2;rw[CM,if_pos rfl] at hd;refine J.exit rfl ?_;refine zE fun _ V=>?_
    simp [h3, show 1 + out.length < 4611686018427387904 by omega];apply V;refine J.ret func45 (aN.one results45) (hQ _ _ _ _ (.v _ _ _) ?_);simp[mS,hc1,hd,show ¬ k=0 by omega]
end Go.Ab
namespace Go.Ab.Vg
theorem Bn {α:Type} [Inhabited α] {a:List α} {k:Nat} (hk:k<a.length):(a.take k++List.replicate (a.length - k) default).set k a[k]=a.take (k+1)++List.replicate (a.length - (k+1)) default:=by
 rw[List.set_append_right _ _ (by simp;omega)];rw[List.take_succ_eq_append_getElem hk,List.append_assoc]
 congr 1
 have h1:a.length - k=(a.length - (k+1))+1:=by omega
 have h2:k - (a.take k).length=0:=by simp;omega
 rw[h1,h2,List.replicate_succ]
 rfl
abbrev filled {α:Type} [Inhabited α] (a:List α) (k:Nat):List α:=a.take k++List.replicate (a.length - k) default
theorem iU {α:Type} [Inhabited α] {a:List α} {k:Nat} (hk:k<=a.length):(filled a k).length=a.length:=by simp[filled];omega
theorem iI {α:Type} [Inhabited α] {a:List α} {k:Nat} (hk:k<a.length):(filled a k).set k (at' a (k:Int))=filled a (k+1):=by rw[cG hk];exact Bn hk
theorem iF {α:Type} [Inhabited α] (a:List α):filled a a.length=a:=by simp[filled]
theorem gB {α:Type} [Inhabited α] (a:List α):filled a 0=List.replicate a.length default:=by simp[filled]
abbrev uN (a:List Int):=a
abbrev iX (a:List Int):Prop:=a.length<=1048576
def mz (a:List Int) (Z:(List Int)->Prop):Prop:=
 ∀ cq:Int,cq=(a.length:Int)->(0<=cq/\cq<=1073741824)/\∀ l5:List Int,l5=List.replicate cq.toNat default->aG (σ:=Int × (List Int)) (fun (i16,l17) K21=>∀ len22:Int,len22=(a.length:Int)->∀ c24:Bool,c24=decide (i16<len22)->((c24=true->(0<=i16/\i16<a.length)/\∀ x27:Int,x27=at' a i16->(0<=i16/\i16<l17.length)/\∀ x34:Int,x34=at' l17 i16->∀ l37:List Int,l37=l17.set i16.toNat x27->(bp (i16+1))/\∀ v44:Int,v44=i16+1->K21 (v44,l37))/\(c24=false->Z l17))) (0,l5)
theorem CW (a:List Int) (h:iX a):mz a (fun y=>y=uN a):=by
 unfold mz;simp only[iX] at h;simp only[forall_eq,Int.toNat_natCast];refine⟨by omega,aG.sE a.length (fun k out=>out=filled a k) _ (gB a).symm ?_⟩;rintro k out K hk rfl IH;have hl:=iU hk;simp only[decide_eq_true_eq,decide_eq_false_iff_not,bp,Int.toNat_natCast];refine⟨fun h1=>⟨by omega,by omega,by omega,IH (by omega) _ (iI (by omega))⟩,fun h1=>?_⟩;rw[show k=a.length by omega];exact iF a
abbrev pG (a:List cB):=a
abbrev gh (a:List cB):Prop:=a.length<=1048576
def gU (a:List cB) (Z:(List cB)->Prop):Prop:=
 ∀ cq:Int,cq=(a.length:Int)->(0<=cq/\cq<=1073741824)/\∀ l5:List cB,l5=List.replicate cq.toNat default->aG (σ:=Int × (List cB)) (fun (i16,l17) K21=>∀ len22:Int,len22=(a.length:Int)->∀ c24:Bool,c24=decide (i16<len22)->((c24=true->(0<=i16/\i16<a.length)/\∀ x27:cB,x27=at' a i16->(0<=i16/\i16<l17.length)/\∀ x34:cB,x34=at' l17 i16->∀ l37:List cB,l37=l17.set i16.toNat x27->(bp (i16+1))/\∀ v44:Int,v44=i16+1->K21 (v44,l37))/\(c24=false->Z l17))) (0,l5)
theorem uj (a:List cB) (h:gh a):gU a (fun y=>y=pG a):=by
 unfold gU;simp only[gh] at h;simp only[forall_eq,Int.toNat_natCast];refine⟨by omega,aG.sE a.length (fun k out=>out=filled a k) _ (gB a).symm ?_⟩;rintro k out K hk rfl IH;have hl:=iU hk;simp only[decide_eq_true_eq,decide_eq_false_iff_not,bp,Int.toNat_natCast];refine⟨fun h1=>⟨by omega,by omega,by omega,IH (by omega) _ (iI (by omega))⟩,fun h1=>?_⟩;rw[show k=a.length by omega];exact iF a
abbrev jY (a:Control):=a
def kN (a:Control) (Z:Control->Prop):Prop:=
 Z a
theorem uC (a:Control):kN a (fun y=>y=jY a):=rfl
abbrev eT (a:List Control):=a
abbrev cY (a:List Control):Prop:=a.length<=1048576
def gr (a:List Control) (Z:(List Control)->Prop):Prop:=
 ∀ cq:Int,cq=(a.length:Int)->(0<=cq/\cq<=1073741824)/\∀ l5:List Control,l5=List.replicate cq.toNat default->aG (σ:=Int × (List Control)) (fun (i16,l17) K21=>∀ len22:Int,len22=(a.length:Int)->∀ c24:Bool,c24=decide (i16<len22)->((c24=true->(0<=i16/\i16<a.length)/\∀ x27:Control,x27=at' a i16->∀ r29:Control,r29=jY x27->(0<=i16/\i16<l17.length)/\∀ x35:Control,x35=at' l17 i16->∀ l38:List Control,l38=l17.set i16.toNat r29->(bp (i16+1))/\∀ v45:Int,v45=i16+1->K21 (v45,l38))/\(c24=false->Z l17))) (0,l5)
theorem tp (a:List Control) (h:cY a):gr a (fun y=>y=eT a):=by
 unfold gr;simp only[cY] at h;simp only[forall_eq,Int.toNat_natCast];refine⟨by omega,aG.sE a.length (fun k out=>out=filled a k) _ (gB a).symm ?_⟩;rintro k out K hk rfl IH;have hl:=iU hk;simp only[decide_eq_true_eq,decide_eq_false_iff_not,bp,Int.toNat_natCast];refine⟨fun h1=>⟨by omega,by omega,by omega,IH (by omega) _ (iI (by omega))⟩,fun h1=>?_⟩;rw[show k=a.length by omega];exact iF a
abbrev uu (a:aQ):=a
def py (a:aQ) (Z:aQ->Prop):Prop:=
 Z a
theorem CC (a:aQ):py a (fun y=>y=uu a):=rfl
abbrev uT (a:List aQ):=a
abbrev jm (a:List aQ):Prop:=a.length<=1048576
def lf (a:List aQ) (Z:(List aQ)->Prop):Prop:=
 ∀ cq:Int,cq=(a.length:Int)->(0<=cq/\cq<=1073741824)/\∀ l5:List aQ,l5=List.replicate cq.toNat default->aG (σ:=Int × (List aQ)) (fun (i16,l17) K21=>∀ len22:Int,len22=(a.length:Int)->∀ c24:Bool,c24=decide (i16<len22)->((c24=true->(0<=i16/\i16<a.length)/\∀ x27:aQ,x27=at' a i16->∀ r29:aQ,r29=uu x27->(0<=i16/\i16<l17.length)/\∀ x35:aQ,x35=at' l17 i16->∀ l38:List aQ,l38=l17.set i16.toNat r29->(bp (i16+1))/\∀ v45:Int,v45=i16+1->K21 (v45,l38))/\(c24=false->Z l17))) (0,l5)
theorem zc (a:List aQ) (h:jm a):lf a (fun y=>y=uT a):=by
 unfold lf;simp only[jm] at h;simp only[forall_eq,Int.toNat_natCast];refine⟨by omega,aG.sE a.length (fun k out=>out=filled a k) _ (gB a).symm ?_⟩;rintro k out K hk rfl IH;have hl:=iU hk;simp only[decide_eq_true_eq,decide_eq_false_iff_not,bp,Int.toNat_natCast];refine⟨fun h1=>⟨by omega,by omega,by omega,IH (by omega) _ (iI (by omega))⟩,fun h1=>?_⟩;rw[show k=a.length by omega];exact iF a
abbrev q8 (a:aA):=a
abbrev nH (a:aA):Prop:=a.links.length<=1048576
def mD (a:aA) (Z:aA->Prop):Prop:=
 (iX a.links)/\∀ r10:List Int,r10=uN a.links->Z (aA.mk a.control a.parent r10)
theorem BA (a:aA) (h:nH a):mD a (fun y=>y=q8 a):=by
 unfold mD;exact⟨h,by rintro _ rfl;rfl⟩
abbrev u9 (a:List aA):=a
abbrev lx (a:List aA):Prop:=a.length<=1048576/\∀ x ∈ a,x.links.length<=1048576
def kG (a:List aA) (Z:(List aA)->Prop):Prop:=
 ∀ cq:Int,cq=(a.length:Int)->(0<=cq/\cq<=1073741824)/\∀ l5:List aA,l5=List.replicate cq.toNat default->aG (σ:=Int × (List aA)) (fun (i16,l17) K21=>∀ len22:Int,len22=(a.length:Int)->∀ c24:Bool,c24=decide (i16<len22)->((c24=true->(0<=i16/\i16<a.length)/\∀ x27:aA,x27=at' a i16->(nH x27)/\∀ r30:aA,r30=q8 x27->(0<=i16/\i16<l17.length)/\∀ x44:aA,x44=at' l17 i16->∀ l63:List aA,l63=l17.set i16.toNat r30->(bp (i16+1))/\∀ v70:Int,v70=i16+1->K21 (v70,l63))/\(c24=false->Z l17))) (0,l5)
theorem zD (a:List aA) (h:lx a):kG a (fun y=>y=u9 a):=by
 unfold kG;obtain⟨h,h'⟩:=h;simp only[forall_eq,Int.toNat_natCast];refine⟨by omega,aG.sE a.length (fun k out=>out=filled a k) _ (gB a).symm ?_⟩;rintro k out K hk rfl IH;have hl:=iU hk;simp only[decide_eq_true_eq,decide_eq_false_iff_not,bp,Int.toNat_natCast];refine⟨fun h1=>⟨by omega,?_,by omega,by omega,IH (by omega) _ (iI (by omega))⟩,fun h1=>?_⟩
 ·rw[cG (show k<a.length by omega)];exact h' _ (List.getElem_mem _)
 ·rw[show k=a.length by omega];exact iF a
abbrev cr (a:aD):=a
abbrev bW (a:aD):Prop:=(a.nodes.length<=1048576/\∀ x ∈ a.nodes,x.links.length<=1048576)/\a.sites.length<=1048576/\a.outer.length<=1048576/\a.inner.length<=1048576
def ie (a:aD) (Z:aD->Prop):Prop:=
 (lx a.nodes)/\∀ r9:List aA,r9=u9 a.nodes->(iX a.sites)/\∀ r21:List Int,r21=uN a.sites->(gh a.outer)/\∀ r37:List cB,r37=pG a.outer->(jm a.inner)/\∀ r51:List aQ,r51=uT a.inner->Z (aD.mk a.roots r9 r21 a.edges r37 r51)
theorem vK (a:aD) (h:bW a):ie a (fun y=>y=cr a):=by
 unfold ie;simp only[forall_eq];exact⟨h.1,h.2.1,h.2.2.1,h.2.2.2,trivial⟩
def dK {α:Type} (g:α->Int->α) (c:Int) (l:List α) (k:Int) (i:Nat):List α:=l.mapIdx fun j x=>if j<i then g x (k+c * j) else x
def j9 {α:Type} (g:α->Int->α) (c:Int) (l:List α) (k:Int):List α × Int:=(dK g c l k l.length,k+c * l.length)
section
variable {α:Type} (g:α->Int->α) (c:Int) (l:List α) (k:Int)
theorem hU:dK g c l k 0=l:=by
 apply List.ext_getElem
 ·simp[dK]
 ·intro j h1 h2;simp[dK]
theorem eZ (i:Nat):(dK g c l k i).length=l.length:=by simp[dK]
theorem jF {i:Nat} (hi:i<l.length):(dK g c l k i).set i (g l[i] (k+c * i))=dK g c l k (i+1):=by
 apply List.ext_getElem
 ·simp[dK]
 ·intro j h1 h2;simp only[List.getElem_set,dK,List.getElem_mapIdx]
  by_cases hj:i=j
  ·subst hj;simp
  ·rw[if_neg hj]
   by_cases h3:j<i
   ·rw[if_pos h3,if_pos (by omega)]
   ·rw[if_neg h3,if_neg (by omega)]
end
def eA (k:Int):cB:=mS k.toNat
abbrev ep (k:Int):Prop:=0<=k/\k<=1152921504606846976
abbrev sx (c n k:Int):Prop:=0<=k/\n<=1048576/\k+c * n<=1152921504606846976
abbrev bG (l:List Int) (k:Int):=j9 (fun _ k=>k) 1 l k
abbrev fG (l:List Int) (k:Int):Prop:=sx 1 l.length k
def ji (a:List Int) (k_:Int) (Z:((List Int) × Int)->Prop):Prop:=
 aG (σ:=Int × Int × (List Int)) (fun (k10,i11,l12) K15=>∀ len16:Int,len16=(l12.length:Int)->∀ c18:Bool,c18=decide (i11<len16)->((c18=true->(0<=i11/\i11<l12.length)/\∀ x25:Int,x25=at' l12 i11->∀ l28:List Int,l28=l12.set i11.toNat k10->(bp (k10+1))/\∀ v34:Int,v34=k10+1->(bp (i11+1))/\∀ v37:Int,v37=i11+1->K15 (v34,v37,l28))/\(c18=false->Z (l12,k10)))) (k_,0,a)
theorem xr (l:List Int) (k:Int) (h:fG l k):ji l k (fun y=>y=bG l k):=by
 unfold ji;obtain⟨h1,h2,h3⟩:=h;refine aG.up l.length (fun s=>s.2.1) (fun i t=>(k+1 * i,(i:Int),t)) (fun _ _=>rfl) (fun i out=>out=dK (fun _ k=>k) 1 l k i) l (by simp) (hU _ _ _ _).symm ?_;rintro i out K hk rfl IH;have hl:=eZ (fun _ k=>k) 1 l k i;simp only[forall_eq,decide_eq_true_eq,decide_eq_false_iff_not,bp,Int.toNat_natCast];refine⟨fun h4=>⟨by omega,by omega,by omega,?_⟩,fun h4=>?_⟩
 ·have hi:i<l.length:=by omega
  have:=IH hi _ rfl;rw[<- jF _ _ _ _ hi] at this;rw[show k+1 * (((i+1:Nat)):Int)=k+1 * i+1 by omega] at this;simpa using this
 ·rw[show i=l.length by omega]
  rfl
abbrev fa (l:List cB) (k:Int):=j9 (fun _ k=>eA k) 1 l k
abbrev gK (l:List cB) (k:Int):Prop:=sx 1 l.length k
def fA (a:List cB) (k_:Int) (Z:((List cB) × Int)->Prop):Prop:=
 aG (σ:=Int × Int × (List cB)) (fun (k10,i11,l12) K15=>∀ len16:Int,len16=(l12.length:Int)->∀ c18:Bool,c18=decide (i11<len16)->((c18=true->(ep k10)/\∀ r21:cB,r21=eA k10->(0<=i11/\i11<l12.length)/\∀ x27:cB,x27=at' l12 i11->∀ l30:List cB,l30=l12.set i11.toNat r21->(bp (k10+1))/\∀ v36:Int,v36=k10+1->(bp (i11+1))/\∀ v39:Int,v39=i11+1->K15 (v36,v39,l30))/\(c18=false->Z (l12,k10)))) (k_,0,a)
theorem sA (l:List cB) (k:Int) (h:gK l k):fA l k (fun y=>y=fa l k):=by
 unfold fA;obtain⟨h1,h2,h3⟩:=h;refine aG.up l.length (fun s=>s.2.1) (fun i t=>(k+1 * i,(i:Int),t)) (fun _ _=>rfl) (fun i out=>out=dK (fun _ k=>eA k) 1 l k i) l (by simp) (hU _ _ _ _).symm ?_;rintro i out K hk rfl IH;have hl:=eZ (fun _ k=>eA k) 1 l k i;simp only[forall_eq,decide_eq_true_eq,decide_eq_false_iff_not,bp,Int.toNat_natCast];refine⟨fun h4=>⟨by simp only[ep];omega,by omega,by omega,by omega,?_⟩,fun h4=>?_⟩
 ·have hi:i<l.length:=by omega
  have:=IH hi _ rfl;rw[<- jF _ _ _ _ hi] at this;rw[show k+1 * (((i+1:Nat)):Int)=k+1 * i+1 by omega] at this;simpa using this
 ·rw[show i=l.length by omega]
  rfl
theorem um {α:Type} [Inhabited α] {l:List α} {i:Nat} {x:α} (hi:i<l.length):at' (l.set i x) (i:Int)=x:=by
 rw[cG (by simpa using hi)];simp
abbrev iv (l:List aQ) (k:Int):=j9 (fun _ k=>(⟨eA k,k+1⟩:aQ)) 2 l k
abbrev jR (l:List aQ) (k:Int):Prop:=sx 2 l.length k
def im (a:List aQ) (k_:Int) (Z:((List aQ) × Int)->Prop):Prop:=
 aG (σ:=Int × Int × (List aQ)) (fun (k10,i11,l12) K15=>∀ len16:Int,len16=(l12.length:Int)->∀ c18:Bool,c18=decide (i11<len16)->((c18=true->(ep k10)/\∀ r21:cB,r21=eA k10->(0<=i11/\i11<l12.length)/\∀ x27:aQ,x27=at' l12 i11->∀ l30:List aQ,l30=l12.set i11.toNat (aQ.mk r21 x27.link)->(bp (k10+1))/\∀ v36:Int,v36=k10+1->(0<=i11/\i11<l30.length)/\∀ x44:aQ,x44=at' l30 i11->∀ l47:List aQ,l47=l30.set i11.toNat (aQ.mk x44.name v36)->(bp (v36+1))/\∀ v53:Int,v53=v36+1->(bp (i11+1))/\∀ v56:Int,v56=i11+1->K15 (v53,v56,l47))/\(c18=false->Z (l12,k10)))) (k_,0,a)
theorem uM (l:List aQ) (k:Int) (h:jR l k):im l k (fun y=>y=iv l k):=by
 unfold im;obtain⟨h1,h2,h3⟩:=h;refine aG.up l.length (fun s=>s.2.1) (fun i t=>(k+2 * i,(i:Int),t)) (fun _ _=>rfl) (fun i out=>out=dK (fun _ k=>(⟨eA k,k+1⟩:aQ)) 2 l k i) l (by simp) (hU _ _ _ _).symm ?_;rintro i out K hk rfl IH;have hl:=eZ (fun _ k=>(⟨eA k,k+1⟩:aQ)) 2 l k i;simp only[forall_eq,decide_eq_true_eq,decide_eq_false_iff_not,bp,Int.toNat_natCast,List.length_set];refine⟨fun h4=>⟨by simp only[ep];omega,by omega,by omega,by omega,by omega,by omega,?_⟩,fun h4=>?_⟩
 ·have hi:i<l.length:=by omega
  rw[um (by rw[hl];exact hi),List.set_set];have:=IH hi _ rfl;rw[<- jF _ _ _ _ hi] at this;rw[show k+2 * (((i+1:Nat)):Int)=k+2 * i+1+1 by omega] at this;simpa using this
 ·rw[show i=l.length by omega]
  rfl
abbrev dH (l:List Control) (k:Int):=j9 (fun _ k=>(⟨eA k,k+1,k+1+1⟩:Control)) 3 l k
abbrev fU (l:List Control) (k:Int):Prop:=sx 3 l.length k
def eO (a:List Control) (k_:Int) (Z:((List Control) × Int)->Prop):Prop:=
 aG (σ:=Int × Int × (List Control)) (fun (k10,i11,l12) K15=>∀ len16:Int,len16=(l12.length:Int)->∀ c18:Bool,c18=decide (i11<len16)->((c18=true->(ep k10)/\∀ r21:cB,r21=eA k10->(0<=i11/\i11<l12.length)/\∀ x27:Control,x27=at' l12 i11->∀ l30:List Control,l30=l12.set i11.toNat (Control.mk r21 x27.ports x27.kind)->(bp (k10+1))/\∀ v36:Int,v36=k10+1->(0<=i11/\i11<l30.length)/\∀ x44:Control,x44=at' l30 i11->∀ l47:List Control,l47=l30.set i11.toNat (Control.mk x44.name v36 x44.kind)->(bp (v36+1))/\∀ v53:Int,v53=v36+1->(0<=i11/\i11<l47.length)/\∀ x61:Control,x61=at' l47 i11->∀ l64:List Control,l64=l47.set i11.toNat (Control.mk x61.name x61.ports v53)->(bp (v53+1))/\∀ v70:Int,v70=v53+1->(bp (i11+1))/\∀ v73:Int,v73=i11+1->K15 (v70,v73,l64))/\(c18=false->Z (l12,k10)))) (k_,0,a)
theorem qm (l:List Control) (k:Int) (h:fU l k):eO l k (fun y=>y=dH l k):=by
 unfold eO;obtain⟨h1,h2,h3⟩:=h;refine aG.up l.length (fun s=>s.2.1) (fun i t=>(k+3 * i,(i:Int),t)) (fun _ _=>rfl) (fun i out=>out=dK (fun _ k=>(⟨eA k,k+1,k+1+1⟩:Control)) 3 l k i) l (by simp) (hU _ _ _ _).symm ?_;rintro i out K hk rfl IH;have hl:=eZ (fun _ k=>(⟨eA k,k+1,k+1+1⟩:Control)) 3 l k i;simp only[forall_eq,decide_eq_true_eq,decide_eq_false_iff_not,bp,Int.toNat_natCast,List.length_set];refine⟨fun h4=>⟨by simp only[ep];omega,by omega,by omega,by omega,by omega,by omega,by omega,by omega,?_⟩,fun h4=>?_⟩
 ·have hi:i<l.length:=by omega
  rw[um (by rw[hl];exact hi),List.set_set,um (by simp only[List.length_set,hl];exact hi),List.set_set];have:=IH hi _ rfl;rw[<- jF _ _ _ _ hi] at this;rw[show k+3 * (((i+1:Nat)):Int)=k+3 * i+1+1+1 by omega] at this;simpa using this
 ·rw[show i=l.length by omega]
  rfl
def dB (l:List Int) (k:Int):Int:=if (List.range l.length).all (fun i=>decide (at' l (i:Int)=k+i)) then k+l.length else -1
abbrev ks (l:List Int) (k:Int):Prop:=sx 1 l.length k
def ju (a:List Int) (k_:Int) (Z:Int->Prop):Prop:=
 aG (σ:=Int × Int) (fun (k5,i6) K9=>∀ gT:Int,gT=(a.length:Int)->∀ c12:Bool,c12=decide (i6<gT)->((c12=true->(0<=i6/\i6<a.length)/\∀ x15:Int,x15=at' a i6->∀ c17:Bool,c17=decide (x15 ≠ k5)->((c17=true->Z (-1))/\(c17=false->(bp (k5+1))/\∀ v20:Int,v20=k5+1->(bp (i6+1))/\∀ v23:Int,v23=i6+1->K9 (v20,v23))))/\(c12=false->Z k5))) (k_,0)
theorem xZ (l:List Int) (k:Int) (h:ks l k):ju l k (fun y=>y=dB l k):=by
 unfold ju;obtain⟨h1,h2,h3⟩:=h;refine aG.up (τ:=Unit) l.length (fun s=>s.2) (fun i _=>(k+i,(i:Int))) (fun _ _=>rfl) (fun i _=>∀ j<i,at' l (j:Int)=k+j) () (by simp) (by simp) ?_;rintro i _ K hk hI IH;simp only[forall_eq,decide_eq_true_eq,decide_eq_false_iff_not,bp];refine⟨fun h4=>⟨by omega,fun h5=>?_,fun h5=>⟨by omega,by omega,?_⟩⟩,fun h4=>?_⟩
 ·rw[dB,if_neg];rw[List.all_eq_true];intro h6;exact h5 (by simpa using h6 i (List.mem_range.2 (by omega)))
 ·have:=IH (by omega) () (fun j hj=>by
   rcases Nat.lt_or_ge j i with h6 | h6
   ·exact hI j h6
   ·rw[show j=i by omega];omega)
  simpa[show k+((i:Int)+1)=k+i+1 by omega] using this
 ·have hi:i=l.length:=by omega
  rw[dB,if_pos,hi];rw[List.all_eq_true];intro j hj;simpa using hI j (by have:=List.mem_range.1 hj;omega)
theorem BX (l:List Int) (k:Int):dB (bG l k).1 k=(bG l k).2:=by
 have hl:(bG l k).1.length=l.length:=by simp[bG,j9,eZ]
 rw[dB,if_pos,hl]
 ·simp[bG,j9]
 ·rw[List.all_eq_true];intro j hj;have hj:=List.mem_range.1 hj;rw[cG hj];rw[hl] at hj;simp[bG,j9,dK,hj]
theorem rf {α:Type} (g:α->Int->α) (c:Int) (l:List α) (k:Int):(j9 g c l k).1.length=l.length:=by simp[j9,eZ]
end Go.Ab.Vg
namespace Go.Ab.Vg
section
variable {α:Type} (m:α->Int->α × Int)
def bY:List α->Int->List α × Int
 | [],k=>([],k)
 | x::l,k=>((m x k).1::(bY l (m x k).2).1,(bY l (m x k).2).2)
theorem lF (l1 l2:List α) (k:Int):bY m (l1++l2) k=((bY m l1 k).1++(bY m l2 (bY m l1 k).2).1,(bY m l2 (bY m l1 k).2).2):=by
 induction l1 generalizing k with
 | nil=>rfl
 | cons x l ih=>simp[bY,ih]
theorem lD (l:List α) (k:Int):(bY m l k).1.length=l.length:=by
 induction l generalizing k with
 | nil=>rfl
 | cons x l ih=>simp[bY,ih]
def fO (l:List α) (k:Int) (i:Nat):List α:=(bY m (l.take i) k).1++l.drop i
def gN (l:List α) (k:Int) (i:Nat):Int:=(bY m (l.take i) k).2
theorem wg (l:List α) (k:Int):fO m l k 0=l:=by simp[fO,bY]
theorem Aq (l:List α) (k:Int):fO m l k l.length=(bY m l k).1:=by simp[fO]
theorem sy (l:List α) (k:Int):gN m l k l.length=(bY m l k).2:=by simp[gN]
theorem qS (l:List α) (k:Int) (i:Nat):(fO m l k i).length=l.length:=by
 simp only[fO,List.length_append,lD,List.length_take,List.length_drop];omega
theorem yK [Inhabited α] {l:List α} {k:Int} {i:Nat} (hi:i<l.length):at' (fO m l k i) (i:Int)=l[i]:=by
 rw[cG (by rw[qS];exact hi)];have hl:(bY m (l.take i) k).1.length=i:=by rw[lD];simp;omega
 simp only[fO];rw[List.getElem_append_right (by omega)];simp[hl]
theorem zw {l:List α} {k:Int} {i:Nat} (hi:i<l.length):(fO m l k i).set i (m l[i] (gN m l k i)).1=fO m l k (i+1):=by
 have hl:(bY m (l.take i) k).1.length=i:=by rw[lD];simp;omega
 simp only[fO,gN];rw[List.set_append_right _ _ (by omega),hl,Nat.sub_self,List.take_succ_eq_append_getElem hi,lF,List.drop_eq_getElem_cons hi];simp only[List.set_cons_zero,bY,List.append_assoc,List.cons_append,List.nil_append]
theorem qb {l:List α} {k:Int} {i:Nat} (hi:i<l.length):gN m l k (i+1)=(m l[i] (gN m l k i)).2:=by
 simp only[gN];rw[List.take_succ_eq_append_getElem hi,lF];simp[bY]
theorem mj {sz:α->Nat} (hm:∀ x k,(m x k).2=k+sz x) (l:List α) (k:Int) (i:Nat):gN m l k i=k+((l.take i).map sz).sum:=by
 have:∀ (l:List α) (k:Int),(bY m l k).2=k+(l.map sz).sum:=by
  intro l
  induction l with
  | nil=>intro k;simp[bY]
  | cons x l ih=>intro k;simp only[bY,ih,hm,List.map_cons,List.sum_cons];omega
 exact this _ _
theorem pZ {f:α->Nat} (l:List α) (i:Nat):((l.take i).map f).sum<=(l.map f).sum:=by
 have:l.map f=(l.take i).map f++(l.drop i).map f:=by rw[<- List.map_append,List.take_append_drop]
 rw[this,List.sum_append];omega
end
def cX (x:aA) (k:Int):aA × Int:=(aA.mk k (k+1) (bG x.links (k+2)).1,(bG x.links (k+2)).2)
def dN (x:aA):Nat:=x.links.length+2
theorem fY (x:aA) (k:Int):(cX x k).2=k+dN x:=by simp[cX,dN,bG,j9];omega
abbrev iy (l:List aA) (k:Int):=bY cX l k
abbrev jP (l:List aA) (k:Int):Prop:=0<=k/\l.length<=1048576/\(∀ x ∈ l,x.links.length<=1048576)/\k+(l.map dN).sum<=1152921504606846976
def hZ (a:List aA) (k_:Int) (Z:((List aA) × Int)->Prop):Prop:=
 aG (σ:=Int × Int × (List aA)) (fun (k10,i11,l12) K15=>∀ len16:Int,len16=(l12.length:Int)->∀ c18:Bool,c18=decide (i11<len16)->((c18=true->(0<=i11/\i11<l12.length)/\∀ x21:aA,x21=at' l12 i11->∀ l40:List aA,l40=l12.set i11.toNat (aA.mk k10 x21.parent x21.links)->(bp (k10+1))/\∀ v46:Int,v46=k10+1->(0<=i11/\i11<l40.length)/\∀ x49:aA,x49=at' l40 i11->∀ l69:List aA,l69=l40.set i11.toNat (aA.mk x49.control v46 x49.links)->(bp (v46+1))/\∀ v75:Int,v75=v46+1->(0<=i11/\i11<l69.length)/\∀ x78:aA,x78=at' l69 i11->(fG x78.links v75)/\∀ r99:(List Int) × Int,r99=bG x78.links v75->∀ l105:List aA,l105=l69.set i11.toNat (aA.mk x78.control x78.parent r99.1)->(bp (i11+1))/\∀ v109:Int,v109=i11+1->K15 (r99.2,v109,l105))/\(c18=false->Z (l12,k10)))) (k_,0,a)
theorem vq (l:List aA) (k:Int) (h:jP l k):hZ l k (fun y=>y=iy l k):=by
 unfold hZ;obtain⟨h0,h1,h2,h3⟩:=h;refine aG.up l.length (fun s=>s.2.1) (fun i t=>(gN cX l k i,(i:Int),t)) (fun _ _=>rfl) (fun i out=>out=fO cX l k i) l (by simp[gN,bY]) (wg _ _ _).symm ?_;rintro i out K hk rfl IH;have hl:=qS cX l k i;have hs:=mj cX fY l k i;have hs2:=pZ (f:=dN) l i;simp only[forall_eq,decide_eq_true_eq,decide_eq_false_iff_not,bp,Int.toNat_natCast,List.length_set];refine⟨fun h4=>?_,fun h4=>?_⟩
 ·have hi:i<l.length:=by omega
  have hs3:=mj cX fY l k (i+1);have hs4:=pZ (f:=dN) l (i+1);have hs5:=qb cX (k:=k) hi;rw[fY] at hs5;have hz:dN l[i]=l[i].links.length+2:=rfl;have hn:=h2 _ (List.getElem_mem hi);simp only[yK cX hi,List.set_set,um (show i<(fO cX l k i).length by omega)];refine⟨by omega,by omega,by omega,by omega,by omega,⟨by omega,by omega,by omega⟩,by omega,?_⟩;have:=IH hi _ rfl;rw[<- zw _ hi,qb _ hi] at this;have e2:gN cX l k i+1+1=gN cX l k i+2:=by omega
  rw[e2];simpa[cX] using this
 ·rw[show i=l.length by omega,Aq,sy]
def dX (b:aD) (k:Int):aD × Int:=
 let n:=iy b.nodes k
 let s:=bG b.sites n.2
 let o:=fa b.outer s.2
 let i:=iv b.inner o.2
 (aD.mk b.roots n.1 s.1 b.edges o.1 i.1,i.2)
def uD (b:aD):Nat:=(b.nodes.map dN).sum+b.sites.length+b.outer.length+2 * b.inner.length
abbrev gC (b:aD) (k:Int):Prop:=0<=k/\b.nodes.length<=1048576/\(∀ x ∈ b.nodes,x.links.length<=1048576)/\b.sites.length<=1048576/\b.outer.length<=1048576/\b.inner.length<=1048576/\k+uD b<=1152921504606846976
def kP (a:aD) (k_:Int) (Z:(aD × Int)->Prop):Prop:=
 (jP a.nodes k_)/\∀ r13:(List aA) × Int,r13=iy a.nodes k_->(fG a.sites r13.2)/\∀ r22:(List Int) × Int,r22=bG a.sites r13.2->(gK a.outer r22.2)/\∀ r31:(List cB) × Int,r31=fa a.outer r22.2->(jR a.inner r31.2)/\∀ r40:(List aQ) × Int,r40=iv a.inner r31.2->Z ((aD.mk a.roots r13.1 r22.1 a.edges r31.1 r40.1),r40.2)
theorem ly (l:List aA) (k:Int):(iy l k).2=k+(l.map dN).sum:=by
 have:=mj cX fY l k l.length
 rwa [sy,List.take_length] at this
theorem yD (b:aD) (k:Int) (h:gC b k):kP b k (fun y=>y=dX b k):=by
 unfold kP;obtain⟨h0,h1,h2,h3,h4,h5,h6⟩:=h;have hb:uD b=(b.nodes.map dN).sum+b.sites.length+b.outer.length+2 * b.inner.length:=rfl;have hn:=ly b.nodes k;simp only[forall_eq];refine⟨⟨h0,h1,h2,by omega⟩,⟨by omega,by omega,by omega⟩,⟨?_,by omega,?_⟩,⟨?_,by omega,?_⟩,rfl⟩
 all_goals simp only[j9,hn];omega
end Go.Ab.Vg
namespace Go.Ab
open Go.Proofs
theorem aM.AT {H:az} {n:Nat} (t:Bool) (x:aA):aM H n (.agg (x.cells t)) (.agg (x.cells false)):=aM.tu (.agg _ (xH t x)) (by rw[qB,wC])
theorem aM.AW {H:az} {n:Nat} (x:aQ):aM H n (.agg x.cells) (.agg x.cells):=aM.aggF (by simp[aQ.cells])
theorem aM.EK {H:az} {n:Nat} (x:Control):aM H n (.agg x.cells) (.agg x.cells):=aM.aggF (by simp[Control.cells])
theorem e40:aW prog 40:=aW.of func40 (by kernel_rfl) rfl
theorem pz (p q:List (Int)) (hp:p.length<=1048576):aB prog 40 [.list false (p.map ay),.list false (q.map ay)] (fun r=>r=bool (decide (p=q))):=by
 refine aB.of func40 rfl ntmps40 (by simp) fun Q hQ=>?_
 refine zE fun _ V=>?_
 simp;apply V;refine zS fun _ V=>?_
 simp;apply V;refine J.ite rfl (fun hc1=>?_) (fun hc1=>?_)
 ·simp at hc1;refine zE fun _ V=>?_
  simp;apply V;refine J.ret func40 (aN.one results40) (hQ _ _ _ _ (.v _ _ _) ?_);have:p ≠ q:=by intro h;subst h;omega
  simp[this]
 ·simp at hc1;have hlen:p.length=q.length:=by omega
  apply J.skip;refine zS fun _ V=>?_
  simp;apply V;refine J.block (J.bV p.length (fun k O H n=>O 0 = .list false (p.map ay)/\O 1 = .list false (q.map ay)/\O 5=int k/\p.take k=q.take k) ?_ ?_)
  ·simp
  ·rintro k O H n hk ⟨h0,h1,h5,heq⟩ IH;refine zS fun _ V=>?_
   simp [h0, h5];apply V;refine J.ite rfl (fun hc2=>?_) (fun hc2=>?_)
   ·simp at hc2;have hq2:k<q.length:=by omega
    apply zK;apply J.block;refine J.ed aH aF bN (by decide) (by kernel_rfl) fun _ V=>?_
    simp [h0, h1, h5, hc2, hq2, ay];apply V;refine J.ite rfl (fun hc3=>?_) (fun hc3=>?_)
    ·simp at hc3;refine zE fun _ V=>?_
     simp;apply V;refine J.ret func40 (aN.one results40) (hQ _ _ _ _ (.v _ _ _) ?_);have:p ≠ q:=by intro h;subst h;exact hc3 rfl
     simp[this]
    ·simp at hc3;apply J.skip;refine zI fun _ V=>?_
     simp [h5, ba (show k < 4611686018427387904 by omega)];apply V;refine IH hc2 _ _ _ ?_;refine⟨by simp[h0,ay],by simp[h1,ay],by simp,?_⟩;rw[List.take_succ_eq_append_getElem hc2,List.take_succ_eq_append_getElem hq2,heq,hc3]
   ·simp at hc2;refine J.exit rfl ?_;refine zE fun _ V=>?_
    simp;apply V;refine J.ret func40 (aN.one results40) (hQ _ _ _ _ (.v _ _ _) ?_);rw[List.take_of_length_le hc2,List.take_of_length_le (by omega)] at heq;simp[heq]
theorem e43:aW prog 43:=aW.of func43 (by kernel_rfl) rfl
theorem ur (p q:List (cB)) (hp:p.length<=1048576):aB prog 43 [.list false (p.map bm),.list false (q.map bm)] (fun r=>r=bool (decide (p=q))):=by
 refine aB.of func43 rfl ntmps43 (by simp) fun Q hQ=>?_
 refine zE fun _ V=>?_
 simp;apply V;refine zS fun _ V=>?_
 simp;apply V;refine J.ite rfl (fun hc1=>?_) (fun hc1=>?_)
 ·simp at hc1;refine zE fun _ V=>?_
  simp;apply V;refine J.ret func43 (aN.one results43) (hQ _ _ _ _ (.v _ _ _) ?_);have:p ≠ q:=by intro h;subst h;omega
  simp[this]
 ·simp at hc1;have hlen:p.length=q.length:=by omega
  apply J.skip;refine zS fun _ V=>?_
  simp;apply V;refine J.block (J.bV p.length (fun k O H n=>O 0 = .list false (p.map bm)/\O 1 = .list false (q.map bm)/\O 5=int k/\p.take k=q.take k) ?_ ?_)
  ·simp
  ·rintro k O H n hk ⟨h0,h1,h5,heq⟩ IH;refine zS fun _ V=>?_
   simp [h0, h5];apply V;refine J.ite rfl (fun hc2=>?_) (fun hc2=>?_)
   ·simp at hc2;have hq2:k<q.length:=by omega
    apply zK;apply J.block;refine J.ed aH aF bN (by decide) (by kernel_rfl) fun _ V=>?_
    simp [h0, h1, h5, hc2, hq2, bm];apply V;refine J.ite rfl (fun hc3=>?_) (fun hc3=>?_)
    ·simp at hc3;refine zE fun _ V=>?_
     simp;apply V;refine J.ret func43 (aN.one results43) (hQ _ _ _ _ (.v _ _ _) ?_);have:p ≠ q:=by intro h;subst h;exact hc3 rfl
     simp[this]
    ·simp at hc3;apply J.skip;refine zI fun _ V=>?_
     simp [h5, ba (show k < 4611686018427387904 by omega)];apply V;refine IH hc2 _ _ _ ?_;refine⟨by simp[h0,bm],by simp[h1,bm],by simp,?_⟩;rw[List.take_succ_eq_append_getElem hc2,List.take_succ_eq_append_getElem hq2,heq,hc3]
   ·simp at hc2;refine J.exit rfl ?_;refine zE fun _ V=>?_
    simp;apply V;refine J.ret func43 (aN.one results43) (hQ _ _ _ _ (.v _ _ _) ?_);rw[List.take_of_length_le hc2,List.take_of_length_le (by omega)] at heq;simp[heq]
theorem e64:aW prog 64:=aW.of func64 (by kernel_rfl) rfl
theorem Bk (x y:aQ):aB prog 64 [.agg (aQ.cells x),.agg (aQ.cells y)] (fun r=>r=bool (decide (x=y))):=by
 obtain⟨x0,x1⟩:=x;obtain⟨y0,y1⟩:=y;refine aB.of func64 rfl ntmps64 (by simp) fun Q hQ=>?_
 refine zE fun _ V=>?_
 simp [aQ.cells, bP, encI, encS, bX];apply V;refine zS fun _ V=>?_
 simp;apply V;refine J.ite rfl (fun hc=>?_) (fun hd0=>?_)
 ·simp at hc;refine zE fun _ V=>?_
  simp;apply V;exact J.ret func64 (aN.one results64) (hQ _ _ _ _ (.v _ _ _) (by simp[hc]))
 simp at hd0;apply J.skip;refine zS fun _ V=>?_
 simp;apply V;refine J.ite rfl (fun hc=>?_) (fun hd1=>?_)
 ·simp at hc;refine zE fun _ V=>?_
  simp;apply V;exact J.ret func64 (aN.one results64) (hQ _ _ _ _ (.v _ _ _) (by simp[hc]))
 simp at hd1;apply J.skip;refine zE fun _ V=>?_
 simp;apply V;exact J.ret func64 (aN.one results64) (hQ _ _ _ _ (.v _ _ _) (by simp[hd0,hd1]))
theorem e44:aW prog 44:=aW.of func44 (by kernel_rfl) rfl
theorem Aw (p q:List (aQ)) (hp:p.length<=1048576):aB prog 44 [.list false (p.map aQ.cells),.list false (q.map aQ.cells)] (fun r=>r=bool (decide (p=q))):=by
 refine aB.of func44 rfl ntmps44 (by simp) fun Q hQ=>?_
 refine zE fun _ V=>?_
 simp;apply V;refine zS fun _ V=>?_
 simp;apply V;refine J.ite rfl (fun hc1=>?_) (fun hc1=>?_)
 ·simp at hc1;refine zE fun _ V=>?_
  simp;apply V;refine J.ret func44 (aN.one results44) (hQ _ _ _ _ (.v _ _ _) ?_);have:p ≠ q:=by intro h;subst h;omega
  simp[this]
 ·simp at hc1;have hlen:p.length=q.length:=by omega
  apply J.skip;refine zS fun _ V=>?_
  simp;apply V;refine J.block (J.bV p.length (fun k O H n=>O 0 = .list false (p.map aQ.cells)/\O 1 = .list false (q.map aQ.cells)/\O 5=int k/\p.take k=q.take k) ?_ ?_)
  ·simp
  ·rintro k O H n hk ⟨h0,h1,h5,heq⟩ IH;refine zS fun _ V=>?_
   simp [h0, h5];apply V;refine J.ite rfl (fun hc2=>?_) (fun hc2=>?_)
   ·simp at hc2;have hq2:k<q.length:=by omega
    apply zK;apply J.block;refine J.ed aH aF bN (by decide) (by kernel_rfl) fun _ V=>?_
    simp [h0, h1, h5, hc2, hq2, aQ.cells];refine bw.cd aH aF (Bk p[k] q[k]) e64 (.cons (aM.AW p[k]) (.cons (aM.AW q[k]) .nil)) (by decide) rfl (by simp[aQ.cells]) ?_;simp;apply V;refine J.ite rfl (fun hc3=>?_) (fun hc3=>?_)
    ·simp at hc3;refine zE fun _ V=>?_
     simp;apply V;refine J.ret func44 (aN.one results44) (hQ _ _ _ _ (.v _ _ _) ?_);have:p ≠ q:=by intro h;subst h;exact hc3 rfl
     simp[this]
    ·simp at hc3;apply J.skip;refine zI fun _ V=>?_
     simp [h5, ba (show k < 4611686018427387904 by omega)];apply V;refine IH hc2 _ _ _ ?_;refine⟨by simp[h0,aQ.cells],by simp[h1,aQ.cells],by simp,?_⟩;rw[List.take_succ_eq_append_getElem hc2,List.take_succ_eq_append_getElem hq2,heq,hc3]
   ·simp at hc2;refine J.exit rfl ?_;refine zE fun _ V=>?_
    simp;apply V;refine J.ret func44 (aN.one results44) (hQ _ _ _ _ (.v _ _ _) ?_);rw[List.take_of_length_le hc2,List.take_of_length_le (by omega)] at heq;simp[heq]
theorem e41:aW prog 41:=aW.of func41 (by kernel_rfl) rfl
theorem vP (x y:Control):aB prog 41 [.agg (Control.cells x),.agg (Control.cells y)] (fun r=>r=bool (decide (x=y))):=by
 obtain⟨x0,x1,x2⟩:=x;obtain⟨y0,y1,y2⟩:=y;refine aB.of func41 rfl ntmps41 (by simp) fun Q hQ=>?_
 refine zE fun _ V=>?_
 simp [Control.cells, bP, encI, encS, bX];apply V;refine zS fun _ V=>?_
 simp;apply V;refine J.ite rfl (fun hc=>?_) (fun hd0=>?_)
 ·simp at hc;refine zE fun _ V=>?_
  simp;apply V;exact J.ret func41 (aN.one results41) (hQ _ _ _ _ (.v _ _ _) (by simp[hc]))
 simp at hd0;apply J.skip;refine zS fun _ V=>?_
 simp;apply V;refine J.ite rfl (fun hc=>?_) (fun hd1=>?_)
 ·simp at hc;refine zE fun _ V=>?_
  simp;apply V;exact J.ret func41 (aN.one results41) (hQ _ _ _ _ (.v _ _ _) (by simp[hc]))
 simp at hd1;apply J.skip;refine zS fun _ V=>?_
 simp;apply V;refine J.ite rfl (fun hc=>?_) (fun hd2=>?_)
 ·simp at hc;refine zE fun _ V=>?_
  simp;apply V;exact J.ret func41 (aN.one results41) (hQ _ _ _ _ (.v _ _ _) (by simp[hc]))
 simp at hd2;apply J.skip;refine zE fun _ V=>?_
 simp;apply V;exact J.ret func41 (aN.one results41) (hQ _ _ _ _ (.v _ _ _) (by simp[hd0,hd1,hd2]))
theorem e11:aW prog 11:=aW.of func11 (by kernel_rfl) rfl
theorem tl (p q:List (Control)) (hp:p.length<=1048576):aB prog 11 [.list false (p.map Control.cells),.list false (q.map Control.cells)] (fun r=>r=bool (decide (p=q))):=by
 refine aB.of func11 rfl ntmps11 (by simp) fun Q hQ=>?_
 refine zE fun _ V=>?_
 simp;apply V;refine zS fun _ V=>?_
 simp;apply V;refine J.ite rfl (fun hc1=>?_) (fun hc1=>?_)
 ·simp at hc1;refine zE fun _ V=>?_
  simp;apply V;refine J.ret func11 (aN.one results11) (hQ _ _ _ _ (.v _ _ _) ?_);have:p ≠ q:=by intro h;subst h;omega
  simp[this]
 ·simp at hc1;have hlen:p.length=q.length:=by omega
  apply J.skip;refine zS fun _ V=>?_
  simp;apply V;refine J.block (J.bV p.length (fun k O H n=>O 0 = .list false (p.map Control.cells)/\O 1 = .list false (q.map Control.cells)/\O 5=int k/\p.take k=q.take k) ?_ ?_)
  ·simp
  ·rintro k O H n hk ⟨h0,h1,h5,heq⟩ IH;refine zS fun _ V=>?_
   simp [h0, h5];apply V;refine J.ite rfl (fun hc2=>?_) (fun hc2=>?_)
   ·simp at hc2;have hq2:k<q.length:=by omega
    apply zK;apply J.block;refine J.ed aH aF bN (by decide) (by kernel_rfl) fun _ V=>?_
    simp [h0, h1, h5, hc2, hq2, Control.cells];refine bw.cd aH aF (vP p[k] q[k]) e41 (.cons (aM.EK p[k]) (.cons (aM.EK q[k]) .nil)) (by decide) rfl (by simp[Control.cells]) ?_;simp;apply V;refine J.ite rfl (fun hc3=>?_) (fun hc3=>?_)
    ·simp at hc3;refine zE fun _ V=>?_
     simp;apply V;refine J.ret func11 (aN.one results11) (hQ _ _ _ _ (.v _ _ _) ?_);have:p ≠ q:=by intro h;subst h;exact hc3 rfl
     simp[this]
    ·simp at hc3;apply J.skip;refine zI fun _ V=>?_
     simp [h5, ba (show k < 4611686018427387904 by omega)];apply V;refine IH hc2 _ _ _ ?_;refine⟨by simp[h0,Control.cells],by simp[h1,Control.cells],by simp,?_⟩;rw[List.take_succ_eq_append_getElem hc2,List.take_succ_eq_append_getElem hq2,heq,hc3]
   ·simp at hc2;refine J.exit rfl ?_;refine zE fun _ V=>?_
    simp;apply V;refine J.ret func11 (aN.one results11) (hQ _ _ _ _ (.v _ _ _) ?_);rw[List.take_of_length_le hc2,List.take_of_length_le (by omega)] at heq;simp[heq]
theorem e63:aW prog 63:=aW.of func63 (by kernel_rfl) rfl
theorem Cc (x y:aA) (hl:x.links.length<=1048576):aB prog 63 [.agg (aA.cells false x),.agg (aA.cells false y)] (fun r=>r=bool (decide (x=y))):=by
 obtain⟨x0,x1,x2⟩:=x;obtain⟨y0,y1,y2⟩:=y;refine aB.of func63 rfl ntmps63 (by simp) fun Q hQ=>?_
 refine zE fun _ V=>?_
 simp [aA.cells, bP, encI, encS, bX];apply V;refine zS fun _ V=>?_
 simp;apply V;refine J.ite rfl (fun hc=>?_) (fun hd0=>?_)
 ·simp at hc;refine zE fun _ V=>?_
  simp;apply V;exact J.ret func63 (aN.one results63) (hQ _ _ _ _ (.v _ _ _) (by simp[hc]))
 simp at hd0;apply J.skip;refine zS fun _ V=>?_
 simp;apply V;refine J.ite rfl (fun hc=>?_) (fun hd1=>?_)
 ·simp at hc;refine zE fun _ V=>?_
  simp;apply V;exact J.ret func63 (aN.one results63) (hQ _ _ _ _ (.v _ _ _) (by simp[hc]))
 simp at hd1;apply J.skip;refine zS fun _ V=>?_
 simp;refine zA (pz x2 y2 hl) e40 (.cons (aM.encI false x2) (.cons (aM.encI false y2) .nil)) (by simp[bP,encI,encS,bX]) ?_;rintro _ rfl;simp;apply V;refine J.ite rfl (fun hc=>?_) (fun hd2=>?_)
 ·simp at hc;refine zE fun _ V=>?_
  simp;apply V;exact J.ret func63 (aN.one results63) (hQ _ _ _ _ (.v _ _ _) (by simp[hc]))
 simp at hd2;apply J.skip;refine zE fun _ V=>?_
 simp;apply V;exact J.ret func63 (aN.one results63) (hQ _ _ _ _ (.v _ _ _) (by simp[hd0,hd1,hd2]))
theorem e42:aW prog 42:=aW.of func42 (by kernel_rfl) rfl
theorem y9 (p q:List (aA)) (hp:p.length<=1048576) (hl:∀ x ∈ p,x.links.length<=1048576):aB prog 42 [.list false (p.map (aA.cells false)),.list false (q.map (aA.cells false))] (fun r=>r=bool (decide (p=q))):=by
 refine aB.of func42 rfl ntmps42 (by simp) fun Q hQ=>?_
 refine zE fun _ V=>?_
 simp;apply V;refine zS fun _ V=>?_
 simp;apply V;refine J.ite rfl (fun hc1=>?_) (fun hc1=>?_)
 ·simp at hc1;refine zE fun _ V=>?_
  simp;apply V;refine J.ret func42 (aN.one results42) (hQ _ _ _ _ (.v _ _ _) ?_);have:p ≠ q:=by intro h;subst h;omega
  simp[this]
 ·simp at hc1;have hlen:p.length=q.length:=by omega
  apply J.skip;refine zS fun _ V=>?_
  simp;apply V;refine J.block (J.bV p.length (fun k O H n=>O 0 = .list false (p.map (aA.cells false))/\O 1 = .list false (q.map (aA.cells false))/\O 5=int k/\p.take k=q.take k) ?_ ?_)
  ·simp
  ·rintro k O H n hk ⟨h0,h1,h5,heq⟩ IH;refine zS fun _ V=>?_
   simp [h0, h5];apply V;refine J.ite rfl (fun hc2=>?_) (fun hc2=>?_)
   ·simp at hc2;have hq2:k<q.length:=by omega
    apply zK;apply J.block;refine J.ed aH aF bN (by decide) (by kernel_rfl) fun _ V=>?_
    simp [h0, h1, h5, hc2, hq2, aA.cells];refine bw.cd aH aF (Cc p[k] q[k] (hl _ (List.getElem_mem hc2))) e63 (.cons (aM.AT false p[k]) (.cons (aM.AT false q[k]) .nil)) (by decide) rfl (by simp[aA.cells]) ?_;simp;apply V;refine J.ite rfl (fun hc3=>?_) (fun hc3=>?_)
    ·simp at hc3;refine zE fun _ V=>?_
     simp;apply V;refine J.ret func42 (aN.one results42) (hQ _ _ _ _ (.v _ _ _) ?_);have:p ≠ q:=by intro h;subst h;exact hc3 rfl
     simp[this]
    ·simp at hc3;apply J.skip;refine zI fun _ V=>?_
     simp [h5, ba (show k < 4611686018427387904 by omega)];apply V;refine IH hc2 _ _ _ ?_;refine⟨by simp[h0,aA.cells],by simp[h1,aA.cells],by simp,?_⟩;rw[List.take_succ_eq_append_getElem hc2,List.take_succ_eq_append_getElem hq2,heq,hc3]
   ·simp at hc2;refine J.exit rfl ?_;refine zE fun _ V=>?_
    simp;apply V;refine J.ret func42 (aN.one results42) (hQ _ _ _ _ (.v _ _ _) ?_);rw[List.take_of_length_le hc2,List.take_of_length_le (by omega)] at heq;simp[heq]
theorem e12:aW prog 12:=aW.of func12 (by kernel_rfl) rfl
theorem oY (x y:aD) (hb:x.nodes.length<=1048576/\(∀ z ∈ x.nodes,z.links.length<=1048576)/\x.sites.length<=1048576/\x.outer.length<=1048576/\x.inner.length<=1048576):aB prog 12 [.agg (aD.cells false x),.agg (aD.cells false y)] (fun r=>r=bool (decide (x=y))):=by
 obtain⟨x0,x1,x2,x3,x4,x5⟩:=x;obtain⟨y0,y1,y2,y3,y4,y5⟩:=y;refine aB.of func12 rfl ntmps12 (by simp) fun Q hQ=>?_
 refine zE fun _ V=>?_
 simp [aD.cells, bP, encI, encS, bX];apply V;refine zS fun _ V=>?_
 simp;apply V;refine J.ite rfl (fun hc=>?_) (fun hd0=>?_)
 ·simp at hc;refine zE fun _ V=>?_
  simp;apply V;exact J.ret func12 (aN.one results12) (hQ _ _ _ _ (.v _ _ _) (by simp[hc]))
 simp at hd0;apply J.skip;refine zS fun _ V=>?_
 simp;refine zA (y9 x1 y1 hb.1 hb.2.1) e42 (.cons (aM.bP false x1) (.cons (aM.bP false y1) .nil)) (by simp[bP,encI,encS,bX]) ?_;rintro _ rfl;simp;apply V;refine J.ite rfl (fun hc=>?_) (fun hd1=>?_)
 ·simp at hc;refine zE fun _ V=>?_
  simp;apply V;exact J.ret func12 (aN.one results12) (hQ _ _ _ _ (.v _ _ _) (by simp[hc]))
 simp at hd1;apply J.skip;refine zS fun _ V=>?_
 simp;refine zA (pz x2 y2 hb.2.2.1) e40 (.cons (aM.encI false x2) (.cons (aM.encI false y2) .nil)) (by simp[bP,encI,encS,bX]) ?_;rintro _ rfl;simp;apply V;refine J.ite rfl (fun hc=>?_) (fun hd2=>?_)
 ·simp at hc;refine zE fun _ V=>?_
  simp;apply V;exact J.ret func12 (aN.one results12) (hQ _ _ _ _ (.v _ _ _) (by simp[hc]))
 simp at hd2;apply J.skip;refine zS fun _ V=>?_
 simp;apply V;refine J.ite rfl (fun hc=>?_) (fun hd3=>?_)
 ·simp at hc;refine zE fun _ V=>?_
  simp;apply V;exact J.ret func12 (aN.one results12) (hQ _ _ _ _ (.v _ _ _) (by simp[hc]))
 simp at hd3;apply J.skip;refine zS fun _ V=>?_
 simp;refine zA (ur x4 y4 hb.2.2.2.1) e43 (.cons (aM.encS false x4) (.cons (aM.encS false y4) .nil)) (by simp[bP,encI,encS,bX]) ?_;rintro _ rfl;simp;apply V;refine J.ite rfl (fun hc=>?_) (fun hd4=>?_)
 ·simp at hc;refine zE fun _ V=>?_
  simp;apply V;exact J.ret func12 (aN.one results12) (hQ _ _ _ _ (.v _ _ _) (by simp[hc]))
 simp at hd4;apply J.skip;refine zS fun _ V=>?_
 simp;refine zA (Aw x5 y5 hb.2.2.2.2) e44 (.cons (aM.bX false x5) (.cons (aM.bX false y5) .nil)) (by simp[bP,encI,encS,bX]) ?_;rintro _ rfl;simp;apply V;refine J.ite rfl (fun hc=>?_) (fun hd5=>?_)
 ·simp at hc;refine zE fun _ V=>?_
  simp;apply V;exact J.ret func12 (aN.one results12) (hQ _ _ _ _ (.v _ _ _) (by simp[hc]))
 simp at hd5;apply J.skip;refine zE fun _ V=>?_
 simp;apply V;exact J.ret func12 (aN.one results12) (hQ _ _ _ _ (.v _ _ _) (by simp[hd0,hd1,hd2,hd3,hd4,hd5]))
end Go.Ab
namespace Go.Ab
open Go.Proofs
theorem e28:aW prog 28:=aW.of func28 (by kernel_rfl) rfl
theorem j4 (p:List (Int)) (hp:p.length<=1048576):aB prog 28 [.list false (p.map ay)] (fun r=>r = .list true (p.map ay)):=by
 refine aB.of func28 rfl ntmps28 (by simp) fun Q hQ=>?_
 refine zE fun _ V=>?_
 simp;apply V;refine zE fun _ V=>?_
 simp [show (p.length : Int) <= 1073741824 by omega];apply V;refine zS fun _ V=>?_
 simp;apply V;refine J.block (J.bV p.length (fun k O H n=>O 0 = .list false (p.map ay)/\O 4=int k/\O 3 = .arr (0,7) p.length 0 p.length/\H (0,7)=some ⟨1,part ay [int 0] p k⟩) ?_ ?_)
 ·simp[ay,ka]
 ·rintro k O H n hk ⟨h0,h4,h3,hH⟩ IH;refine zS fun _ V=>?_
  simp [h0, h4];apply V;refine J.ite rfl (fun hc1=>?_) (fun hc1=>?_)
  ·simp at hc1;apply zK;apply J.block;refine zF fun _ V=>?_
   simp [h0, h3, h4, hH, hc1, gG hk, fm hc1, ay];apply V;refine zI fun _ V=>?_
   simp [h4, ba (show k < 4611686018427387904 by omega)];apply V;refine IH hc1 _ _ _ ?_;rw[<- mn hc1];simp[h0,h3,ay,jX hc1]
  ·simp at hc1;have hke:k=p.length:=by omega
   subst hke;rw[ma] at hH;refine J.exit rfl ?_;refine zE fun _ V=>?_
   simp [h3];apply V;exact J.ret func28 (aN.one results28) (hQ _ _ _ _ (.of (kz.qZ (by simp[hH];rfl) (by simp[ay,ay]))) rfl)
theorem e29:aW prog 29:=aW.of func29 (by kernel_rfl) rfl
theorem k6 (p:List (cB)) (hp:p.length<=1048576):aB prog 29 [.list false (p.map bm)] (fun r=>r = .list true (p.map bm)):=by
 refine aB.of func29 rfl ntmps29 (by simp) fun Q hQ=>?_
 refine zE fun _ V=>?_
 simp;apply V;refine zE fun _ V=>?_
 simp [show (p.length : Int) <= 1073741824 by omega];apply V;refine zS fun _ V=>?_
 simp;apply V;refine J.block (J.bV p.length (fun k O H n=>O 0 = .list false (p.map bm)/\O 4=int k/\O 3 = .arr (0,7) p.length 0 p.length/\H (0,7)=some ⟨1,part bm [str []] p k⟩) ?_ ?_)
 ·simp[bm,ka]
 ·rintro k O H n hk ⟨h0,h4,h3,hH⟩ IH;refine zS fun _ V=>?_
  simp [h0, h4];apply V;refine J.ite rfl (fun hc1=>?_) (fun hc1=>?_)
  ·simp at hc1;apply zK;apply J.block;refine zF fun _ V=>?_
   simp [h0, h3, h4, hH, hc1, gG hk, fm hc1, bm];apply V;refine zI fun _ V=>?_
   simp [h4, ba (show k < 4611686018427387904 by omega)];apply V;refine IH hc1 _ _ _ ?_;rw[<- mn hc1];simp[h0,h3,bm,jX hc1]
  ·simp at hc1;have hke:k=p.length:=by omega
   subst hke;rw[ma] at hH;refine J.exit rfl ?_;refine zE fun _ V=>?_
   simp [h3];apply V;exact J.ret func29 (aN.one results29) (hQ _ _ _ _ (.of (kz.qZ (by simp[hH];rfl) (by simp[bm,ay]))) rfl)
end Go.Ab
namespace Go.Ab
open Go.Proofs
theorem e56:aW prog 56:=aW.of func56 (by kernel_rfl) rfl
theorem pn (x:aQ):aB prog 56 [.agg (aQ.cells x)] (fun r=>r = .agg (aQ.cells x)):=by
 refine aB.of func56 rfl ntmps56 (by simp) fun Q hQ=>?_
 refine zE fun _ V=>?_
 simp [aQ.cells, bP, encI, encS, bX];apply V;refine zE fun _ V=>?_
 simp;apply V;refine zE fun _ V=>?_
 simp;apply V;refine zE fun _ V=>?_
 simp;apply V;refine zE fun _ V=>?_
 simp;apply V;exact J.ret func56 (aN.cell (cs:=aQ.cells x) (v:=.agg (aQ.cells x)) aH results56 FA (by simp[aQ.cells,bP,encI,encS,bX]) (by simp[lQ,aQ.cells])) (hQ _ _ _ _ (.of (kz.fresh (by simp[aQ.cells,bP,encI,encS,bX,aA.cells,ay,bm,aQ.cells]))) rfl)
theorem e26:aW prog 26:=aW.of func26 (by kernel_rfl) rfl
theorem kZ (x:Control):aB prog 26 [.agg (Control.cells x)] (fun r=>r = .agg (Control.cells x)):=by
 refine aB.of func26 rfl ntmps26 (by simp) fun Q hQ=>?_
 refine zE fun _ V=>?_
 simp [Control.cells, bP, encI, encS, bX];apply V;refine zE fun _ V=>?_
 simp;apply V;refine zE fun _ V=>?_
 simp;apply V;refine zE fun _ V=>?_
 simp;apply V;refine zE fun _ V=>?_
 simp;apply V;refine zE fun _ V=>?_
 simp;apply V;exact J.ret func26 (aN.cell (cs:=Control.cells x) (v:=.agg (Control.cells x)) aH results26 FG (by simp[Control.cells,bP,encI,encS,bX]) (by simp[lQ,Control.cells])) (hQ _ _ _ _ (.of (kz.fresh (by simp[Control.cells,bP,encI,encS,bX,aA.cells,ay,bm,aQ.cells]))) rfl)
theorem e55:aW prog 55:=aW.of func55 (by kernel_rfl) rfl
theorem pO (x:aA) (hl:x.links.length<=1048576):aB prog 55 [.agg (aA.cells false x)] (fun r=>r = .agg (aA.cells true x)):=by
 refine aB.of func55 rfl ntmps55 (by simp) fun Q hQ=>?_
 refine zE fun _ V=>?_
 simp [aA.cells, bP, encI, encS, bX];apply V;refine zE fun _ V=>?_
 simp;apply V;refine zE fun _ V=>?_
 simp;apply V;refine zE fun _ V=>?_
 simp;apply V;refine zE fun _ V=>?_
 simp;refine zA (j4 x.links hl) e28 (.cons (aM.encI false x.links) .nil) (by simp[bP,encI,encS,bX]) ?_;rintro _ rfl;simp;apply V;refine zE fun _ V=>?_
 simp;apply V;exact J.ret func55 (aN.cell (cs:=aA.cells true x) (v:=.agg (aA.cells true x)) aH results55 FF (by simp[aA.cells,bP,encI,encS,bX]) (by simp[lQ,aA.cells])) (hQ _ _ _ _ (.of (kz.fresh (by simp[aA.cells,bP,encI,encS,bX,aA.cells,ay,bm,aQ.cells]))) rfl)
theorem e30:aW prog 30:=aW.of func30 (by kernel_rfl) rfl
theorem od (p:List (aQ)) (hp:p.length<=1048576):aB prog 30 [.list false (p.map aQ.cells)] (fun r=>r = .list true (p.map aQ.cells)):=by
 refine aB.of func30 rfl ntmps30 (by simp) fun Q hQ=>?_
 refine zE fun _ V=>?_
 simp;apply V;refine zE fun _ V=>?_
 simp [show (p.length : Int) <= 1073741824 by omega];apply V;refine zS fun _ V=>?_
 simp;apply V;refine J.block (J.bV p.length (fun k O H n=>O 0 = .list false (p.map aQ.cells)/\O 4=int k/\O 3 = .arr (0,7) p.length 0 p.length/\H (0,7)=some ⟨2,part aQ.cells [str [],int 0] p k⟩) ?_ ?_)
 ·simp[aQ.cells,ka]
 ·rintro k O H n hk ⟨h0,h4,h3,hH⟩ IH;refine zS fun _ V=>?_
  simp [h0, h4];apply V;refine J.ite rfl (fun hc1=>?_) (fun hc1=>?_)
  ·simp at hc1;apply zK;apply J.block;refine zF fun _ V=>?_
   simp [h0, h3, h4, hH, hc1, gG hk, fm hc1, aQ.cells];refine zA (pn p[k]) e56 (.cons (aM.AW _) .nil) (by simp[aQ.cells]) ?_;rintro _ rfl;simp[h3,h4,hH,hc1,gG hk,fm hc1,aQ.cells];apply V;refine zI fun _ V=>?_
   simp [h4, ba (show k < 4611686018427387904 by omega)];apply V;refine IH hc1 _ _ _ ?_;rw[<- mn hc1];simp[h0,h3,aQ.cells,jX hc1]
  ·simp at hc1;have hke:k=p.length:=by omega
   subst hke;rw[ma] at hH;refine J.exit rfl ?_;refine zE fun _ V=>?_
   simp [h3];apply V;exact J.ret func30 (aN.one results30) (hQ _ _ _ _ (.of (kz.qZ (by simp[hH];rfl) (by simp[aQ.cells,ay]))) rfl)
theorem e7:aW prog 7:=aW.of func7 (by kernel_rfl) rfl
theorem eJ (p:List (Control)) (hp:p.length<=1048576):aB prog 7 [.list false (p.map Control.cells)] (fun r=>r = .list true (p.map Control.cells)):=by
 refine aB.of func7 rfl ntmps7 (by simp) fun Q hQ=>?_
 refine zE fun _ V=>?_
 simp;apply V;refine zE fun _ V=>?_
 simp [show (p.length : Int) <= 1073741824 by omega];apply V;refine zS fun _ V=>?_
 simp;apply V;refine J.block (J.bV p.length (fun k O H n=>O 0 = .list false (p.map Control.cells)/\O 4=int k/\O 3 = .arr (0,7) p.length 0 p.length/\H (0,7)=some ⟨3,part Control.cells [str [],int 0,int 0] p k⟩) ?_ ?_)
 ·simp[Control.cells,ka]
 ·rintro k O H n hk ⟨h0,h4,h3,hH⟩ IH;refine zS fun _ V=>?_
  simp [h0, h4];apply V;refine J.ite rfl (fun hc1=>?_) (fun hc1=>?_)
  ·simp at hc1;apply zK;apply J.block;refine zF fun _ V=>?_
   simp [h0, h3, h4, hH, hc1, gG hk, fm hc1, Control.cells];refine zA (kZ p[k]) e26 (.cons (aM.EK _) .nil) (by simp[Control.cells]) ?_;rintro _ rfl;simp[h3,h4,hH,hc1,gG hk,fm hc1,Control.cells];apply V;refine zI fun _ V=>?_
   simp [h4, ba (show k < 4611686018427387904 by omega)];apply V;refine IH hc1 _ _ _ ?_;rw[<- mn hc1];simp[h0,h3,Control.cells,jX hc1]
  ·simp at hc1;have hke:k=p.length:=by omega
   subst hke;rw[ma] at hH;refine J.exit rfl ?_;refine zE fun _ V=>?_
   simp [h3];apply V;exact J.ret func7 (aN.one results7) (hQ _ _ _ _ (.of (kz.qZ (by simp[hH];rfl) (by simp[Control.cells,ay]))) rfl)
theorem e27:aW prog 27:=aW.of func27 (by kernel_rfl) rfl
theorem nr (p:List (aA)) (hp:p.length<=1048576) (hl:∀ x ∈ p,x.links.length<=1048576):aB prog 27 [.list false (p.map (aA.cells false))] (fun r=>r = .list true (p.map (aA.cells true))):=by
 refine aB.of func27 rfl ntmps27 (by simp) fun Q hQ=>?_
 refine zE fun _ V=>?_
 simp;apply V;refine zE fun _ V=>?_
 simp [show (p.length : Int) <= 1073741824 by omega];apply V;refine zS fun _ V=>?_
 simp;apply V;refine J.block (J.bV p.length (fun k O H n=>O 0 = .list false (p.map (aA.cells false))/\O 4=int k/\O 3 = .arr (0,7) p.length 0 p.length/\H (0,7)=some ⟨3,part (aA.cells true) [int 0,int 0,.v (.slice none 0 0)] p k⟩) ?_ ?_)
 ·simp[aA.cells,ka]
 ·rintro k O H n hk ⟨h0,h4,h3,hH⟩ IH;refine zS fun _ V=>?_
  simp [h0, h4];apply V;refine J.ite rfl (fun hc1=>?_) (fun hc1=>?_)
  ·simp at hc1;apply zK;apply J.block;refine zF fun _ V=>?_
   simp [h0, h3, h4, hH, hc1, gG hk, fm hc1, aA.cells];refine zA (pO p[k] (hl _ (List.getElem_mem hc1))) e55 (.cons (aM.AT false _) .nil) (by simp[aA.cells]) ?_;rintro _ rfl;simp[h3,h4,hH,hc1,gG hk,fm hc1,aA.cells];apply V;refine zI fun _ V=>?_
   simp [h4, ba (show k < 4611686018427387904 by omega)];apply V;refine IH hc1 _ _ _ ?_;rw[<- mn hc1];simp[h0,h3,aA.cells,jX hc1]
  ·simp at hc1;have hke:k=p.length:=by omega
   subst hke;rw[ma] at hH;refine J.exit rfl ?_;refine zE fun _ V=>?_
   simp [h3];apply V;exact J.ret func27 (aN.one results27) (hQ _ _ _ _ (.of (kz.qZ (by simp[hH];rfl) (by simp[aA.cells,ay]))) rfl)
theorem e8:aW prog 8:=aW.of func8 (by kernel_rfl) rfl
theorem cN (x:aD) (hb:x.nodes.length<=1048576/\(∀ z ∈ x.nodes,z.links.length<=1048576)/\x.sites.length<=1048576/\x.outer.length<=1048576/\x.inner.length<=1048576):aB prog 8 [.agg (aD.cells false x)] (fun r=>r = .agg (aD.cells true x)):=by
 refine aB.of func8 rfl ntmps8 (by simp) fun Q hQ=>?_
 refine zE fun _ V=>?_
 simp [aD.cells, bP, encI, encS, bX];apply V;refine zE fun _ V=>?_
 simp;apply V;refine zE fun _ V=>?_
 simp;apply V;refine zE fun _ V=>?_
 simp;refine zA (nr x.nodes hb.1 hb.2.1) e27 (.cons (aM.bP false x.nodes) .nil) (by simp[bP,encI,encS,bX]) ?_;rintro _ rfl;simp;apply V;refine zE fun _ V=>?_
 simp;refine zA (j4 x.sites hb.2.2.1) e28 (.cons (aM.encI false x.sites) .nil) (by simp[bP,encI,encS,bX]) ?_;rintro _ rfl;simp;apply V;refine zE fun _ V=>?_
 simp;apply V;refine zE fun _ V=>?_
 simp;refine zA (k6 x.outer hb.2.2.2.1) e29 (.cons (aM.encS false x.outer) .nil) (by simp[bP,encI,encS,bX]) ?_;rintro _ rfl;simp;apply V;refine zE fun _ V=>?_
 simp;refine zA (od x.inner hb.2.2.2.2) e30 (.cons (aM.bX false x.inner) .nil) (by simp[bP,encI,encS,bX]) ?_;rintro _ rfl;simp;apply V;refine zE fun _ V=>?_
 simp;apply V;exact J.ret func8 (aN.cell (cs:=aD.cells true x) (v:=.agg (aD.cells true x)) aH results8 FK (by simp[aD.cells,bP,encI,encS,bX]) (by simp[lQ,aD.cells])) (hQ _ _ _ _ (.of (kz.fresh (by simp[aD.cells,bP,encI,encS,bX,aA.cells,ay,bm,aQ.cells]))) rfl)
end Go.Ab
namespace Go.Ab
open Go.Proofs
end Go.Ab
namespace Go.Ab
open Go.Proofs
end Go.Ab
namespace Go.Ab
open Go.Proofs
def dt (s:cB) (left:Int):Int:=if left - s.length<0 then -1 else left - s.length
def Small (p:Proc):Prop:=p.length<=9223372036854775807/\∀ x ∈ p,x.name.length<=9223372036854775807
end Go.Ab
