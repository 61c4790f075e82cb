/- Merged texts (10 of 16) of the proof that ends in Kyy: Lm Nm Gm Gn Go Wb Wc ak Gp Gq Gr. -/
import Derived.Test.YtkgmflihalaheaaGreatDoorAbQky9
open Go.Proofs.Tryz
set_option linter.unusedSimpArgs false
set_option linter.unusedVariables false
namespace Go.Ab.Vg
theorem yC {α:Type} [Inhabited α] {a:List α} {k:Nat} (hk:k<a.length):(a.take k++List.replicate (a.length - k) default).set k a[k]=a.take (k+1)++List.replicate (a.length - (k+1)) default:=by
 rw[List.set_append_right _ _ (by simp;omega)];rw[List.take_succ_eq_append_getElem hk,List.append_assoc]
 congr 1
 have h1:a.length - k=(a.length - (k+1))+1:=by omega
 have h2:k - (a.take k).length=0:=by simp;omega
 rw[h1,h2,List.replicate_succ]
 rfl
abbrev filled {α:Type} [Inhabited α] (a:List α) (k:Nat):List α:=a.take k++List.replicate (a.length - k) default
theorem gb {α:Type} [Inhabited α] {a:List α} {k:Nat} (hk:k<=a.length):(filled a k).length=a.length:=by simp[filled];omega
theorem gC {α:Type} [Inhabited α] {a:List α} {k:Nat} (hk:k<a.length):(filled a k).set k (at' a (k:Int))=filled a (k+1):=by rw[bm hk];exact yC hk
theorem gk {α:Type} [Inhabited α] (a:List α):filled a a.length=a:=by simp[filled]
theorem fk {α:Type} [Inhabited α] (a:List α):filled a 0=List.replicate a.length default:=by simp[filled]
abbrev tg (a:List Int):=a
abbrev ga (a:List Int):Prop:=a.length<=1048576
def ka (a:List Int) (Z:(List Int)->Prop):Prop:=
 ∀ bI:Int,bI=(a.length:Int)->(0<=bI/\bI<=1073741824)/\∀ l5:List Int,l5=List.replicate bI.toNat default->aL (σ:=Int × (List Int)) (fun (i16,l17) K21=>∀ len22:Int,len22=(a.length:Int)->∀ c24:Bool,c24=decide (i16<len22)->((c24=true->(0<=i16/\i16<a.length)/\∀ x27:Int,x27=at' a i16->(0<=i16/\i16<l17.length)/\∀ x34:Int,x34=at' l17 i16->∀ l37:List Int,l37=l17.set i16.toNat x27->(bu (i16+1))/\∀ v44:Int,v44=i16+1->K21 (v44,l37))/\(c24=false->Z l17))) (0,l5)
theorem zZ (a:List Int) (h:ga a):ka a (fun y=>y=tg a):=by
 unfold ka;simp only[ga] at h;simp only[forall_eq,Int.toNat_natCast];refine⟨by omega,aL.oz a.length (fun k out=>out=filled a k) _ (fk a).symm ?_⟩;rintro k out K hk rfl IH;have hl:=gb hk;simp only[decide_eq_true_eq,decide_eq_false_iff_not,bu,Int.toNat_natCast];refine⟨fun h1=>⟨by omega,by omega,by omega,IH (by omega) _ (gC (by omega))⟩,fun h1=>?_⟩;rw[show k=a.length by omega];exact gk a
abbrev mR (a:List bc):=a
abbrev eZ (a:List bc):Prop:=a.length<=1048576
def fH (a:List bc) (Z:(List bc)->Prop):Prop:=
 ∀ bI:Int,bI=(a.length:Int)->(0<=bI/\bI<=1073741824)/\∀ l5:List bc,l5=List.replicate bI.toNat default->aL (σ:=Int × (List bc)) (fun (i16,l17) K21=>∀ len22:Int,len22=(a.length:Int)->∀ c24:Bool,c24=decide (i16<len22)->((c24=true->(0<=i16/\i16<a.length)/\∀ x27:bc,x27=at' a i16->(0<=i16/\i16<l17.length)/\∀ x34:bc,x34=at' l17 i16->∀ l37:List bc,l37=l17.set i16.toNat x27->(bu (i16+1))/\∀ v44:Int,v44=i16+1->K21 (v44,l37))/\(c24=false->Z l17))) (0,l5)
theorem rY (a:List bc) (h:eZ a):fH a (fun y=>y=mR a):=by
 unfold fH;simp only[eZ] at h;simp only[forall_eq,Int.toNat_natCast];refine⟨by omega,aL.oz a.length (fun k out=>out=filled a k) _ (fk a).symm ?_⟩;rintro k out K hk rfl IH;have hl:=gb hk;simp only[decide_eq_true_eq,decide_eq_false_iff_not,bu,Int.toNat_natCast];refine⟨fun h1=>⟨by omega,by omega,by omega,IH (by omega) _ (gC (by omega))⟩,fun h1=>?_⟩;rw[show k=a.length by omega];exact gk a
abbrev iB (a:Control):=a
def iZ (a:Control) (Z:Control->Prop):Prop:=
 Z a
theorem sk (a:Control):iZ a (fun y=>y=iB a):=rfl
abbrev eU (a:List Control):=a
abbrev di (a:List Control):Prop:=a.length<=1048576
def eY (a:List Control) (Z:(List Control)->Prop):Prop:=
 ∀ bI:Int,bI=(a.length:Int)->(0<=bI/\bI<=1073741824)/\∀ l5:List Control,l5=List.replicate bI.toNat default->aL (σ:=Int × (List Control)) (fun (i16,l17) K21=>∀ len22:Int,len22=(a.length:Int)->∀ c24:Bool,c24=decide (i16<len22)->((c24=true->(0<=i16/\i16<a.length)/\∀ x27:Control,x27=at' a i16->∀ r29:Control,r29=iB x27->(0<=i16/\i16<l17.length)/\∀ x35:Control,x35=at' l17 i16->∀ l38:List Control,l38=l17.set i16.toNat r29->(bu (i16+1))/\∀ v45:Int,v45=i16+1->K21 (v45,l38))/\(c24=false->Z l17))) (0,l5)
theorem qY (a:List Control) (h:di a):eY a (fun y=>y=eU a):=by
 unfold eY;simp only[di] at h;simp only[forall_eq,Int.toNat_natCast];refine⟨by omega,aL.oz a.length (fun k out=>out=filled a k) _ (fk a).symm ?_⟩;rintro k out K hk rfl IH;have hl:=gb hk;simp only[decide_eq_true_eq,decide_eq_false_iff_not,bu,Int.toNat_natCast];refine⟨fun h1=>⟨by omega,by omega,by omega,IH (by omega) _ (gC (by omega))⟩,fun h1=>?_⟩;rw[show k=a.length by omega];exact gk a
abbrev tm (a:aN):=a
def nn (a:aN) (Z:aN->Prop):Prop:=
 Z a
theorem yN (a:aN):nn a (fun y=>y=tm a):=rfl
abbrev rV (a:List aN):=a
abbrev gO (a:List aN):Prop:=a.length<=1048576
def iH (a:List aN) (Z:(List aN)->Prop):Prop:=
 ∀ bI:Int,bI=(a.length:Int)->(0<=bI/\bI<=1073741824)/\∀ l5:List aN,l5=List.replicate bI.toNat default->aL (σ:=Int × (List aN)) (fun (i16,l17) K21=>∀ len22:Int,len22=(a.length:Int)->∀ c24:Bool,c24=decide (i16<len22)->((c24=true->(0<=i16/\i16<a.length)/\∀ x27:aN,x27=at' a i16->∀ r29:aN,r29=tm x27->(0<=i16/\i16<l17.length)/\∀ x35:aN,x35=at' l17 i16->∀ l38:List aN,l38=l17.set i16.toNat r29->(bu (i16+1))/\∀ v45:Int,v45=i16+1->K21 (v45,l38))/\(c24=false->Z l17))) (0,l5)
theorem xy (a:List aN) (h:gO a):iH a (fun y=>y=rV a):=by
 unfold iH;simp only[gO] at h;simp only[forall_eq,Int.toNat_natCast];refine⟨by omega,aL.oz a.length (fun k out=>out=filled a k) _ (fk a).symm ?_⟩;rintro k out K hk rfl IH;have hl:=gb hk;simp only[decide_eq_true_eq,decide_eq_false_iff_not,bu,Int.toNat_natCast];refine⟨fun h1=>⟨by omega,by omega,by omega,IH (by omega) _ (gC (by omega))⟩,fun h1=>?_⟩;rw[show k=a.length by omega];exact gk a
abbrev pP (a:ay):=a
abbrev k8 (a:ay):Prop:=a.links.length<=1048576
def ko (a:ay) (Z:ay->Prop):Prop:=
 (ga a.links)/\∀ r10:List Int,r10=tg a.links->Z (ay.mk a.control a.parent r10)
theorem z8 (a:ay) (h:k8 a):ko a (fun y=>y=pP a):=by
 unfold ko;exact⟨h,by rintro _ rfl;rfl⟩
abbrev sZ (a:List ay):=a
abbrev jn (a:List ay):Prop:=a.length<=1048576/\∀ x ∈ a,x.links.length<=1048576
def iW (a:List ay) (Z:(List ay)->Prop):Prop:=
 ∀ bI:Int,bI=(a.length:Int)->(0<=bI/\bI<=1073741824)/\∀ l5:List ay,l5=List.replicate bI.toNat default->aL (σ:=Int × (List ay)) (fun (i16,l17) K21=>∀ len22:Int,len22=(a.length:Int)->∀ c24:Bool,c24=decide (i16<len22)->((c24=true->(0<=i16/\i16<a.length)/\∀ x27:ay,x27=at' a i16->(k8 x27)/\∀ r30:ay,r30=pP x27->(0<=i16/\i16<l17.length)/\∀ x44:ay,x44=at' l17 i16->∀ l63:List ay,l63=l17.set i16.toNat r30->(bu (i16+1))/\∀ v70:Int,v70=i16+1->K21 (v70,l63))/\(c24=false->Z l17))) (0,l5)
theorem xC (a:List ay) (h:jn a):iW a (fun y=>y=sZ a):=by
 unfold iW;obtain⟨h,h'⟩:=h;simp only[forall_eq,Int.toNat_natCast];refine⟨by omega,aL.oz a.length (fun k out=>out=filled a k) _ (fk a).symm ?_⟩;rintro k out K hk rfl IH;have hl:=gb hk;simp only[decide_eq_true_eq,decide_eq_false_iff_not,bu,Int.toNat_natCast];refine⟨fun h1=>⟨by omega,?_,by omega,by omega,IH (by omega) _ (gC (by omega))⟩,fun h1=>?_⟩
 ·rw[bm (show k<a.length by omega)];exact h' _ (List.getElem_mem _)
 ·rw[show k=a.length by omega];exact gk a
abbrev dj (a:aG):=a
abbrev dF (a:aG):Prop:=(a.nodes.length<=1048576/\∀ x ∈ a.nodes,x.links.length<=1048576)/\a.sites.length<=1048576/\a.outer.length<=1048576/\a.inner.length<=1048576
def fQ (a:aG) (Z:aG->Prop):Prop:=
 (jn a.nodes)/\∀ r9:List ay,r9=sZ a.nodes->(ga a.sites)/\∀ r21:List Int,r21=tg a.sites->(eZ a.outer)/\∀ r37:List bc,r37=mR a.outer->(gO a.inner)/\∀ r51:List aN,r51=rV a.inner->Z (aG.mk a.roots r9 r21 a.edges r37 r51)
theorem sf (a:aG) (h:dF a):fQ a (fun y=>y=dj a):=by
 unfold fQ;simp only[forall_eq];exact⟨h.1,h.2.1,h.2.2.1,h.2.2.2,trivial⟩
section
variable {α:Type} (g:α->Int->α) (c:Int) (l:List α) (k:Int)
end
end Go.Ab.Vg
namespace Go.Ab.Vg
section
variable {α:Type} (m:α->Int->α × Int)
end
end Go.Ab.Vg
namespace Go.Ab
open Go.Proofs
theorem aM.yf {H:Heap} {n:Nat} (t:Bool) (x:ay):aM H n (.agg (x.cells t)) (.agg (x.cells false)):=aM.sr (.agg _ (tu t x)) (by rw[oO,ui])
theorem aM.ya {H:Heap} {n:Nat} (x:aN):aM H n (.agg x.cells) (.agg x.cells):=aM.aggF (by simp[aN.cells])
theorem aM.D8 {H:Heap} {n:Nat} (x:Control):aM H n (.agg x.cells) (.agg x.cells):=aM.aggF (by simp[Control.cells])
theorem e38:aZ prog 38:=aZ.of func38 (by kernel_rfl) rfl
theorem rU (p q:List (Int)) (hp:p.length<=1048576):aC prog 38 [.list false (p.map au),.list false (q.map au)] (fun r=>r=bool (decide (p=q))):=by
 refine aC.of func38 rfl ntmps38 (by simp) fun Q hQ=>?_
 refine zE fun _ V=>?_
 simp;apply V;refine zS fun _ V=>?_
 simp;apply V;refine J.ite rfl (fun hc1=>?_) (fun hc1=>?_)
 ·simp at hc1;refine zE fun _ V=>?_
  simp;apply V;refine J.ret func38 (aK.one results38) (hQ _ _ _ _ (.v _ _ _) ?_);have:p ≠ q:=by intro h;subst h;omega
  simp[this]
 ·simp at hc1;have hlen:p.length=q.length:=by omega
  apply J.skip;refine zS fun _ V=>?_
  simp;apply V;refine J.block (J.bM p.length (fun k O H n=>O 0 = .list false (p.map au)/\O 1 = .list false (q.map au)/\O 5=int k/\p.take k=q.take k) ?_ ?_)
  ·simp
  ·rintro k O H n hk ⟨h0,h1,h5,heq⟩ IH;refine zS fun _ V=>?_
   simp [h0, h5];apply V;refine J.ite rfl (fun hc2=>?_) (fun hc2=>?_)
   ·simp at hc2;have hq2:k<q.length:=by omega
    apply zK;apply J.block;refine J.fv av aE bL (by decide) (by kernel_rfl) fun _ V=>?_
    simp [h0, h1, h5, hc2, hq2, au];apply V;refine J.ite rfl (fun hc3=>?_) (fun hc3=>?_)
    ·simp at hc3;refine zE fun _ V=>?_
     simp;apply V;refine J.ret func38 (aK.one results38) (hQ _ _ _ _ (.v _ _ _) ?_);have:p ≠ q:=by intro h;subst h;exact hc3 rfl
     simp[this]
    ·simp at hc3;apply J.skip;refine zI fun _ V=>?_
     simp [h5, bf (show k < 4611686018427387904 by omega)];apply V;refine IH hc2 _ _ _ ?_;refine⟨by simp[h0,au],by simp[h1,au],by simp,?_⟩;rw[List.take_succ_eq_append_getElem hc2,List.take_succ_eq_append_getElem hq2,heq,hc3]
   ·simp at hc2;refine J.exit rfl ?_;refine zE fun _ V=>?_
    simp;apply V;refine J.ret func38 (aK.one results38) (hQ _ _ _ _ (.v _ _ _) ?_);rw[List.take_of_length_le hc2,List.take_of_length_le (by omega)] at heq;simp[heq]
theorem e39:aZ prog 39:=aZ.of func39 (by kernel_rfl) rfl
theorem tk (p q:List (bc)) (hp:p.length<=1048576):aC prog 39 [.list false (p.map a7),.list false (q.map a7)] (fun r=>r=bool (decide (p=q))):=by
 refine aC.of func39 rfl ntmps39 (by simp) fun Q hQ=>?_
 refine zE fun _ V=>?_
 simp;apply V;refine zS fun _ V=>?_
 simp;apply V;refine J.ite rfl (fun hc1=>?_) (fun hc1=>?_)
 ·simp at hc1;refine zE fun _ V=>?_
  simp;apply V;refine J.ret func39 (aK.one results39) (hQ _ _ _ _ (.v _ _ _) ?_);have:p ≠ q:=by intro h;subst h;omega
  simp[this]
 ·simp at hc1;have hlen:p.length=q.length:=by omega
  apply J.skip;refine zS fun _ V=>?_
  simp;apply V;refine J.block (J.bM p.length (fun k O H n=>O 0 = .list false (p.map a7)/\O 1 = .list false (q.map a7)/\O 5=int k/\p.take k=q.take k) ?_ ?_)
  ·simp
  ·rintro k O H n hk ⟨h0,h1,h5,heq⟩ IH;refine zS fun _ V=>?_
   simp [h0, h5];apply V;refine J.ite rfl (fun hc2=>?_) (fun hc2=>?_)
   ·simp at hc2;have hq2:k<q.length:=by omega
    apply zK;apply J.block;refine J.fv av aE bL (by decide) (by kernel_rfl) fun _ V=>?_
    simp [h0, h1, h5, hc2, hq2, a7];apply V;refine J.ite rfl (fun hc3=>?_) (fun hc3=>?_)
    ·simp at hc3;refine zE fun _ V=>?_
     simp;apply V;refine J.ret func39 (aK.one results39) (hQ _ _ _ _ (.v _ _ _) ?_);have:p ≠ q:=by intro h;subst h;exact hc3 rfl
     simp[this]
    ·simp at hc3;apply J.skip;refine zI fun _ V=>?_
     simp [h5, bf (show k < 4611686018427387904 by omega)];apply V;refine IH hc2 _ _ _ ?_;refine⟨by simp[h0,a7],by simp[h1,a7],by simp,?_⟩;rw[List.take_succ_eq_append_getElem hc2,List.take_succ_eq_append_getElem hq2,heq,hc3]
   ·simp at hc2;refine J.exit rfl ?_;refine zE fun _ V=>?_
    simp;apply V;refine J.ret func39 (aK.one results39) (hQ _ _ _ _ (.v _ _ _) ?_);rw[List.take_of_length_le hc2,List.take_of_length_le (by omega)] at heq;simp[heq]
theorem e92:aZ prog 92:=aZ.of func92 (by kernel_rfl) rfl
theorem zY (x y:aN):aC prog 92 [.agg (aN.cells x),.agg (aN.cells y)] (fun r=>r=bool (decide (x=y))):=by
 obtain⟨x0,x1⟩:=x;obtain⟨y0,y1⟩:=y;refine aC.of func92 rfl ntmps92 (by simp) fun Q hQ=>?_
 refine zE fun _ V=>?_
 simp [aN.cells, bB, encI, encS, bH];apply V;refine zS fun _ V=>?_
 simp;apply V;refine J.ite rfl (fun hc=>?_) (fun hd0=>?_)
 ·simp at hc;refine zE fun _ V=>?_
  simp;apply V;exact J.ret func92 (aK.one results92) (hQ _ _ _ _ (.v _ _ _) (by simp[hc]))
 simp at hd0;apply J.skip;refine zS fun _ V=>?_
 simp;apply V;refine J.ite rfl (fun hc=>?_) (fun hd1=>?_)
 ·simp at hc;refine zE fun _ V=>?_
  simp;apply V;exact J.ret func92 (aK.one results92) (hQ _ _ _ _ (.v _ _ _) (by simp[hc]))
 simp at hd1;apply J.skip;refine zE fun _ V=>?_
 simp;apply V;exact J.ret func92 (aK.one results92) (hQ _ _ _ _ (.v _ _ _) (by simp[hd0,hd1]))
theorem e40:aZ prog 40:=aZ.of func40 (by kernel_rfl) rfl
theorem wv (p q:List (aN)) (hp:p.length<=1048576):aC prog 40 [.list false (p.map aN.cells),.list false (q.map aN.cells)] (fun r=>r=bool (decide (p=q))):=by
 refine aC.of func40 rfl ntmps40 (by simp) fun Q hQ=>?_
 refine zE fun _ V=>?_
 simp;apply V;refine zS fun _ V=>?_
 simp;apply V;refine J.ite rfl (fun hc1=>?_) (fun hc1=>?_)
 ·simp at hc1;refine zE fun _ V=>?_
  simp;apply V;refine J.ret func40 (aK.one results40) (hQ _ _ _ _ (.v _ _ _) ?_);have:p ≠ q:=by intro h;subst h;omega
  simp[this]
 ·simp at hc1;have hlen:p.length=q.length:=by omega
  apply J.skip;refine zS fun _ V=>?_
  simp;apply V;refine J.block (J.bM p.length (fun k O H n=>O 0 = .list false (p.map aN.cells)/\O 1 = .list false (q.map aN.cells)/\O 5=int k/\p.take k=q.take k) ?_ ?_)
  ·simp
  ·rintro k O H n hk ⟨h0,h1,h5,heq⟩ IH;refine zS fun _ V=>?_
   simp [h0, h5];apply V;refine J.ite rfl (fun hc2=>?_) (fun hc2=>?_)
   ·simp at hc2;have hq2:k<q.length:=by omega
    apply zK;apply J.block;refine J.fv av aE bL (by decide) (by kernel_rfl) fun _ V=>?_
    simp [h0, h1, h5, hc2, hq2, aN.cells];refine bh.b7 av aE (zY p[k] q[k]) e92 (.cons (aM.ya p[k]) (.cons (aM.ya q[k]) .nil)) (by decide) rfl (by simp[aN.cells]) ?_;simp;apply V;refine J.ite rfl (fun hc3=>?_) (fun hc3=>?_)
    ·simp at hc3;refine zE fun _ V=>?_
     simp;apply V;refine J.ret func40 (aK.one results40) (hQ _ _ _ _ (.v _ _ _) ?_);have:p ≠ q:=by intro h;subst h;exact hc3 rfl
     simp[this]
    ·simp at hc3;apply J.skip;refine zI fun _ V=>?_
     simp [h5, bf (show k < 4611686018427387904 by omega)];apply V;refine IH hc2 _ _ _ ?_;refine⟨by simp[h0,aN.cells],by simp[h1,aN.cells],by simp,?_⟩;rw[List.take_succ_eq_append_getElem hc2,List.take_succ_eq_append_getElem hq2,heq,hc3]
   ·simp at hc2;refine J.exit rfl ?_;refine zE fun _ V=>?_
    simp;apply V;refine J.ret func40 (aK.one results40) (hQ _ _ _ _ (.v _ _ _) ?_);rw[List.take_of_length_le hc2,List.take_of_length_le (by omega)] at heq;simp[heq]
theorem e36:aZ prog 36:=aZ.of func36 (by kernel_rfl) rfl
theorem tl (x y:Control):aC prog 36 [.agg (Control.cells x),.agg (Control.cells y)] (fun r=>r=bool (decide (x=y))):=by
 obtain⟨x0,x1,x2⟩:=x;obtain⟨y0,y1,y2⟩:=y;refine aC.of func36 rfl ntmps36 (by simp) fun Q hQ=>?_
 refine zE fun _ V=>?_
 simp [Control.cells, bB, encI, encS, bH];apply V;refine zS fun _ V=>?_
 simp;apply V;refine J.ite rfl (fun hc=>?_) (fun hd0=>?_)
 ·simp at hc;refine zE fun _ V=>?_
  simp;apply V;exact J.ret func36 (aK.one results36) (hQ _ _ _ _ (.v _ _ _) (by simp[hc]))
 simp at hd0;apply J.skip;refine zS fun _ V=>?_
 simp;apply V;refine J.ite rfl (fun hc=>?_) (fun hd1=>?_)
 ·simp at hc;refine zE fun _ V=>?_
  simp;apply V;exact J.ret func36 (aK.one results36) (hQ _ _ _ _ (.v _ _ _) (by simp[hc]))
 simp at hd1;apply J.skip;refine zS fun _ V=>?_
 simp;apply V;refine J.ite rfl (fun hc=>?_) (fun hd2=>?_)
 ·simp at hc;refine zE fun _ V=>?_
  simp;apply V;exact J.ret func36 (aK.one results36) (hQ _ _ _ _ (.v _ _ _) (by simp[hc]))
 simp at hd2;apply J.skip;refine zE fun _ V=>?_
 simp;apply V;exact J.ret func36 (aK.one results36) (hQ _ _ _ _ (.v _ _ _) (by simp[hd0,hd1,hd2]))
theorem e11:aZ prog 11:=aZ.of func11 (by kernel_rfl) rfl
theorem qX (p q:List (Control)) (hp:p.length<=1048576):aC prog 11 [.list false (p.map Control.cells),.list false (q.map Control.cells)] (fun r=>r=bool (decide (p=q))):=by
 refine aC.of func11 rfl ntmps11 (by simp) fun Q hQ=>?_
 refine zE fun _ V=>?_
 simp;apply V;refine zS fun _ V=>?_
 simp;apply V;refine J.ite rfl (fun hc1=>?_) (fun hc1=>?_)
 ·simp at hc1;refine zE fun _ V=>?_
  simp;apply V;refine J.ret func11 (aK.one results11) (hQ _ _ _ _ (.v _ _ _) ?_);have:p ≠ q:=by intro h;subst h;omega
  simp[this]
 ·simp at hc1;have hlen:p.length=q.length:=by omega
  apply J.skip;refine zS fun _ V=>?_
  simp;apply V;refine J.block (J.bM p.length (fun k O H n=>O 0 = .list false (p.map Control.cells)/\O 1 = .list false (q.map Control.cells)/\O 5=int k/\p.take k=q.take k) ?_ ?_)
  ·simp
  ·rintro k O H n hk ⟨h0,h1,h5,heq⟩ IH;refine zS fun _ V=>?_
   simp [h0, h5];apply V;refine J.ite rfl (fun hc2=>?_) (fun hc2=>?_)
   ·simp at hc2;have hq2:k<q.length:=by omega
    apply zK;apply J.block;refine J.fv av aE bL (by decide) (by kernel_rfl) fun _ V=>?_
    simp [h0, h1, h5, hc2, hq2, Control.cells];refine bh.b7 av aE (tl p[k] q[k]) e36 (.cons (aM.D8 p[k]) (.cons (aM.D8 q[k]) .nil)) (by decide) rfl (by simp[Control.cells]) ?_;simp;apply V;refine J.ite rfl (fun hc3=>?_) (fun hc3=>?_)
    ·simp at hc3;refine zE fun _ V=>?_
     simp;apply V;refine J.ret func11 (aK.one results11) (hQ _ _ _ _ (.v _ _ _) ?_);have:p ≠ q:=by intro h;subst h;exact hc3 rfl
     simp[this]
    ·simp at hc3;apply J.skip;refine zI fun _ V=>?_
     simp [h5, bf (show k < 4611686018427387904 by omega)];apply V;refine IH hc2 _ _ _ ?_;refine⟨by simp[h0,Control.cells],by simp[h1,Control.cells],by simp,?_⟩;rw[List.take_succ_eq_append_getElem hc2,List.take_succ_eq_append_getElem hq2,heq,hc3]
   ·simp at hc2;refine J.exit rfl ?_;refine zE fun _ V=>?_
    simp;apply V;refine J.ret func11 (aK.one results11) (hQ _ _ _ _ (.v _ _ _) ?_);rw[List.take_of_length_le hc2,List.take_of_length_le (by omega)] at heq;simp[heq]
theorem e91:aZ prog 91:=aZ.of func91 (by kernel_rfl) rfl
theorem yz (x y:ay) (hl:x.links.length<=1048576):aC prog 91 [.agg (ay.cells false x),.agg (ay.cells false y)] (fun r=>r=bool (decide (x=y))):=by
 obtain⟨x0,x1,x2⟩:=x;obtain⟨y0,y1,y2⟩:=y;refine aC.of func91 rfl ntmps91 (by simp) fun Q hQ=>?_
 refine zE fun _ V=>?_
 simp [ay.cells, bB, encI, encS, bH];apply V;refine zS fun _ V=>?_
 simp;apply V;refine J.ite rfl (fun hc=>?_) (fun hd0=>?_)
 ·simp at hc;refine zE fun _ V=>?_
  simp;apply V;exact J.ret func91 (aK.one results91) (hQ _ _ _ _ (.v _ _ _) (by simp[hc]))
 simp at hd0;apply J.skip;refine zS fun _ V=>?_
 simp;apply V;refine J.ite rfl (fun hc=>?_) (fun hd1=>?_)
 ·simp at hc;refine zE fun _ V=>?_
  simp;apply V;exact J.ret func91 (aK.one results91) (hQ _ _ _ _ (.v _ _ _) (by simp[hc]))
 simp at hd1;apply J.skip;refine zS fun _ V=>?_
 simp;refine zA (rU x2 y2 hl) e38 (.cons (aM.encI false x2) (.cons (aM.encI false y2) .nil)) (by simp[bB,encI,encS,bH]) ?_;rintro _ rfl;simp;apply V;refine J.ite rfl (fun hc=>?_) (fun hd2=>?_)
 ·simp at hc;refine zE fun _ V=>?_
  simp;apply V;exact J.ret func91 (aK.one results91) (hQ _ _ _ _ (.v _ _ _) (by simp[hc]))
 simp at hd2;apply J.skip;refine zE fun _ V=>?_
 simp;apply V;exact J.ret func91 (aK.one results91) (hQ _ _ _ _ (.v _ _ _) (by simp[hd0,hd1,hd2]))
theorem e37:aZ prog 37:=aZ.of func37 (by kernel_rfl) rfl
theorem wF (p q:List (ay)) (hp:p.length<=1048576) (hl:∀ x ∈ p,x.links.length<=1048576):aC prog 37 [.list false (p.map (ay.cells false)),.list false (q.map (ay.cells false))] (fun r=>r=bool (decide (p=q))):=by
 refine aC.of func37 rfl ntmps37 (by simp) fun Q hQ=>?_
 refine zE fun _ V=>?_
 simp;apply V;refine zS fun _ V=>?_
 simp;apply V;refine J.ite rfl (fun hc1=>?_) (fun hc1=>?_)
 ·simp at hc1;refine zE fun _ V=>?_
  simp;apply V;refine J.ret func37 (aK.one results37) (hQ _ _ _ _ (.v _ _ _) ?_);have:p ≠ q:=by intro h;subst h;omega
  simp[this]
 ·simp at hc1;have hlen:p.length=q.length:=by omega
  apply J.skip;refine zS fun _ V=>?_
  simp;apply V;refine J.block (J.bM p.length (fun k O H n=>O 0 = .list false (p.map (ay.cells false))/\O 1 = .list false (q.map (ay.cells false))/\O 5=int k/\p.take k=q.take k) ?_ ?_)
  ·simp
  ·rintro k O H n hk ⟨h0,h1,h5,heq⟩ IH;refine zS fun _ V=>?_
   simp [h0, h5];apply V;refine J.ite rfl (fun hc2=>?_) (fun hc2=>?_)
   ·simp at hc2;have hq2:k<q.length:=by omega
    apply zK;apply J.block;refine J.fv av aE bL (by decide) (by kernel_rfl) fun _ V=>?_
    simp [h0, h1, h5, hc2, hq2, ay.cells];refine bh.b7 av aE (yz p[k] q[k] (hl _ (List.getElem_mem hc2))) e91 (.cons (aM.yf false p[k]) (.cons (aM.yf false q[k]) .nil)) (by decide) rfl (by simp[ay.cells]) ?_;simp;apply V;refine J.ite rfl (fun hc3=>?_) (fun hc3=>?_)
    ·simp at hc3;refine zE fun _ V=>?_
     simp;apply V;refine J.ret func37 (aK.one results37) (hQ _ _ _ _ (.v _ _ _) ?_);have:p ≠ q:=by intro h;subst h;exact hc3 rfl
     simp[this]
    ·simp at hc3;apply J.skip;refine zI fun _ V=>?_
     simp [h5, bf (show k < 4611686018427387904 by omega)];apply V;refine IH hc2 _ _ _ ?_;refine⟨by simp[h0,ay.cells],by simp[h1,ay.cells],by simp,?_⟩;rw[List.take_succ_eq_append_getElem hc2,List.take_succ_eq_append_getElem hq2,heq,hc3]
   ·simp at hc2;refine J.exit rfl ?_;refine zE fun _ V=>?_
    simp;apply V;refine J.ret func37 (aK.one results37) (hQ _ _ _ _ (.v _ _ _) ?_);rw[List.take_of_length_le hc2,List.take_of_length_le (by omega)] at heq;simp[heq]
theorem e12:aZ prog 12:=aZ.of func12 (by kernel_rfl) rfl
theorem rW (x y:aG) (hb:x.nodes.length<=1048576/\(∀ z ∈ x.nodes,z.links.length<=1048576)/\x.sites.length<=1048576/\x.outer.length<=1048576/\x.inner.length<=1048576):aC prog 12 [.agg (aG.cells false x),.agg (aG.cells false y)] (fun r=>r=bool (decide (x=y))):=by
 obtain⟨x0,x1,x2,x3,x4,x5⟩:=x;obtain⟨y0,y1,y2,y3,y4,y5⟩:=y;refine aC.of func12 rfl ntmps12 (by simp) fun Q hQ=>?_
 refine zE fun _ V=>?_
 simp [aG.cells, bB, encI, encS, bH];apply V;refine zS fun _ V=>?_
 simp;apply V;refine J.ite rfl (fun hc=>?_) (fun hd0=>?_)
 ·simp at hc;refine zE fun _ V=>?_
  simp;apply V;exact J.ret func12 (aK.one results12) (hQ _ _ _ _ (.v _ _ _) (by simp[hc]))
 simp at hd0;apply J.skip;refine zS fun _ V=>?_
 simp;refine zA (wF x1 y1 hb.1 hb.2.1) e37 (.cons (aM.bB false x1) (.cons (aM.bB false y1) .nil)) (by simp[bB,encI,encS,bH]) ?_;rintro _ rfl;simp;apply V;refine J.ite rfl (fun hc=>?_) (fun hd1=>?_)
 ·simp at hc;refine zE fun _ V=>?_
  simp;apply V;exact J.ret func12 (aK.one results12) (hQ _ _ _ _ (.v _ _ _) (by simp[hc]))
 simp at hd1;apply J.skip;refine zS fun _ V=>?_
 simp;refine zA (rU x2 y2 hb.2.2.1) e38 (.cons (aM.encI false x2) (.cons (aM.encI false y2) .nil)) (by simp[bB,encI,encS,bH]) ?_;rintro _ rfl;simp;apply V;refine J.ite rfl (fun hc=>?_) (fun hd2=>?_)
 ·simp at hc;refine zE fun _ V=>?_
  simp;apply V;exact J.ret func12 (aK.one results12) (hQ _ _ _ _ (.v _ _ _) (by simp[hc]))
 simp at hd2;apply J.skip;refine zS fun _ V=>?_
 simp;apply V;refine J.ite rfl (fun hc=>?_) (fun hd3=>?_)
 ·simp at hc;refine zE fun _ V=>?_
  simp;apply V;exact J.ret func12 (aK.one results12) (hQ _ _ _ _ (.v _ _ _) (by simp[hc]))
 simp at hd3;apply J.skip;refine zS fun _ V=>?_
 simp;refine zA (tk x4 y4 hb.2.2.2.1) e39 (.cons (aM.encS false x4) (.cons (aM.encS false y4) .nil)) (by simp[bB,encI,encS,bH]) ?_;rintro _ rfl;simp;apply V;refine J.ite rfl (fun hc=>?_) (fun hd4=>?_)
 ·simp at hc;refine zE fun _ V=>?_
  simp;apply V;exact J.ret func12 (aK.one results12) (hQ _ _ _ _ (.v _ _ _) (by simp[hc]))
 simp at hd4;apply J.skip;refine zS fun _ V=>?_
 simp;refine zA (wv x5 y5 hb.2.2.2.2) e40 (.cons (aM.bH false x5) (.cons (aM.bH false y5) .nil)) (by simp[bB,encI,encS,bH]) ?_;rintro _ rfl;simp;apply V;refine J.ite rfl (fun hc=>?_) (fun hd5=>?_)
 ·simp at hc;refine zE fun _ V=>?_
  simp;apply V;exact J.ret func12 (aK.one results12) (hQ _ _ _ _ (.v _ _ _) (by simp[hc]))
 simp at hd5;apply J.skip;refine zE fun _ V=>?_
 simp;apply V;exact J.ret func12 (aK.one results12) (hQ _ _ _ _ (.v _ _ _) (by simp[hd0,hd1,hd2,hd3,hd4,hd5]))
end Go.Ab
namespace Go.Ab
open Go.Proofs
theorem e29:aZ prog 29:=aZ.of func29 (by kernel_rfl) rfl
theorem iv (p:List (Int)) (hp:p.length<=1048576):aC prog 29 [.list false (p.map au)] (fun r=>r = .list true (p.map au)):=by
 refine aC.of func29 rfl ntmps29 (by simp) fun Q hQ=>?_
 refine zE fun _ V=>?_
 simp;apply V;refine zE fun _ V=>?_
 simp [show (p.length : Int) <= 1073741824 by omega];apply V;refine zS fun _ V=>?_
 simp;apply V;refine J.block (J.bM p.length (fun k O H n=>O 0 = .list false (p.map au)/\O 4=int k/\O 3 = .arr (0,7) p.length 0 p.length/\H (0,7)=some ⟨1,part au [int 0] p k⟩) ?_ ?_)
 ·simp[au,hZ]
 ·rintro k O H n hk ⟨h0,h4,h3,hH⟩ IH;refine zS fun _ V=>?_
  simp [h0, h4];apply V;refine J.ite rfl (fun hc1=>?_) (fun hc1=>?_)
  ·simp at hc1;apply zK;apply J.block;refine zF fun _ V=>?_
   simp [h0, h3, h4, hH, hc1, fh hk, eI hc1, au];apply V;refine zI fun _ V=>?_
   simp [h4, bf (show k < 4611686018427387904 by omega)];apply V;refine IH hc1 _ _ _ ?_;rw[<- jJ hc1];simp[h0,h3,au,iA hc1]
  ·simp at hc1;have hke:k=p.length:=by omega
   subst hke;rw[js] at hH;refine J.exit rfl ?_;refine zE fun _ V=>?_
   simp [h3];apply V;exact J.ret func29 (aK.one results29) (hQ _ _ _ _ (.of (ic.xh (by simp[hH];rfl) (by simp[au,au]))) rfl)
theorem e30:aZ prog 30:=aZ.of func30 (by kernel_rfl) rfl
theorem iD (p:List (bc)) (hp:p.length<=1048576):aC prog 30 [.list false (p.map a7)] (fun r=>r = .list true (p.map a7)):=by
 refine aC.of func30 rfl ntmps30 (by simp) fun Q hQ=>?_
 refine zE fun _ V=>?_
 simp;apply V;refine zE fun _ V=>?_
 simp [show (p.length : Int) <= 1073741824 by omega];apply V;refine zS fun _ V=>?_
 simp;apply V;refine J.block (J.bM p.length (fun k O H n=>O 0 = .list false (p.map a7)/\O 4=int k/\O 3 = .arr (0,7) p.length 0 p.length/\H (0,7)=some ⟨1,part a7 [str []] p k⟩) ?_ ?_)
 ·simp[a7,hZ]
 ·rintro k O H n hk ⟨h0,h4,h3,hH⟩ IH;refine zS fun _ V=>?_
  simp [h0, h4];apply V;refine J.ite rfl (fun hc1=>?_) (fun hc1=>?_)
  ·simp at hc1;apply zK;apply J.block;refine zF fun _ V=>?_
   simp [h0, h3, h4, hH, hc1, fh hk, eI hc1, a7];apply V;refine zI fun _ V=>?_
   simp [h4, bf (show k < 4611686018427387904 by omega)];apply V;refine IH hc1 _ _ _ ?_;rw[<- jJ hc1];simp[h0,h3,a7,iA hc1]
  ·simp at hc1;have hke:k=p.length:=by omega
   subst hke;rw[js] at hH;refine J.exit rfl ?_;refine zE fun _ V=>?_
   simp [h3];apply V;exact J.ret func30 (aK.one results30) (hQ _ _ _ _ (.of (ic.xh (by simp[hH];rfl) (by simp[a7,au]))) rfl)
end Go.Ab
namespace Go.Ab
open Go.Proofs
theorem e68:aZ prog 68:=aZ.of func68 (by kernel_rfl) rfl
theorem na (x:aN):aC prog 68 [.agg (aN.cells x)] (fun r=>r = .agg (aN.cells x)):=by
 refine aC.of func68 rfl ntmps68 (by simp) fun Q hQ=>?_
 refine zE fun _ V=>?_
 simp [aN.cells, bB, encI, encS, bH];apply V;refine zE fun _ V=>?_
 simp;apply V;refine zE fun _ V=>?_
 simp;apply V;refine zE fun _ V=>?_
 simp;apply V;refine zE fun _ V=>?_
 simp;apply V;exact J.ret func68 (aK.cell (cs:=aN.cells x) (v:=.agg (aN.cells x)) av results68 Ek (by simp[aN.cells,bB,encI,encS,bH]) (by simp[jw,aN.cells])) (hQ _ _ _ _ (.of (ic.fresh (by simp[aN.cells,bB,encI,encS,bH,ay.cells,au,a7,aN.cells]))) rfl)
theorem e27:aZ prog 27:=aZ.of func27 (by kernel_rfl) rfl
theorem iT (x:Control):aC prog 27 [.agg (Control.cells x)] (fun r=>r = .agg (Control.cells x)):=by
 refine aC.of func27 rfl ntmps27 (by simp) fun Q hQ=>?_
 refine zE fun _ V=>?_
 simp [Control.cells, bB, encI, encS, bH];apply V;refine zE fun _ V=>?_
 simp;apply V;refine zE fun _ V=>?_
 simp;apply V;refine zE fun _ V=>?_
 simp;apply V;refine zE fun _ V=>?_
 simp;apply V;refine zE fun _ V=>?_
 simp;apply V;exact J.ret func27 (aK.cell (cs:=Control.cells x) (v:=.agg (Control.cells x)) av results27 Et (by simp[Control.cells,bB,encI,encS,bH]) (by simp[jw,Control.cells])) (hQ _ _ _ _ (.of (ic.fresh (by simp[Control.cells,bB,encI,encS,bH,ay.cells,au,a7,aN.cells]))) rfl)
theorem e67:aZ prog 67:=aZ.of func67 (by kernel_rfl) rfl
theorem nG (x:ay) (hl:x.links.length<=1048576):aC prog 67 [.agg (ay.cells false x)] (fun r=>r = .agg (ay.cells true x)):=by
 refine aC.of func67 rfl ntmps67 (by simp) fun Q hQ=>?_
 refine zE fun _ V=>?_
 simp [ay.cells, bB, encI, encS, bH];apply V;refine zE fun _ V=>?_
 simp;apply V;refine zE fun _ V=>?_
 simp;apply V;refine zE fun _ V=>?_
 simp;apply V;refine zE fun _ V=>?_
 simp;refine zA (iv x.links hl) e29 (.cons (aM.encI false x.links) .nil) (by simp[bB,encI,encS,bH]) ?_;rintro _ rfl;simp;apply V;refine zE fun _ V=>?_
 simp;apply V;exact J.ret func67 (aK.cell (cs:=ay.cells true x) (v:=.agg (ay.cells true x)) av results67 x6 (by simp[ay.cells,bB,encI,encS,bH]) (by simp[jw,ay.cells])) (hQ _ _ _ _ (.of (ic.fresh (by simp[ay.cells,bB,encI,encS,bH,ay.cells,au,a7,aN.cells]))) rfl)
theorem e31:aZ prog 31:=aZ.of func31 (by kernel_rfl) rfl
theorem k7 (p:List (aN)) (hp:p.length<=1048576):aC prog 31 [.list false (p.map aN.cells)] (fun r=>r = .list true (p.map aN.cells)):=by
 refine aC.of func31 rfl ntmps31 (by simp) fun Q hQ=>?_
 refine zE fun _ V=>?_
 simp;apply V;refine zE fun _ V=>?_
 simp [show (p.length : Int) <= 1073741824 by omega];apply V;refine zS fun _ V=>?_
 simp;apply V;refine J.block (J.bM p.length (fun k O H n=>O 0 = .list false (p.map aN.cells)/\O 4=int k/\O 3 = .arr (0,7) p.length 0 p.length/\H (0,7)=some ⟨2,part aN.cells [str [],int 0] p k⟩) ?_ ?_)
 ·simp[aN.cells,hZ]
 ·rintro k O H n hk ⟨h0,h4,h3,hH⟩ IH;refine zS fun _ V=>?_
  simp [h0, h4];apply V;refine J.ite rfl (fun hc1=>?_) (fun hc1=>?_)
  ·simp at hc1;apply zK;apply J.block;refine zF fun _ V=>?_
   simp [h0, h3, h4, hH, hc1, fh hk, eI hc1, aN.cells];refine zA (na p[k]) e68 (.cons (aM.ya _) .nil) (by simp[aN.cells]) ?_;rintro _ rfl;simp[h3,h4,hH,hc1,fh hk,eI hc1,aN.cells];apply V;refine zI fun _ V=>?_
   simp [h4, bf (show k < 4611686018427387904 by omega)];apply V;refine IH hc1 _ _ _ ?_;rw[<- jJ hc1];simp[h0,h3,aN.cells,iA hc1]
  ·simp at hc1;have hke:k=p.length:=by omega
   subst hke;rw[js] at hH;refine J.exit rfl ?_;refine zE fun _ V=>?_
   simp [h3];apply V;exact J.ret func31 (aK.one results31) (hQ _ _ _ _ (.of (ic.xh (by simp[hH];rfl) (by simp[aN.cells,au]))) rfl)
theorem e8:aZ prog 8:=aZ.of func8 (by kernel_rfl) rfl
theorem eX (p:List (Control)) (hp:p.length<=1048576):aC prog 8 [.list false (p.map Control.cells)] (fun r=>r = .list true (p.map Control.cells)):=by
 refine aC.of func8 rfl ntmps8 (by simp) fun Q hQ=>?_
 refine zE fun _ V=>?_
 simp;apply V;refine zE fun _ V=>?_
 simp [show (p.length : Int) <= 1073741824 by omega];apply V;refine zS fun _ V=>?_
 simp;apply V;refine J.block (J.bM p.length (fun k O H n=>O 0 = .list false (p.map Control.cells)/\O 4=int k/\O 3 = .arr (0,7) p.length 0 p.length/\H (0,7)=some ⟨3,part Control.cells [str [],int 0,int 0] p k⟩) ?_ ?_)
 ·simp[Control.cells,hZ]
 ·rintro k O H n hk ⟨h0,h4,h3,hH⟩ IH;refine zS fun _ V=>?_
  simp [h0, h4];apply V;refine J.ite rfl (fun hc1=>?_) (fun hc1=>?_)
  ·simp at hc1;apply zK;apply J.block;refine zF fun _ V=>?_
   simp [h0, h3, h4, hH, hc1, fh hk, eI hc1, Control.cells];refine zA (iT p[k]) e27 (.cons (aM.D8 _) .nil) (by simp[Control.cells]) ?_;rintro _ rfl;simp[h3,h4,hH,hc1,fh hk,eI hc1,Control.cells];apply V;refine zI fun _ V=>?_
   simp [h4, bf (show k < 4611686018427387904 by omega)];apply V;refine IH hc1 _ _ _ ?_;rw[<- jJ hc1];simp[h0,h3,Control.cells,iA hc1]
  ·simp at hc1;have hke:k=p.length:=by omega
   subst hke;rw[js] at hH;refine J.exit rfl ?_;refine zE fun _ V=>?_
   simp [h3];apply V;exact J.ret func8 (aK.one results8) (hQ _ _ _ _ (.of (ic.xh (by simp[hH];rfl) (by simp[Control.cells,au]))) rfl)
theorem e28:aZ prog 28:=aZ.of func28 (by kernel_rfl) rfl
theorem kM (p:List (ay)) (hp:p.length<=1048576) (hl:∀ x ∈ p,x.links.length<=1048576):aC prog 28 [.list false (p.map (ay.cells false))] (fun r=>r = .list true (p.map (ay.cells true))):=by
 refine aC.of func28 rfl ntmps28 (by simp) fun Q hQ=>?_
 refine zE fun _ V=>?_
 simp;apply V;refine zE fun _ V=>?_
 simp [show (p.length : Int) <= 1073741824 by omega];apply V;refine zS fun _ V=>?_
 simp;apply V;refine J.block (J.bM p.length (fun k O H n=>O 0 = .list false (p.map (ay.cells false))/\O 4=int k/\O 3 = .arr (0,7) p.length 0 p.length/\H (0,7)=some ⟨3,part (ay.cells true) [int 0,int 0,.v (.slice none 0 0)] p k⟩) ?_ ?_)
 ·simp[ay.cells,hZ]
 ·rintro k O H n hk ⟨h0,h4,h3,hH⟩ IH;refine zS fun _ V=>?_
  simp [h0, h4];apply V;refine J.ite rfl (fun hc1=>?_) (fun hc1=>?_)
  ·simp at hc1;apply zK;apply J.block;refine zF fun _ V=>?_
   simp [h0, h3, h4, hH, hc1, fh hk, eI hc1, ay.cells];refine zA (nG p[k] (hl _ (List.getElem_mem hc1))) e67 (.cons (aM.yf false _) .nil) (by simp[ay.cells]) ?_;rintro _ rfl;simp[h3,h4,hH,hc1,fh hk,eI hc1,ay.cells];apply V;refine zI fun _ V=>?_
   simp [h4, bf (show k < 4611686018427387904 by omega)];apply V;refine IH hc1 _ _ _ ?_;rw[<- jJ hc1];simp[h0,h3,ay.cells,iA hc1]
  ·simp at hc1;have hke:k=p.length:=by omega
   subst hke;rw[js] at hH;refine J.exit rfl ?_;refine zE fun _ V=>?_
   simp [h3];apply V;exact J.ret func28 (aK.one results28) (hQ _ _ _ _ (.of (ic.xh (by simp[hH];rfl) (by simp[ay.cells,au]))) rfl)
theorem e9:aZ prog 9:=aZ.of func9 (by kernel_rfl) rfl
theorem fN (x:aG) (hb:x.nodes.length<=1048576/\(∀ z ∈ x.nodes,z.links.length<=1048576)/\x.sites.length<=1048576/\x.outer.length<=1048576/\x.inner.length<=1048576):aC prog 9 [.agg (aG.cells false x)] (fun r=>r = .agg (aG.cells true x)):=by
 refine aC.of func9 rfl ntmps9 (by simp) fun Q hQ=>?_
 refine zE fun _ V=>?_
 simp [aG.cells, bB, encI, encS, bH];apply V;refine zE fun _ V=>?_
 simp;apply V;refine zE fun _ V=>?_
 simp;apply V;refine zE fun _ V=>?_
 simp;refine zA (kM x.nodes hb.1 hb.2.1) e28 (.cons (aM.bB false x.nodes) .nil) (by simp[bB,encI,encS,bH]) ?_;rintro _ rfl;simp;apply V;refine zE fun _ V=>?_
 simp;refine zA (iv x.sites hb.2.2.1) e29 (.cons (aM.encI false x.sites) .nil) (by simp[bB,encI,encS,bH]) ?_;rintro _ rfl;simp;apply V;refine zE fun _ V=>?_
 simp;apply V;refine zE fun _ V=>?_
 simp;refine zA (iD x.outer hb.2.2.2.1) e30 (.cons (aM.encS false x.outer) .nil) (by simp[bB,encI,encS,bH]) ?_;rintro _ rfl;simp;apply V;refine zE fun _ V=>?_
 simp;refine zA (k7 x.inner hb.2.2.2.2) e31 (.cons (aM.bH false x.inner) .nil) (by simp[bB,encI,encS,bH]) ?_;rintro _ rfl;simp;apply V;refine zE fun _ V=>?_
 simp;apply V;exact J.ret func9 (aK.cell (cs:=aG.cells true x) (v:=.agg (aG.cells true x)) av results9 yb (by simp[aG.cells,bB,encI,encS,bH]) (by simp[jw,aG.cells])) (hQ _ _ _ _ (.of (ic.fresh (by simp[aG.cells,bB,encI,encS,bH,ay.cells,au,a7,aN.cells]))) rfl)
end Go.Ab
namespace Go.Ab
open Go.Proofs
end Go.Ab
namespace Go.Ab
open Go.Proofs
end Go.Ab
namespace Go.Ab
open Go.Proofs
def dv (s:bc) (left:Int):Int:=if left - s.length<0 then -1 else left - s.length
def Small (p:Proc):Prop:=p.length<=9223372036854775807/\∀ x ∈ p,x.name.length<=9223372036854775807
end Go.Ab
namespace Go.Ab
open Go.Proofs
def tn {α:Type} (f:α->Int->Int):List α->Int->Int
 | [],left=>left
 | x::r,left=>if f x left<0 then -1 else tn f r (f x left)
def gW {α:Type} (f:α->Int->Int) (l:List α) (left:Int):Int:=if left - l.length<0 then -1 else tn f l (left - l.length)
def qV (l:List Int) (left:Int):Int:=if left - l.length<0 then -1 else left - l.length
def tK (x:Control) (left:Int):Int:=dv x.name left
def yA (x:aN) (left:Int):Int:=dv x.name left
def pJ (x:ay) (left:Int):Int:=qV x.links left
class SzF {α:Type} (f:α->Int->Int):Prop where
 le:∀ x left,0<=left->f x left<=left
theorem vG {α:Type} (f:α->Int->Int) [SzF f] (x:α) (left:Int) (h:0<=left):f x left<=left:=SzF.le x left h
instance:SzF dv:=⟨fun x left h=>by unfold dv;split<;>omega⟩
instance:SzF qV:=⟨fun x left h=>by unfold qV;split<;>omega⟩
instance:SzF tK:=⟨fun x left h=>by unfold tK dv;split<;>omega⟩
instance:SzF yA:=⟨fun x left h=>by unfold yA dv;split<;>omega⟩
instance:SzF pJ:=⟨fun x left h=>by unfold pJ qV;split<;>omega⟩
theorem e18:aZ prog 18:=aZ.of func18 (by kernel_rfl) rfl
theorem sR (x:Control) (left:Int) (h0:0<=left) (h1:left<=1048576) (hn:x.name.length<=9223372036854775807):aC prog 18 [.agg x.cells,int left] (fun r=>r=int (tK x left)):=by
 refine aC.of func18 rfl ntmps18 (by simp) fun Q hQ=>?_
 refine zE fun _ V=>?_
 simp [Control.cells];apply V;refine zE fun _ V=>?_
 simp[show -9223372036854775808<=left - (x.name.length:Int) by omega,show left - (x.name.length:Int)<=9223372036854775807 by omega];apply V;refine zS fun _ V=>?_
 simp;apply V;refine J.ite rfl (fun hc1=>?_) (fun hc1=>?_)
 ·simp only[decide_eq_true_eq] at hc1;refine zE fun _ V=>?_
  simp;apply V;refine J.ret func18 (aK.one results18) (hQ _ _ _ _ (.v _ _ _) ?_);rw[tK,dv,if_pos hc1]
 ·simp only[decide_eq_false_iff_not] at hc1;apply J.skip;refine zE fun _ V=>?_
  simp;apply V;refine J.ret func18 (aK.one results18) (hQ _ _ _ _ (.v _ _ _) ?_);rw[tK,dv,if_neg hc1]
theorem e53:aZ prog 53:=aZ.of func53 (by kernel_rfl) rfl
theorem Av (x:aN) (left:Int) (h0:0<=left) (h1:left<=1048576) (hn:x.name.length<=9223372036854775807):aC prog 53 [.agg x.cells,int left] (fun r=>r=int (yA x left)):=by
 refine aC.of func53 rfl ntmps53 (by simp) fun Q hQ=>?_
 refine zE fun _ V=>?_
 simp [aN.cells];apply V;refine zE fun _ V=>?_
 simp[show -9223372036854775808<=left - (x.name.length:Int) by omega,show left - (x.name.length:Int)<=9223372036854775807 by omega];apply V;refine zS fun _ V=>?_
 simp;apply V;refine J.ite rfl (fun hc1=>?_) (fun hc1=>?_)
 ·simp only[decide_eq_true_eq] at hc1;refine zE fun _ V=>?_
  simp;apply V;refine J.ret func53 (aK.one results53) (hQ _ _ _ _ (.v _ _ _) ?_);rw[yA,dv,if_pos hc1]
 ·simp only[decide_eq_false_iff_not] at hc1;apply J.skip;refine zE fun _ V=>?_
  simp;apply V;refine J.ret func53 (aK.one results53) (hQ _ _ _ _ (.v _ _ _) ?_);rw[yA,dv,if_neg hc1]
theorem e20:aZ prog 20:=aZ.of func20 (by kernel_rfl) rfl
theorem ru (x:List Int) (left:Int) (h0:0<=left) (h1:left<=1048576) (hn:x.length<=9223372036854775807):aC prog 20 [encI false x,int left] (fun r=>r=int (qV x left)):=by
 refine aC.of func20 rfl ntmps20 (by simp) fun Q hQ=>?_
 refine zE fun _ V=>?_
 simp [encI];apply V;refine zE fun _ V=>?_
 simp[show -9223372036854775808<=left - (x.length:Int) by omega,show left - (x.length:Int)<=9223372036854775807 by omega];apply V;refine zS fun _ V=>?_
 simp;apply V;refine J.ite rfl (fun hc1=>?_) (fun hc1=>?_)
 ·simp only[decide_eq_true_eq] at hc1;refine zE fun _ V=>?_
  simp;apply V;refine J.ret func20 (aK.one results20) (hQ _ _ _ _ (.v _ _ _) ?_);rw[qV,if_pos hc1]
 ·simp only[decide_eq_false_iff_not] at hc1;apply J.skip;refine zE fun _ V=>?_
  simp;apply V;refine J.ret func20 (aK.one results20) (hQ _ _ _ _ (.v _ _ _) ?_);rw[qV,if_neg hc1]
theorem e52:aZ prog 52:=aZ.of func52 (by kernel_rfl) rfl
theorem zp (x:ay) (left:Int) (h0:0<=left) (h1:left<=1048576) (hn:x.links.length<=9223372036854775807):aC prog 52 [.agg (x.cells false),int left] (fun r=>r=int (pJ x left)):=by
 refine aC.of func52 rfl ntmps52 (by simp) fun Q hQ=>?_
 refine zE fun _ V=>?_
 simp [ay.cells];apply V;refine zE fun _ V=>?_
 simp;refine zA (ru x.links left h0 h1 hn) e20 (.cons (aM.encI false x.links) (.cons (.v _ _ _) .nil)) (by simp[encI]) ?_;rintro _ rfl;simp;apply V;refine zS fun _ V=>?_
 simp;apply V;refine J.ite rfl (fun hc1=>?_) (fun hc1=>?_)
 ·simp only[decide_eq_true_eq] at hc1;refine zE fun _ V=>?_
  simp;apply V;refine J.ret func52 (aK.one results52) (hQ _ _ _ _ (.v _ _ _) ?_);simp only[Env.put];have:qV x.links left = -1:=by
   unfold qV at hc1 ⊢
   split<;>rename_i h
   ·rfl
   ·rw[if_neg h] at hc1;omega
  simp[pJ,this]
 ·simp only[decide_eq_false_iff_not] at hc1;apply J.skip;refine zE fun _ V=>?_
  simp;apply V;refine J.ret func52 (aK.one results52) (hQ _ _ _ _ (.v _ _ _) ?_)
  rfl
theorem e5:aZ prog 5:=aZ.of func5 (by kernel_rfl) rfl
theorem qQ (p:List (Control)) (left:Int) (h0:0<=left) (h1:left<=1048576) (hp1:p.length<=9223372036854775807) (hp2:∀ x ∈ p,x.name.length<=9223372036854775807):aC prog 5 [.list false (p.map Control.cells),int left] (fun r=>r=int (gW tK p left)):=by
 refine aC.of func5 rfl ntmps5 (by simp) fun Q hQ=>?_
 refine zE fun _ V=>?_
 simp;apply V;refine zE fun _ V=>?_
 simp [show -9223372036854775808 <= left - p.length by omega, show left - p.length <= 9223372036854775807 by omega];apply V;refine zS fun _ V=>?_
 simp;apply V;refine J.ite rfl (fun hc1=>?_) (fun hc1=>?_)
 ·simp only[decide_eq_true_eq] at hc1;refine zE fun _ V=>?_
  simp;apply V;refine J.ret func5 (aK.one results5) (hQ _ _ _ _ (.v _ _ _) ?_);rw[gW,if_pos hc1]
 ·simp only[decide_eq_false_iff_not] at hc1;apply J.skip;refine zS fun _ V=>?_
  simp;apply V;refine J.block (J.bM p.length (fun k O H n=>O 0 = .list false (p.map Control.cells)/\O 5=int k/\∃ cur:Int,O 1=int cur/\0<=cur/\cur<=left/\tn tK (p.drop k) cur=gW tK p left) ?_ ?_)
  ·refine⟨by simp,by simp,left - p.length,by simp,by omega,by omega,?_⟩;rw[gW,if_neg hc1,List.drop_zero]
  ·rintro k O H n hk ⟨h0,h5,cur,h1',hcur,hcl,hsz⟩ IH;refine zS fun _ V=>?_
   simp [h0, h5];apply V;refine J.ite rfl (fun hc2=>?_) (fun hc2=>?_)
   ·simp at hc2;have hel:=hp2 _ (List.getElem_mem hc2);apply zK;apply J.block;refine zE fun _ V=>?_
    simp [h0, h5, h1', hc2, Control.cells];refine zA (sR p[k] cur hcur (by omega) hel) e18 (.cons (aM.D8 _) (.cons (.v _ _ _) .nil)) (by simp[Control.cells,h1']) ?_;rintro _ rfl;simp;apply V;rw[List.drop_eq_getElem_cons hc2,tn] at hsz;refine zE fun _ V=>?_
    simp;apply V;refine J.ite rfl (fun hc3=>?_) (fun hc3=>?_)
    ·simp only[decide_eq_true_eq] at hc3;refine zE fun _ V=>?_
     simp;apply V;refine J.ret func5 (aK.one results5) (hQ _ _ _ _ (.v _ _ _) ?_);rw[<- hsz];rw[if_pos hc3]
    ·simp only[decide_eq_false_iff_not] at hc3;apply J.skip;refine zI fun _ V=>?_
     simp [h5, bf (show k < 4611686018427387904 by omega)];apply V;refine IH hc2 _ _ _ ?_;have hle:=vG tK p[k] cur hcur;rw[if_neg hc3] at hsz;exact⟨by simp[h0,Control.cells],by simp,tK p[k] cur,by simp,by omega,by omega,hsz⟩
   ·simp at hc2;have hke:k=p.length:=by omega
    subst hke;rw[List.drop_length,tn] at hsz;refine J.exit rfl ?_;refine zE fun _ V=>?_
    simp [h1'];apply V;exact J.ret func5 (aK.one results5) (hQ _ _ _ _ (.v _ _ _) (by rw[hsz]))
theorem e22:aZ prog 22:=aZ.of func22 (by kernel_rfl) rfl
theorem xf (p:List (aN)) (left:Int) (h0:0<=left) (h1:left<=1048576) (hp1:p.length<=9223372036854775807) (hp2:∀ x ∈ p,x.name.length<=9223372036854775807):aC prog 22 [.list false (p.map aN.cells),int left] (fun r=>r=int (gW yA p left)):=by
 refine aC.of func22 rfl ntmps22 (by simp) fun Q hQ=>?_
 refine zE fun _ V=>?_
 simp;apply V;refine zE fun _ V=>?_
 simp [show -9223372036854775808 <= left - p.length by omega, show left - p.length <= 9223372036854775807 by omega];apply V;refine zS fun _ V=>?_
 simp;apply V;refine J.ite rfl (fun hc1=>?_) (fun hc1=>?_)
 ·simp only[decide_eq_true_eq] at hc1;refine zE fun _ V=>?_
  simp;apply V;refine J.ret func22 (aK.one results22) (hQ _ _ _ _ (.v _ _ _) ?_);rw[gW,if_pos hc1]
 ·simp only[decide_eq_false_iff_not] at hc1;apply J.skip;refine zS fun _ V=>?_
  simp;apply V;refine J.block (J.bM p.length (fun k O H n=>O 0 = .list false (p.map aN.cells)/\O 5=int k/\∃ cur:Int,O 1=int cur/\0<=cur/\cur<=left/\tn yA (p.drop k) cur=gW yA p left) ?_ ?_)
  ·refine⟨by simp,by simp,left - p.length,by simp,by omega,by omega,?_⟩;rw[gW,if_neg hc1,List.drop_zero]
  ·rintro k O H n hk ⟨h0,h5,cur,h1',hcur,hcl,hsz⟩ IH;refine zS fun _ V=>?_
   simp [h0, h5];apply V;refine J.ite rfl (fun hc2=>?_) (fun hc2=>?_)
   ·simp at hc2;have hel:=hp2 _ (List.getElem_mem hc2);apply zK;apply J.block;refine zE fun _ V=>?_
    simp [h0, h5, h1', hc2, aN.cells];refine zA (Av p[k] cur hcur (by omega) hel) e53 (.cons (aM.ya _) (.cons (.v _ _ _) .nil)) (by simp[aN.cells,h1']) ?_;rintro _ rfl;simp;apply V;rw[List.drop_eq_getElem_cons hc2,tn] at hsz;refine zE fun _ V=>?_
    simp;apply V;refine J.ite rfl (fun hc3=>?_) (fun hc3=>?_)
    ·simp only[decide_eq_true_eq] at hc3;refine zE fun _ V=>?_
     simp;apply V;refine J.ret func22 (aK.one results22) (hQ _ _ _ _ (.v _ _ _) ?_);rw[<- hsz];rw[if_pos hc3]
    ·simp only[decide_eq_false_iff_not] at hc3;apply J.skip;refine zI fun _ V=>?_
     simp [h5, bf (show k < 4611686018427387904 by omega)];apply V;refine IH hc2 _ _ _ ?_;have hle:=vG yA p[k] cur hcur;rw[if_neg hc3] at hsz;exact⟨by simp[h0,aN.cells],by simp,yA p[k] cur,by simp,by omega,by omega,hsz⟩
   ·simp at hc2;have hke:k=p.length:=by omega
    subst hke;rw[List.drop_length,tn] at hsz;refine J.exit rfl ?_;refine zE fun _ V=>?_
    simp [h1'];apply V;exact J.ret func22 (aK.one results22) (hQ _ _ _ _ (.v _ _ _) (by rw[hsz]))
theorem e19:aZ prog 19:=aZ.of func19 (by kernel_rfl) rfl
theorem wk (p:List (ay)) (left:Int) (h0:0<=left) (h1:left<=1048576) (hp1:p.length<=9223372036854775807) (hp2:∀ x ∈ p,x.links.length<=9223372036854775807):aC prog 19 [.list false (p.map (ay.cells false)),int left] (fun r=>r=int (gW pJ p left)):=by
 refine aC.of func19 rfl ntmps19 (by simp) fun Q hQ=>?_
 refine zE fun _ V=>?_
 simp;apply V;refine zE fun _ V=>?_
 simp [show -9223372036854775808 <= left - p.length by omega, show left - p.length <= 9223372036854775807 by omega];apply V;refine zS fun _ V=>?_
 simp;apply V;refine J.ite rfl (fun hc1=>?_) (fun hc1=>?_)
 ·simp only[decide_eq_true_eq] at hc1;refine zE fun _ V=>?_
  simp;apply V;refine J.ret func19 (aK.one results19) (hQ _ _ _ _ (.v _ _ _) ?_);rw[gW,if_pos hc1]
 ·simp only[decide_eq_false_iff_not] at hc1;apply J.skip;refine zS fun _ V=>?_
  simp;apply V;refine J.block (J.bM p.length (fun k O H n=>O 0 = .list false (p.map (ay.cells false))/\O 5=int k/\∃ cur:Int,O 1=int cur/\0<=cur/\cur<=left/\tn pJ (p.drop k) cur=gW pJ p left) ?_ ?_)
  ·refine⟨by simp,by simp,left - p.length,by simp,by omega,by omega,?_⟩;rw[gW,if_neg hc1,List.drop_zero]
  ·rintro k O H n hk ⟨h0,h5,cur,h1',hcur,hcl,hsz⟩ IH;refine zS fun _ V=>?_
   simp [h0, h5];apply V;refine J.ite rfl (fun hc2=>?_) (fun hc2=>?_)
   ·simp at hc2;have hel:=hp2 _ (List.getElem_mem hc2);apply zK;apply J.block;refine zE fun _ V=>?_
    simp [h0, h5, h1', hc2, ay.cells];refine zA (zp p[k] cur hcur (by omega) hel) e52 (.cons (aM.yf false _) (.cons (.v _ _ _) .nil)) (by simp[ay.cells,h1']) ?_;rintro _ rfl;simp;apply V;rw[List.drop_eq_getElem_cons hc2,tn] at hsz;refine zE fun _ V=>?_
    simp;apply V;refine J.ite rfl (fun hc3=>?_) (fun hc3=>?_)
    ·simp only[decide_eq_true_eq] at hc3;refine zE fun _ V=>?_
     simp;apply V;refine J.ret func19 (aK.one results19) (hQ _ _ _ _ (.v _ _ _) ?_);rw[<- hsz];rw[if_pos hc3]
    ·simp only[decide_eq_false_iff_not] at hc3;apply J.skip;refine zI fun _ V=>?_
     simp [h5, bf (show k < 4611686018427387904 by omega)];apply V;refine IH hc2 _ _ _ ?_;have hle:=vG pJ p[k] cur hcur;rw[if_neg hc3] at hsz;exact⟨by simp[h0,ay.cells],by simp,pJ p[k] cur,by simp,by omega,by omega,hsz⟩
   ·simp at hc2;have hke:k=p.length:=by omega
    subst hke;rw[List.drop_length,tn] at hsz;refine J.exit rfl ?_;refine zE fun _ V=>?_
    simp [h1'];apply V;exact J.ret func19 (aK.one results19) (hQ _ _ _ _ (.v _ _ _) (by rw[hsz]))
theorem e21:aZ prog 21:=aZ.of func21 (by kernel_rfl) rfl
theorem sS (p:List (bc)) (left:Int) (h0:0<=left) (h1:left<=1048576) (hp1:p.length<=9223372036854775807) (hp2:∀ x ∈ p,x.length<=9223372036854775807):aC prog 21 [.list false (p.map a7),int left] (fun r=>r=int (gW dv p left)):=by
 refine aC.of func21 rfl ntmps21 (by simp) fun Q hQ=>?_
 refine zE fun _ V=>?_
 simp;apply V;refine zE fun _ V=>?_
 simp [show -9223372036854775808 <= left - p.length by omega, show left - p.length <= 9223372036854775807 by omega];apply V;refine zS fun _ V=>?_
 simp;apply V;refine J.ite rfl (fun hc1=>?_) (fun hc1=>?_)
 ·simp only[decide_eq_true_eq] at hc1;refine zE fun _ V=>?_
  simp;apply V;refine J.ret func21 (aK.one results21) (hQ _ _ _ _ (.v _ _ _) ?_);rw[gW,if_pos hc1]
 ·simp only[decide_eq_false_iff_not] at hc1;apply J.skip;refine zS fun _ V=>?_
  simp;apply V;refine J.block (J.bM p.length (fun k O H n=>O 0 = .list false (p.map a7)/\O 5=int k/\∃ cur:Int,O 1=int cur/\0<=cur/\cur<=left/\tn dv (p.drop k) cur=gW dv p left) ?_ ?_)
  ·refine⟨by simp,by simp,left - p.length,by simp,by omega,by omega,?_⟩;rw[gW,if_neg hc1,List.drop_zero]
  ·rintro k O H n hk ⟨h0,h5,cur,h1',hcur,hcl,hsz⟩ IH;refine zS fun _ V=>?_
   simp [h0, h5];apply V;refine J.ite rfl (fun hc2=>?_) (fun hc2=>?_)
   ·simp at hc2;have hel:=hp2 _ (List.getElem_mem hc2);apply zK;apply J.block;refine zE fun _ V=>?_
    simp [h0, h5, h1', hc2, a7, show -9223372036854775808 <= cur - (p[k].length : Int) by omega, show cur - (p[k].length : Int) <= 9223372036854775807 by omega];apply V;rw[List.drop_eq_getElem_cons hc2,tn] at hsz;refine zE fun _ V=>?_
    simp;apply V;refine J.ite rfl (fun hc3=>?_) (fun hc3=>?_)
    ·simp only[decide_eq_true_eq] at hc3;refine zE fun _ V=>?_
     simp;apply V;refine J.ret func21 (aK.one results21) (hQ _ _ _ _ (.v _ _ _) ?_);rw[<- hsz];rw[if_pos (by unfold dv;rw[if_pos hc3];omega)]
    ·simp only[decide_eq_false_iff_not] at hc3;apply J.skip;refine zI fun _ V=>?_
     simp [h5, bf (show k < 4611686018427387904 by omega)];apply V;refine IH hc2 _ _ _ ?_;have hse:dv p[k] cur=cur - p[k].length:=by unfold dv;rw[if_neg hc3]
     rw[if_neg (by rw[hse];exact hc3),hse] at hsz;exact⟨by simp[h0,a7],by simp,cur - p[k].length,by simp,by omega,by omega,hsz⟩
   ·simp at hc2;have hke:k=p.length:=by omega
    subst hke;rw[List.drop_length,tn] at hsz;refine J.exit rfl ?_;refine zE fun _ V=>?_
    simp [h1'];apply V;exact J.ret func21 (aK.one results21) (hQ _ _ _ _ (.v _ _ _) (by rw[hsz]))
end Go.Ab
namespace Go.Ab
open Go.Proofs
theorem e6:aZ prog 6:=aZ.of func6 (by kernel_rfl) rfl
def DZ (b:aG) (left:Int):Int:=
 if gW pJ b.nodes left<0 then -1 else if qV b.sites (gW pJ b.nodes left)<0 then -1 else
 if gW dv b.outer (qV b.sites (gW pJ b.nodes left))<0 then -1 else
 if gW yA b.inner (gW dv b.outer (qV b.sites (gW pJ b.nodes left)))<0 then -1 else gW yA b.inner (gW dv b.outer (qV b.sites (gW pJ b.nodes left)))
structure og (b:aG):Prop where
 nodes:b.nodes.length<=9223372036854775807
 links:∀ x ∈ b.nodes,x.links.length<=9223372036854775807
 sites:b.sites.length<=9223372036854775807
 outer:b.outer.length<=9223372036854775807
 names:∀ x ∈ b.outer,x.length<=9223372036854775807
 inner:b.inner.length<=9223372036854775807
 wnames:∀ x ∈ b.inner,x.name.length<=9223372036854775807
 parents:∀ x ∈ b.nodes,bu x.parent
 sites64:∀ p ∈ b.sites,bu p
theorem BV {α:Type} (f:α->Int->Int) [SzF f]:∀ (l:List α) (left:Int),0<=left->tn f l left<=left
 | [],_,_=>Int.le_refl _
 | x::r,left,h=>by
  rw[tn];have:=vG f x left h
  split
  ·omega
  ·have:=BV f r (f x left) (by omega);omega
theorem nH {α:Type} (f:α->Int->Int) [SzF f] (l:List α) (left:Int) (h:0<=left):gW f l left<=left:=by
 unfold gW
 split
 ·omega
 ·have:=BV f l (left - l.length) (by omega);omega
theorem xJ {α:Type} (f:α->Int->Int) [SzF f]:∀ (l:List α) (left:Int),0<=left->0<=tn f l left->∀ x ∈ l,∃ c,0<=c/\c<=left/\0<=f x c
 | [],_,_,_,x,hx=>by cases hx
 | y::r,left,h,h2,x,hx=>by
  rw[tn] at h2;have hle:=vG f y left h
  split at h2
  ·omega
  ·rcases List.mem_cons.1 hx with rfl | hx
   ·exact⟨left,h,Int.le_refl _,by omega⟩
   ·obtain⟨c,h3,h4,h5⟩:=xJ f r (f y left) (by omega) h2 x hx;exact⟨c,h3,by omega,h5⟩
theorem oB {α:Type} (f:α->Int->Int) [SzF f] (l:List α) (left:Int) (h:0<=left) (h2:0<=gW f l left):(l.length:Int)<=left/\∀ x ∈ l,∃ c,0<=c/\c<=left/\0<=f x c:=by
 unfold gW at h2
 split at h2
 ·omega
 ·refine⟨by omega,fun x hx=>?_⟩;obtain⟨c,h3,h4,h5⟩:=xJ f l _ (by omega) h2 x hx;exact⟨c,h3,by omega,h5⟩
theorem ng {s:bc} {c:Int} (h:0<=dv s c):(s.length:Int)<=c:=by
 unfold dv at h
 split at h<;>omega
theorem xU {s:List Int} {c:Int} (h:0<=qV s c):(s.length:Int)<=c:=by
 unfold qV at h
 split at h<;>omega
theorem ss (b:aG) (left:Int) (h0:0<=left) (h1:left<=1048576) (hb:og b):aC prog 6 [cG false b,int left] (fun r=>r=int (DZ b left)):=by
 have le1:=nH pJ b.nodes left h0;refine aC.of func6 rfl ntmps6 (by simp) fun Q hQ=>?_
 refine zE fun _ V=>?_
 simp [cG, aG.cells, bB, encI, encS, bH];apply V;refine zE fun _ V=>?_
 simp;refine zA (wk b.nodes left h0 h1 hb.nodes hb.links) e19 (.cons (aM.bB false b.nodes) (.cons (.v _ _ _) .nil)) (by simp[bB,encI,encS,bH]) ?_;rintro _ rfl;simp;apply V;refine zS fun _ V=>?_
 simp;apply V;refine J.ite rfl (fun hc=>?_) (fun hd0=>?_)
 ·simp only[decide_eq_true_eq] at hc;refine zE fun _ V=>?_
  simp;apply V;exact J.ret func6 (aK.one results6) (hQ _ _ _ _ (.v _ _ _) (by rw[DZ,if_pos hc]))
 simp only[decide_eq_false_iff_not] at hd0;have le2:=vG qV b.sites (gW pJ b.nodes left) (by omega);apply J.skip;refine zE fun _ V=>?_
 simp;refine zA (ru b.sites (gW pJ b.nodes left) (by omega) (by omega) hb.sites) e20 (.cons (aM.encI false b.sites) (.cons (.v _ _ _) .nil)) (by simp[bB,encI,encS,bH]) ?_;rintro _ rfl;simp;apply V;refine zS fun _ V=>?_
 simp;apply V;refine J.ite rfl (fun hc=>?_) (fun hd1=>?_)
 ·simp only[decide_eq_true_eq] at hc;refine zE fun _ V=>?_
  simp;apply V;exact J.ret func6 (aK.one results6) (hQ _ _ _ _ (.v _ _ _) (by rw[DZ,if_neg hd0,if_pos hc]))
 simp only[decide_eq_false_iff_not] at hd1;have le3:=nH dv b.outer (qV b.sites (gW pJ b.nodes left)) (by omega);apply J.skip;refine zE fun _ V=>?_
 simp;refine zA (sS b.outer (qV b.sites (gW pJ b.nodes left)) (by omega) (by omega) hb.outer hb.names) e21 (.cons (aM.encS false b.outer) (.cons (.v _ _ _) .nil)) (by simp[bB,encI,encS,bH]) ?_;rintro _ rfl;simp;apply V;refine zS fun _ V=>?_
 simp;apply V;refine J.ite rfl (fun hc=>?_) (fun hd2=>?_)
 ·simp only[decide_eq_true_eq] at hc;refine zE fun _ V=>?_
  simp;apply V;exact J.ret func6 (aK.one results6) (hQ _ _ _ _ (.v _ _ _) (by rw[DZ,if_neg hd0,if_neg hd1,if_pos hc]))
 simp only[decide_eq_false_iff_not] at hd2;apply J.skip;refine zE fun _ V=>?_
 simp;refine zA (xf b.inner (gW dv b.outer (qV b.sites (gW pJ b.nodes left))) (by omega) (by omega) hb.inner hb.wnames) e22 (.cons (aM.bH false b.inner) (.cons (.v _ _ _) .nil)) (by simp[bB,encI,encS,bH]) ?_;rintro _ rfl;simp;apply V;refine zS fun _ V=>?_
 simp;apply V;refine J.ite rfl (fun hc=>?_) (fun hd3=>?_)
 ·simp only[decide_eq_true_eq] at hc;refine zE fun _ V=>?_
  simp;apply V;exact J.ret func6 (aK.one results6) (hQ _ _ _ _ (.v _ _ _) (by rw[DZ,if_neg hd0,if_neg hd1,if_neg hd2,if_pos hc]))
 simp only[decide_eq_false_iff_not] at hd3;apply J.skip;refine zE fun _ V=>?_
 simp;apply V;exact J.ret func6 (aK.one results6) (hQ _ _ _ _ (.v _ _ _) (by rw[DZ,if_neg hd0,if_neg hd1,if_neg hd2,if_neg hd3]))
theorem smallB {sig:cV} {b:aG} {left:Int} (h0:0<=left) (h1:left<=1048576) (hs:0<=gW tK sig left) (hb:0<=DZ b (gW tK sig left)) (E:og b):gx sig b:=by
 have hle:=nH tK sig left h0;obtain⟨a1,a2⟩:=oB tK sig left h0 hs;generalize gW tK sig left=l0 at *;unfold DZ at hb
 split at hb
 ·omega
 split at hb
 ·omega
 split at hb
 ·omega
 split at hb
 ·omega
 rename_i U n2 n3 n4
 have le1:=nH pJ b.nodes l0 hs;obtain⟨b1,b2⟩:=oB pJ b.nodes l0 hs (by omega);generalize gW pJ b.nodes l0=l1 at *;have le2:=vG qV b.sites l1 (by omega);have c1:=xU (s:=b.sites) (c:=l1) (by omega);generalize qV b.sites l1=l2 at *;have le3:=nH dv b.outer l2 (by omega);obtain⟨d1,d2⟩:=oB dv b.outer l2 (by omega) (by omega);generalize gW dv b.outer l2=l3 at *;obtain⟨f1,f2⟩:=oB yA b.inner l3 (by omega) (by omega);refine⟨by omega,fun c hc=>?_,by omega,by omega,by omega,by omega,fun s hs=>?_,fun w hw=>?_,fun x hx=>?_,E.parents,E.sites64⟩
 ·obtain⟨q,_,q2,q3⟩:=a2 c hc;have:=ng q3;omega
 ·obtain⟨q,_,q2,q3⟩:=d2 s hs;have:=ng q3;omega
 ·obtain⟨q,_,q2,q3⟩:=f2 w hw;have:=ng q3;omega
 ·obtain⟨q,_,q2,q3⟩:=b2 x hx;have:=xU q3;omega
end Go.Ab
namespace Go.Ab
open Go.Proofs
structure xK (sig:cV):Prop where
 len:sig.length<=9223372036854775807
 names:∀ c ∈ sig,c.name.length<=9223372036854775807
end Go.Ab
