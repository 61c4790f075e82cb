/- Merged texts (9 of 18) of the proof that ends in Mhy: Gp Gq Gr. -/
import Derived.Test.YtehcknfedbjaaaaGreatDoorAbQmh8
set_option linter.unusedSimpArgs false
open Go.Proofs.Tryz
namespace Go.Ab
open Go.Proofs
def yU {α:Type} (f:α->Int->Int):List α->Int->Int
 | [],left=>left
 | x::r,left=>if f x left<0 then -1 else yU f r (f x left)
def fq {α:Type} (f:α->Int->Int) (l:List α) (left:Int):Int:=if left - l.length<0 then -1 else yU f l (left - l.length)
def nk (l:List Int) (left:Int):Int:=if left - l.length<0 then -1 else left - l.length
def mX (x:Control) (left:Int):Int:=dV x.name left
def DT (x:aD) (left:Int):Int:=dV x.name left
def qU (x:ay) (left:Int):Int:=nk x.links left
class SzF {α:Type} (f:α->Int->Int):Prop where
 le:∀ x left,0<=left->f x left<=left
theorem vS {α:Type} (f:α->Int->Int) [SzF f] (x:α) (left:Int) (h:0<=left):f x left<=left:=SzF.le x left h
instance:SzF dV:=⟨fun x left h=>by unfold dV;split<;>omega⟩
instance:SzF nk:=⟨fun x left h=>by unfold nk;split<;>omega⟩
instance:SzF mX:=⟨fun x left h=>by unfold mX dV;split<;>omega⟩
instance:SzF DT:=⟨fun x left h=>by unfold DT dV;split<;>omega⟩
instance:SzF qU:=⟨fun x left h=>by unfold qU nk;split<;>omega⟩
theorem e25:a8 prog 25:=a8.of func25 (by kernel_rfl) rfl
theorem yj (x:Control) (left:Int) (h0:0<=left) (h1:left<=1048576) (hn:x.name.length<=9223372036854775807):aF prog 25 [.agg x.cells,int left] (fun r=>r=int (mX x left)):=by
 refine aF.of func25 rfl ntmps25 (by simp) fun Q hQ=>?_
 refine zE fun _ V=>?_
 simp [Control.cells];apply V;refine zE fun _ V=>?_
 simp[show -9223372036854775808<=left - (x.name.length:Int) by omega,show left - (x.name.length:Int)<=9223372036854775807 by omega];apply V;refine zS fun _ V=>?_
 simp;apply V;refine J.ite rfl (fun hc1=>?_) (fun hc1=>?_)
 ·simp only[decide_eq_true_eq] at hc1;refine zE fun _ V=>?_
  simp;apply V;refine J.ret func25 (aU.one results25) (hQ _ _ _ _ (.v _ _ _) ?_);rw[mX,dV,if_pos hc1]
 ·simp only[decide_eq_false_iff_not] at hc1;apply J.skip;refine zE fun _ V=>?_
  simp;apply V;refine J.ret func25 (aU.one results25) (hQ _ _ _ _ (.v _ _ _) ?_);rw[mX,dV,if_neg hc1]
theorem e68:a8 prog 68:=a8.of func68 (by kernel_rfl) rfl
theorem EW (x:aD) (left:Int) (h0:0<=left) (h1:left<=1048576) (hn:x.name.length<=9223372036854775807):aF prog 68 [.agg x.cells,int left] (fun r=>r=int (DT x left)):=by
 refine aF.of func68 rfl ntmps68 (by simp) fun Q hQ=>?_
 refine zE fun _ V=>?_
 simp [aD.cells];apply V;refine zE fun _ V=>?_
 simp[show -9223372036854775808<=left - (x.name.length:Int) by omega,show left - (x.name.length:Int)<=9223372036854775807 by omega];apply V;refine zS fun _ V=>?_
 simp;apply V;refine J.ite rfl (fun hc1=>?_) (fun hc1=>?_)
 ·simp only[decide_eq_true_eq] at hc1;refine zE fun _ V=>?_
  simp;apply V;refine J.ret func68 (aU.one results68) (hQ _ _ _ _ (.v _ _ _) ?_);rw[DT,dV,if_pos hc1]
 ·simp only[decide_eq_false_iff_not] at hc1;apply J.skip;refine zE fun _ V=>?_
  simp;apply V;refine J.ret func68 (aU.one results68) (hQ _ _ _ _ (.v _ _ _) ?_);rw[DT,dV,if_neg hc1]
theorem e27:a8 prog 27:=a8.of func27 (by kernel_rfl) rfl
theorem oF (x:List Int) (left:Int) (h0:0<=left) (h1:left<=1048576) (hn:x.length<=9223372036854775807):aF prog 27 [encI false x,int left] (fun r=>r=int (nk x left)):=by
 refine aF.of func27 rfl ntmps27 (by simp) fun Q hQ=>?_
 refine zE fun _ V=>?_
 simp [encI];apply V;refine zE fun _ V=>?_
 simp[show -9223372036854775808<=left - (x.length:Int) by omega,show left - (x.length:Int)<=9223372036854775807 by omega];apply V;refine zS fun _ V=>?_
 simp;apply V;refine J.ite rfl (fun hc1=>?_) (fun hc1=>?_)
 ·simp only[decide_eq_true_eq] at hc1;refine zE fun _ V=>?_
  simp;apply V;refine J.ret func27 (aU.one results27) (hQ _ _ _ _ (.v _ _ _) ?_);rw[nk,if_pos hc1]
 ·simp only[decide_eq_false_iff_not] at hc1;apply J.skip;refine zE fun _ V=>?_
  simp;apply V;refine J.ret func27 (aU.one results27) (hQ _ _ _ _ (.v _ _ _) ?_);rw[nk,if_neg hc1]
theorem e67:a8 prog 67:=a8.of func67 (by kernel_rfl) rfl
theorem EX (x:ay) (left:Int) (h0:0<=left) (h1:left<=1048576) (hn:x.links.length<=9223372036854775807):aF prog 67 [.agg (x.cells false),int left] (fun r=>r=int (qU x left)):=by
 refine aF.of func67 rfl ntmps67 (by simp) fun Q hQ=>?_
 refine zE fun _ V=>?_
 simp [ay.cells];apply V;refine zE fun _ V=>?_
 simp;refine zA (oF x.links left h0 h1 hn) e27 (.cons (aQ.encI false x.links) (.cons (.v _ _ _) .nil)) (by simp[encI]) ?_;rintro _ rfl;simp;apply V;refine zS fun _ V=>?_
 simp;apply V;refine J.ite rfl (fun hc1=>?_) (fun hc1=>?_)
 ·simp only[decide_eq_true_eq] at hc1;refine zE fun _ V=>?_
  simp;apply V;refine J.ret func67 (aU.one results67) (hQ _ _ _ _ (.v _ _ _) ?_);simp only[Env.put];have:nk x.links left = -1:=by
   unfold nk at hc1 ⊢
   split<;>rename_i h
   ·rfl
   ·rw[if_neg h] at hc1;omega
  simp[qU,this]
 ·simp only[decide_eq_false_iff_not] at hc1;apply J.skip;refine zE fun _ V=>?_
  simp;apply V;refine J.ret func67 (aU.one results67) (hQ _ _ _ _ (.v _ _ _) ?_)
  rfl
theorem e5:a8 prog 5:=a8.of func5 (by kernel_rfl) rfl
theorem vQ (p:List (Control)) (left:Int) (h0:0<=left) (h1:left<=1048576) (hp1:p.length<=9223372036854775807) (hp2:∀ x ∈ p,x.name.length<=9223372036854775807):aF prog 5 [.list false (p.map Control.cells),int left] (fun r=>r=int (fq mX p left)):=by
 refine aF.of func5 rfl ntmps5 (by simp) fun Q hQ=>?_
 refine zE fun _ V=>?_
 simp;apply V;refine zE fun _ V=>?_
 simp [show -9223372036854775808 <= left - p.length by omega, show left - p.length <= 9223372036854775807 by omega];apply V;refine zS fun _ V=>?_
 simp;apply V;refine J.ite rfl (fun hc1=>?_) (fun hc1=>?_)
 ·simp only[decide_eq_true_eq] at hc1;refine zE fun _ V=>?_
  simp;apply V;refine J.ret func5 (aU.one results5) (hQ _ _ _ _ (.v _ _ _) ?_);rw[fq,if_pos hc1]
 ·simp only[decide_eq_false_iff_not] at hc1;apply J.skip;refine zS fun _ V=>?_
  simp;apply V;refine J.block (J.cz p.length (fun k O H n=>O 0 = .list false (p.map Control.cells)/\O 5=int k/\∃ cur:Int,O 1=int cur/\0<=cur/\cur<=left/\yU mX (p.drop k) cur=fq mX p left) ?_ ?_)
  ·refine⟨by simp,by simp,left - p.length,by simp,by omega,by omega,?_⟩;rw[fq,if_neg hc1,List.drop_zero]
  ·rintro k O H n hk ⟨h0,h5,cur,h1',hcur,hcl,hsz⟩ IH;refine zS fun _ V=>?_
   simp [h0, h5];apply V;refine J.ite rfl (fun hc2=>?_) (fun hc2=>?_)
   ·simp at hc2;have hel:=hp2 _ (List.getElem_mem hc2);apply zK;apply J.block;refine zE fun _ V=>?_
    simp [h0, h5, h1', hc2, Control.cells];refine zA (yj p[k] cur hcur (by omega) hel) e25 (.cons (aQ.Iu _) (.cons (.v _ _ _) .nil)) (by simp[Control.cells,h1']) ?_;rintro _ rfl;simp;apply V;rw[List.drop_eq_getElem_cons hc2,yU] at hsz;refine zE fun _ V=>?_
    simp;apply V;refine J.ite rfl (fun hc3=>?_) (fun hc3=>?_)
    ·simp only[decide_eq_true_eq] at hc3;refine zE fun _ V=>?_
     simp;apply V;refine J.ret func5 (aU.one results5) (hQ _ _ _ _ (.v _ _ _) ?_);rw[<- hsz];rw[if_pos hc3]
    ·simp only[decide_eq_false_iff_not] at hc3;apply J.skip;refine zI fun _ V=>?_
     simp [h5, bz (show k < 4611686018427387904 by omega)];apply V;refine IH hc2 _ _ _ ?_;have hle:=vS mX p[k] cur hcur;rw[if_neg hc3] at hsz;exact⟨by simp[h0,Control.cells],by simp,mX p[k] cur,by simp,by omega,by omega,hsz⟩
   ·simp at hc2;have hke:k=p.length:=by omega
    subst hke;rw[List.drop_length,yU] at hsz;refine J.exit rfl ?_;refine zE fun _ V=>?_
    simp [h1'];apply V;exact J.ret func5 (aU.one results5) (hQ _ _ _ _ (.v _ _ _) (by rw[hsz]))
theorem e29:a8 prog 29:=a8.of func29 (by kernel_rfl) rfl
theorem BG (p:List (aD)) (left:Int) (h0:0<=left) (h1:left<=1048576) (hp1:p.length<=9223372036854775807) (hp2:∀ x ∈ p,x.name.length<=9223372036854775807):aF prog 29 [.list false (p.map aD.cells),int left] (fun r=>r=int (fq DT p left)):=by
 refine aF.of func29 rfl ntmps29 (by simp) fun Q hQ=>?_
 refine zE fun _ V=>?_
 simp;apply V;refine zE fun _ V=>?_
 simp [show -9223372036854775808 <= left - p.length by omega, show left - p.length <= 9223372036854775807 by omega];apply V;refine zS fun _ V=>?_
 simp;apply V;refine J.ite rfl (fun hc1=>?_) (fun hc1=>?_)
 ·simp only[decide_eq_true_eq] at hc1;refine zE fun _ V=>?_
  simp;apply V;refine J.ret func29 (aU.one results29) (hQ _ _ _ _ (.v _ _ _) ?_);rw[fq,if_pos hc1]
 ·simp only[decide_eq_false_iff_not] at hc1;apply J.skip;refine zS fun _ V=>?_
  simp;apply V;refine J.block (J.cz p.length (fun k O H n=>O 0 = .list false (p.map aD.cells)/\O 5=int k/\∃ cur:Int,O 1=int cur/\0<=cur/\cur<=left/\yU DT (p.drop k) cur=fq DT p left) ?_ ?_)
  ·refine⟨by simp,by simp,left - p.length,by simp,by omega,by omega,?_⟩;rw[fq,if_neg hc1,List.drop_zero]
  ·rintro k O H n hk ⟨h0,h5,cur,h1',hcur,hcl,hsz⟩ IH;refine zS fun _ V=>?_
   simp [h0, h5];apply V;refine J.ite rfl (fun hc2=>?_) (fun hc2=>?_)
   ·simp at hc2;have hel:=hp2 _ (List.getElem_mem hc2);apply zK;apply J.block;refine zE fun _ V=>?_
    simp [h0, h5, h1', hc2, aD.cells];refine zA (EW p[k] cur hcur (by omega) hel) e68 (.cons (aQ.DP _) (.cons (.v _ _ _) .nil)) (by simp[aD.cells,h1']) ?_;rintro _ rfl;simp;apply V;rw[List.drop_eq_getElem_cons hc2,yU] at hsz;refine zE fun _ V=>?_
    simp;apply V;refine J.ite rfl (fun hc3=>?_) (fun hc3=>?_)
    ·simp only[decide_eq_true_eq] at hc3;refine zE fun _ V=>?_
     simp;apply V;refine J.ret func29 (aU.one results29) (hQ _ _ _ _ (.v _ _ _) ?_);rw[<- hsz];rw[if_pos hc3]
    ·simp only[decide_eq_false_iff_not] at hc3;apply J.skip;refine zI fun _ V=>?_
     simp [h5, bz (show k < 4611686018427387904 by omega)];apply V;refine IH hc2 _ _ _ ?_;have hle:=vS DT p[k] cur hcur;rw[if_neg hc3] at hsz;exact⟨by simp[h0,aD.cells],by simp,DT p[k] cur,by simp,by omega,by omega,hsz⟩
   ·simp at hc2;have hke:k=p.length:=by omega
    subst hke;rw[List.drop_length,yU] at hsz;refine J.exit rfl ?_;refine zE fun _ V=>?_
    simp [h1'];apply V;exact J.ret func29 (aU.one results29) (hQ _ _ _ _ (.v _ _ _) (by rw[hsz]))
theorem e26:a8 prog 26:=a8.of func26 (by kernel_rfl) rfl
theorem Ck (p:List (ay)) (left:Int) (h0:0<=left) (h1:left<=1048576) (hp1:p.length<=9223372036854775807) (hp2:∀ x ∈ p,x.links.length<=9223372036854775807):aF prog 26 [.list false (p.map (ay.cells false)),int left] (fun r=>r=int (fq qU p left)):=by
 refine aF.of func26 rfl ntmps26 (by simp) fun Q hQ=>?_
 refine zE fun _ V=>?_
 simp;apply V;refine zE fun _ V=>?_
 simp [show -9223372036854775808 <= left - p.length by omega, show left - p.length <= 9223372036854775807 by omega];apply V;refine zS fun _ V=>?_
 simp;apply V;refine J.ite rfl (fun hc1=>?_) (fun hc1=>?_)
 ·simp only[decide_eq_true_eq] at hc1;refine zE fun _ V=>?_
  simp;apply V;refine J.ret func26 (aU.one results26) (hQ _ _ _ _ (.v _ _ _) ?_);rw[fq,if_pos hc1]
 ·simp only[decide_eq_false_iff_not] at hc1;apply J.skip;refine zS fun _ V=>?_
  simp;apply V;refine J.block (J.cz p.length (fun k O H n=>O 0 = .list false (p.map (ay.cells false))/\O 5=int k/\∃ cur:Int,O 1=int cur/\0<=cur/\cur<=left/\yU qU (p.drop k) cur=fq qU p left) ?_ ?_)
  ·refine⟨by simp,by simp,left - p.length,by simp,by omega,by omega,?_⟩;rw[fq,if_neg hc1,List.drop_zero]
  ·rintro k O H n hk ⟨h0,h5,cur,h1',hcur,hcl,hsz⟩ IH;refine zS fun _ V=>?_
   simp [h0, h5];apply V;refine J.ite rfl (fun hc2=>?_) (fun hc2=>?_)
   ·simp at hc2;have hel:=hp2 _ (List.getElem_mem hc2);apply zK;apply J.block;refine zE fun _ V=>?_
    simp [h0, h5, h1', hc2, ay.cells];refine zA (EX p[k] cur hcur (by omega) hel) e67 (.cons (aQ.DQ false _) (.cons (.v _ _ _) .nil)) (by simp[ay.cells,h1']) ?_;rintro _ rfl;simp;apply V;rw[List.drop_eq_getElem_cons hc2,yU] at hsz;refine zE fun _ V=>?_
    simp;apply V;refine J.ite rfl (fun hc3=>?_) (fun hc3=>?_)
    ·simp only[decide_eq_true_eq] at hc3;refine zE fun _ V=>?_
     simp;apply V;refine J.ret func26 (aU.one results26) (hQ _ _ _ _ (.v _ _ _) ?_);rw[<- hsz];rw[if_pos hc3]
    ·simp only[decide_eq_false_iff_not] at hc3;apply J.skip;refine zI fun _ V=>?_
     simp [h5, bz (show k < 4611686018427387904 by omega)];apply V;refine IH hc2 _ _ _ ?_;have hle:=vS qU p[k] cur hcur;rw[if_neg hc3] at hsz;exact⟨by simp[h0,ay.cells],by simp,qU p[k] cur,by simp,by omega,by omega,hsz⟩
   ·simp at hc2;have hke:k=p.length:=by omega
    subst hke;rw[List.drop_length,yU] at hsz;refine J.exit rfl ?_;refine zE fun _ V=>?_
    simp [h1'];apply V;exact J.ret func26 (aU.one results26) (hQ _ _ _ _ (.v _ _ _) (by rw[hsz]))
theorem e28:a8 prog 28:=a8.of func28 (by kernel_rfl) rfl
theorem xi (p:List (a6)) (left:Int) (h0:0<=left) (h1:left<=1048576) (hp1:p.length<=9223372036854775807) (hp2:∀ x ∈ p,x.length<=9223372036854775807):aF prog 28 [.list false (p.map aT),int left] (fun r=>r=int (fq dV p left)):=by
 refine aF.of func28 rfl ntmps28 (by simp) fun Q hQ=>?_
 refine zE fun _ V=>?_
 simp;apply V;refine zE fun _ V=>?_
 simp [show -9223372036854775808 <= left - p.length by omega, show left - p.length <= 9223372036854775807 by omega];apply V;refine zS fun _ V=>?_
 simp;apply V;refine J.ite rfl (fun hc1=>?_) (fun hc1=>?_)
 ·simp only[decide_eq_true_eq] at hc1;refine zE fun _ V=>?_
  simp;apply V;refine J.ret func28 (aU.one results28) (hQ _ _ _ _ (.v _ _ _) ?_);rw[fq,if_pos hc1]
 ·simp only[decide_eq_false_iff_not] at hc1;apply J.skip;refine zS fun _ V=>?_
  simp;apply V;refine J.block (J.cz p.length (fun k O H n=>O 0 = .list false (p.map aT)/\O 5=int k/\∃ cur:Int,O 1=int cur/\0<=cur/\cur<=left/\yU dV (p.drop k) cur=fq dV p left) ?_ ?_)
  ·refine⟨by simp,by simp,left - p.length,by simp,by omega,by omega,?_⟩;rw[fq,if_neg hc1,List.drop_zero]
  ·rintro k O H n hk ⟨h0,h5,cur,h1',hcur,hcl,hsz⟩ IH;refine zS fun _ V=>?_
   simp [h0, h5];apply V;refine J.ite rfl (fun hc2=>?_) (fun hc2=>?_)
   ·simp at hc2;have hel:=hp2 _ (List.getElem_mem hc2);apply zK;apply J.block;refine zE fun _ V=>?_
    simp [h0, h5, h1', hc2, aT, show -9223372036854775808 <= cur - (p[k].length : Int) by omega, show cur - (p[k].length : Int) <= 9223372036854775807 by omega];apply V;rw[List.drop_eq_getElem_cons hc2,yU] at hsz;refine zE fun _ V=>?_
    simp;apply V;refine J.ite rfl (fun hc3=>?_) (fun hc3=>?_)
    ·simp only[decide_eq_true_eq] at hc3;refine zE fun _ V=>?_
     simp;apply V;refine J.ret func28 (aU.one results28) (hQ _ _ _ _ (.v _ _ _) ?_);rw[<- hsz];rw[if_pos (by unfold dV;rw[if_pos hc3];omega)]
    ·simp only[decide_eq_false_iff_not] at hc3;apply J.skip;refine zI fun _ V=>?_
     simp [h5, bz (show k < 4611686018427387904 by omega)];apply V;refine IH hc2 _ _ _ ?_;have hse:dV p[k] cur=cur - p[k].length:=by unfold dV;rw[if_neg hc3]
     rw[if_neg (by rw[hse];exact hc3),hse] at hsz;exact⟨by simp[h0,aT],by simp,cur - p[k].length,by simp,by omega,by omega,hsz⟩
   ·simp at hc2;have hke:k=p.length:=by omega
    subst hke;rw[List.drop_length,yU] at hsz;refine J.exit rfl ?_;refine zE fun _ V=>?_
    simp [h1'];apply V;exact J.ret func28 (aU.one results28) (hQ _ _ _ _ (.v _ _ _) (by rw[hsz]))
end Go.Ab
namespace Go.Ab
open Go.Proofs
theorem e6:a8 prog 6:=a8.of func6 (by kernel_rfl) rfl
def pO (b:aG) (left:Int):Int:=
 if fq qU b.nodes left<0 then -1 else if nk b.sites (fq qU b.nodes left)<0 then -1 else
 if fq dV b.outer (nk b.sites (fq qU b.nodes left))<0 then -1 else
 if fq DT b.inner (fq dV b.outer (nk b.sites (fq qU b.nodes left)))<0 then -1 else fq DT b.inner (fq dV b.outer (nk b.sites (fq qU b.nodes left)))
structure ll (b:aG):Prop where
 nodes:b.nodes.length<=9223372036854775807
 links:∀ x ∈ b.nodes,x.links.length<=9223372036854775807
 sites:b.sites.length<=9223372036854775807
 outer:b.outer.length<=9223372036854775807
 names:∀ x ∈ b.outer,x.length<=9223372036854775807
 inner:b.inner.length<=9223372036854775807
 wnames:∀ x ∈ b.inner,x.name.length<=9223372036854775807
 parents:∀ x ∈ b.nodes,bh x.parent
 sites64:∀ p ∈ b.sites,bh p
theorem Gu {α:Type} (f:α->Int->Int) [SzF f]:∀ (l:List α) (left:Int),0<=left->yU f l left<=left
 | [],_,_=>Int.le_refl _
 | x::r,left,h=>by
  rw[yU];have:=vS f x left h
  split
  ·omega
  ·have:=Gu f r (f x left) (by omega);omega
theorem kT {α:Type} (f:α->Int->Int) [SzF f] (l:List α) (left:Int) (h:0<=left):fq f l left<=left:=by
 unfold fq
 split
 ·omega
 ·have:=Gu f l (left - l.length) (by omega);omega
theorem Dq {α:Type} (f:α->Int->Int) [SzF f]:∀ (l:List α) (left:Int),0<=left->0<=yU f l left->∀ x ∈ l,∃ c,0<=c/\c<=left/\0<=f x c
 | [],_,_,_,x,hx=>by cases hx
 | y::r,left,h,h2,x,hx=>by
  rw[yU] at h2;have hle:=vS f y left h
  split at h2
  ·omega
  ·rcases List.mem_cons.1 hx with rfl | hx
   ·exact⟨left,h,Int.le_refl _,by omega⟩
   ·obtain⟨c,h3,h4,h5⟩:=Dq f r (f y left) (by omega) h2 x hx;exact⟨c,h3,by omega,h5⟩
theorem sX {α:Type} (f:α->Int->Int) [SzF f] (l:List α) (left:Int) (h:0<=left) (h2:0<=fq f l left):(l.length:Int)<=left/\∀ x ∈ l,∃ c,0<=c/\c<=left/\0<=f x c:=by
 unfold fq at h2
 split at h2
 ·omega
 ·refine⟨by omega,fun x hx=>?_⟩;obtain⟨c,h3,h4,h5⟩:=Dq f l _ (by omega) h2 x hx;exact⟨c,h3,by omega,h5⟩
theorem qZ {s:a6} {c:Int} (h:0<=dV s c):(s.length:Int)<=c:=by
 unfold dV at h
 split at h<;>omega
theorem tj {s:List Int} {c:Int} (h:0<=nk s c):(s.length:Int)<=c:=by
 unfold nk at h
 split at h<;>omega
theorem qu (b:aG) (left:Int) (h0:0<=left) (h1:left<=1048576) (hb:ll b):aF prog 6 [cX false b,int left] (fun r=>r=int (pO b left)):=by
 have le1:=kT qU b.nodes left h0;refine aF.of func6 rfl ntmps6 (by simp) fun Q hQ=>?_
 refine zE fun _ V=>?_
 simp [cX, aG.cells, cw, encI, encS, cI];apply V;refine zE fun _ V=>?_
 simp;refine zA (Ck b.nodes left h0 h1 hb.nodes hb.links) e26 (.cons (aQ.cw false b.nodes) (.cons (.v _ _ _) .nil)) (by simp[cw,encI,encS,cI]) ?_;rintro _ rfl;simp;apply V;refine zS fun _ V=>?_
 simp;apply V;refine J.ite rfl (fun hc=>?_) (fun hd0=>?_)
 ·simp only[decide_eq_true_eq] at hc;refine zE fun _ V=>?_
  simp;apply V;exact J.ret func6 (aU.one results6) (hQ _ _ _ _ (.v _ _ _) (by rw[pO,if_pos hc]))
 simp only[decide_eq_false_iff_not] at hd0;have le2:=vS nk b.sites (fq qU b.nodes left) (by omega);apply J.skip;refine zE fun _ V=>?_
 simp;refine zA (oF b.sites (fq qU b.nodes left) (by omega) (by omega) hb.sites) e27 (.cons (aQ.encI false b.sites) (.cons (.v _ _ _) .nil)) (by simp[cw,encI,encS,cI]) ?_;rintro _ rfl;simp;apply V;refine zS fun _ V=>?_
 simp;apply V;refine J.ite rfl (fun hc=>?_) (fun hd1=>?_)
 ·simp only[decide_eq_true_eq] at hc;refine zE fun _ V=>?_
  simp;apply V;exact J.ret func6 (aU.one results6) (hQ _ _ _ _ (.v _ _ _) (by rw[pO,if_neg hd0,if_pos hc]))
 simp only[decide_eq_false_iff_not] at hd1;have le3:=kT dV b.outer (nk b.sites (fq qU b.nodes left)) (by omega);apply J.skip;refine zE fun _ V=>?_
 simp;refine zA (xi b.outer (nk b.sites (fq qU b.nodes left)) (by omega) (by omega) hb.outer hb.names) e28 (.cons (aQ.encS false b.outer) (.cons (.v _ _ _) .nil)) (by simp[cw,encI,encS,cI]) ?_;rintro _ rfl;simp;apply V;refine zS fun _ V=>?_
 simp;apply V;refine J.ite rfl (fun hc=>?_) (fun hd2=>?_)
 ·simp only[decide_eq_true_eq] at hc;refine zE fun _ V=>?_
  simp;apply V;exact J.ret func6 (aU.one results6) (hQ _ _ _ _ (.v _ _ _) (by rw[pO,if_neg hd0,if_neg hd1,if_pos hc]))
 simp only[decide_eq_false_iff_not] at hd2;apply J.skip;refine zE fun _ V=>?_
 simp;refine zA (BG b.inner (fq dV b.outer (nk b.sites (fq qU b.nodes left))) (by omega) (by omega) hb.inner hb.wnames) e29 (.cons (aQ.cI false b.inner) (.cons (.v _ _ _) .nil)) (by simp[cw,encI,encS,cI]) ?_;rintro _ rfl;simp;apply V;refine zS fun _ V=>?_
 simp;apply V;refine J.ite rfl (fun hc=>?_) (fun hd3=>?_)
 ·simp only[decide_eq_true_eq] at hc;refine zE fun _ V=>?_
  simp;apply V;exact J.ret func6 (aU.one results6) (hQ _ _ _ _ (.v _ _ _) (by rw[pO,if_neg hd0,if_neg hd1,if_neg hd2,if_pos hc]))
 simp only[decide_eq_false_iff_not] at hd3;apply J.skip;refine zE fun _ V=>?_
 simp;apply V;exact J.ret func6 (aU.one results6) (hQ _ _ _ _ (.v _ _ _) (by rw[pO,if_neg hd0,if_neg hd1,if_neg hd2,if_neg hd3]))
theorem Hk {sig:cP} {b:aG} {left:Int} (h0:0<=left) (h1:left<=1048576) (hs:0<=fq mX sig left) (hb:0<=pO b (fq mX sig left)) (E:ll b):cv sig b:=by
 have hle:=kT mX sig left h0;obtain⟨a1,a2⟩:=sX mX sig left h0 hs;generalize fq mX sig left=l0 at *;unfold pO at hb
 split at hb
 ·omega
 split at hb
 ·omega
 split at hb
 ·omega
 split at hb
 ·omega
 rename_i U n2 n3 n4
 have le1:=kT qU b.nodes l0 hs;obtain⟨b1,b2⟩:=sX qU b.nodes l0 hs (by omega);generalize fq qU b.nodes l0=l1 at *;have le2:=vS nk b.sites l1 (by omega);have c1:=tj (s:=b.sites) (c:=l1) (by omega);generalize nk b.sites l1=l2 at *;have le3:=kT dV b.outer l2 (by omega);obtain⟨d1,d2⟩:=sX dV b.outer l2 (by omega) (by omega);generalize fq dV b.outer l2=l3 at *;obtain⟨f1,f2⟩:=sX DT b.inner l3 (by omega) (by omega);refine⟨by omega,fun c hc=>?_,by omega,by omega,by omega,by omega,fun s hs=>?_,fun w hw=>?_,fun x hx=>?_,E.parents,E.sites64⟩
 ·obtain⟨q,_,q2,q3⟩:=a2 c hc;have:=qZ q3;omega
 ·obtain⟨q,_,q2,q3⟩:=d2 s hs;have:=qZ q3;omega
 ·obtain⟨q,_,q2,q3⟩:=f2 w hw;have:=qZ q3;omega
 ·obtain⟨q,_,q2,q3⟩:=b2 x hx;have:=tj q3;omega
end Go.Ab
namespace Go.Ab
open Go.Proofs
structure Dz (sig:cP):Prop where
 len:sig.length<=9223372036854775807
 names:∀ c ∈ sig,c.name.length<=9223372036854775807
end Go.Ab
