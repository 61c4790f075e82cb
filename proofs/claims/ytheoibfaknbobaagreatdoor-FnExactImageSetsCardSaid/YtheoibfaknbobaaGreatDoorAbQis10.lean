/- Merged texts (10 of 16) of the proof that ends in Isy: Gp Gq Gr. -/
import Derived.Test.YtheoibfaknbobaaGreatDoorAbQis9
open Go.Proofs.Tryz
set_option linter.unusedSimpArgs false
namespace Go.Ab
open Go.Proofs
def vT {α:Type} (f:α->Int->Int):List α->Int->Int
 | [],left=>left
 | x::r,left=>if f x left<0 then -1 else vT f r (f x left)
def fi {α:Type} (f:α->Int->Int) (l:List α) (left:Int):Int:=if left - l.length<0 then -1 else vT f l (left - l.length)
def qz (l:List Int) (left:Int):Int:=if left - l.length<0 then -1 else left - l.length
def nS (x:Control) (left:Int):Int:=dt x.name left
def AQ (x:aQ) (left:Int):Int:=dt x.name left
def pF (x:aA) (left:Int):Int:=qz x.links left
class SzF {α:Type} (f:α->Int->Int):Prop where
 le:∀ x left,0<=left->f x left<=left
theorem xL {α:Type} (f:α->Int->Int) [SzF f] (x:α) (left:Int) (h:0<=left):f x left<=left:=SzF.le x left h
instance:SzF dt:=⟨fun x left h=>by unfold dt;split<;>omega⟩
instance:SzF qz:=⟨fun x left h=>by unfold qz;split<;>omega⟩
instance:SzF nS:=⟨fun x left h=>by unfold nS dt;split<;>omega⟩
instance:SzF AQ:=⟨fun x left h=>by unfold AQ dt;split<;>omega⟩
instance:SzF pF:=⟨fun x left h=>by unfold pF qz;split<;>omega⟩
theorem e17:aW prog 17:=aW.of func17 (by kernel_rfl) rfl
theorem uU (x:Control) (left:Int) (h0:0<=left) (h1:left<=1048576) (hn:x.name.length<=9223372036854775807):aB prog 17 [.agg x.cells,int left] (fun r=>r=int (nS x left)):=by
 refine aB.of func17 rfl ntmps17 (by simp) fun Q hQ=>?_
 refine zE fun _ V=>?_
 simp [Control.cells];apply V;refine zE fun _ V=>?_
 simp[show -9223372036854775808<=left - (x.name.length:Int) by omega,show left - (x.name.length:Int)<=9223372036854775807 by omega];apply V;refine zS fun _ V=>?_
 simp;apply V;refine J.ite rfl (fun hc1=>?_) (fun hc1=>?_)
 ·simp only[decide_eq_true_eq] at hc1;refine zE fun _ V=>?_
  simp;apply V;refine J.ret func17 (aN.one results17) (hQ _ _ _ _ (.v _ _ _) ?_);rw[nS,dt,if_pos hc1]
 ·simp only[decide_eq_false_iff_not] at hc1;apply J.skip;refine zE fun _ V=>?_
  simp;apply V;refine J.ret func17 (aN.one results17) (hQ _ _ _ _ (.v _ _ _) ?_);rw[nS,dt,if_neg hc1]
theorem e52:aW prog 52:=aW.of func52 (by kernel_rfl) rfl
theorem B2 (x:aQ) (left:Int) (h0:0<=left) (h1:left<=1048576) (hn:x.name.length<=9223372036854775807):aB prog 52 [.agg x.cells,int left] (fun r=>r=int (AQ x left)):=by
 refine aB.of func52 rfl ntmps52 (by simp) fun Q hQ=>?_
 refine zE fun _ V=>?_
 simp [aQ.cells];apply V;refine zE fun _ V=>?_
 simp[show -9223372036854775808<=left - (x.name.length:Int) by omega,show left - (x.name.length:Int)<=9223372036854775807 by omega];apply V;refine zS fun _ V=>?_
 simp;apply V;refine J.ite rfl (fun hc1=>?_) (fun hc1=>?_)
 ·simp only[decide_eq_true_eq] at hc1;refine zE fun _ V=>?_
  simp;apply V;refine J.ret func52 (aN.one results52) (hQ _ _ _ _ (.v _ _ _) ?_);rw[AQ,dt,if_pos hc1]
 ·simp only[decide_eq_false_iff_not] at hc1;apply J.skip;refine zE fun _ V=>?_
  simp;apply V;refine J.ret func52 (aN.one results52) (hQ _ _ _ _ (.v _ _ _) ?_);rw[AQ,dt,if_neg hc1]
theorem e19:aW prog 19:=aW.of func19 (by kernel_rfl) rfl
theorem ui (x:List Int) (left:Int) (h0:0<=left) (h1:left<=1048576) (hn:x.length<=9223372036854775807):aB prog 19 [encI false x,int left] (fun r=>r=int (qz x left)):=by
 refine aB.of func19 rfl ntmps19 (by simp) fun Q hQ=>?_
 refine zE fun _ V=>?_
 simp [encI];apply V;refine zE fun _ V=>?_
 simp[show -9223372036854775808<=left - (x.length:Int) by omega,show left - (x.length:Int)<=9223372036854775807 by omega];apply V;refine zS fun _ V=>?_
 simp;apply V;refine J.ite rfl (fun hc1=>?_) (fun hc1=>?_)
 ·simp only[decide_eq_true_eq] at hc1;refine zE fun _ V=>?_
  simp;apply V;refine J.ret func19 (aN.one results19) (hQ _ _ _ _ (.v _ _ _) ?_);rw[qz,if_pos hc1]
 ·simp only[decide_eq_false_iff_not] at hc1;apply J.skip;refine zE fun _ V=>?_
  simp;apply V;refine J.ret func19 (aN.one results19) (hQ _ _ _ _ (.v _ _ _) ?_);rw[qz,if_neg hc1]
theorem e51:aW prog 51:=aW.of func51 (by kernel_rfl) rfl
theorem BI (x:aA) (left:Int) (h0:0<=left) (h1:left<=1048576) (hn:x.links.length<=9223372036854775807):aB prog 51 [.agg (x.cells false),int left] (fun r=>r=int (pF x left)):=by
 refine aB.of func51 rfl ntmps51 (by simp) fun Q hQ=>?_
 refine zE fun _ V=>?_
 simp [aA.cells];apply V;refine zE fun _ V=>?_
 simp;refine zA (ui x.links left h0 h1 hn) e19 (.cons (aM.encI false x.links) (.cons (.v _ _ _) .nil)) (by simp[encI]) ?_;rintro _ rfl;simp;apply V;refine zS fun _ V=>?_
 simp;apply V;refine J.ite rfl (fun hc1=>?_) (fun hc1=>?_)
 ·simp only[decide_eq_true_eq] at hc1;refine zE fun _ V=>?_
  simp;apply V;refine J.ret func51 (aN.one results51) (hQ _ _ _ _ (.v _ _ _) ?_);simp only[Env.put];have:qz x.links left = -1:=by
   unfold qz at hc1 ⊢
   split<;>rename_i h
   ·rfl
   ·rw[if_neg h] at hc1;omega
  simp[pF,this]
 ·simp only[decide_eq_false_iff_not] at hc1;apply J.skip;refine zE fun _ V=>?_
  simp;apply V;refine J.ret func51 (aN.one results51) (hQ _ _ _ _ (.v _ _ _) ?_)
  rfl
theorem e4:aW prog 4:=aW.of func4 (by kernel_rfl) rfl
theorem sT (p:List (Control)) (left:Int) (h0:0<=left) (h1:left<=1048576) (hp1:p.length<=9223372036854775807) (hp2:∀ x ∈ p,x.name.length<=9223372036854775807):aB prog 4 [.list false (p.map Control.cells),int left] (fun r=>r=int (fi nS p left)):=by
 refine aB.of func4 rfl ntmps4 (by simp) fun Q hQ=>?_
 refine zE fun _ V=>?_
 simp;apply V;refine zE fun _ V=>?_
 simp [show -9223372036854775808 <= left - p.length by omega, show left - p.length <= 9223372036854775807 by omega];apply V;refine zS fun _ V=>?_
 simp;apply V;refine J.ite rfl (fun hc1=>?_) (fun hc1=>?_)
 ·simp only[decide_eq_true_eq] at hc1;refine zE fun _ V=>?_
  simp;apply V;refine J.ret func4 (aN.one results4) (hQ _ _ _ _ (.v _ _ _) ?_);rw[fi,if_pos hc1]
 ·simp only[decide_eq_false_iff_not] at hc1;apply J.skip;refine zS fun _ V=>?_
  simp;apply V;refine J.block (J.bV p.length (fun k O H n=>O 0 = .list false (p.map Control.cells)/\O 5=int k/\∃ cur:Int,O 1=int cur/\0<=cur/\cur<=left/\vT nS (p.drop k) cur=fi nS p left) ?_ ?_)
  ·refine⟨by simp,by simp,left - p.length,by simp,by omega,by omega,?_⟩;rw[fi,if_neg hc1,List.drop_zero]
  ·rintro k O H n hk ⟨h0,h5,cur,h1',hcur,hcl,hsz⟩ IH;refine zS fun _ V=>?_
   simp [h0, h5];apply V;refine J.ite rfl (fun hc2=>?_) (fun hc2=>?_)
   ·simp at hc2;have hel:=hp2 _ (List.getElem_mem hc2);apply zK;apply J.block;refine zE fun _ V=>?_
    simp [h0, h5, h1', hc2, Control.cells];refine zA (uU p[k] cur hcur (by omega) hel) e17 (.cons (aM.EK _) (.cons (.v _ _ _) .nil)) (by simp[Control.cells,h1']) ?_;rintro _ rfl;simp;apply V;rw[List.drop_eq_getElem_cons hc2,vT] at hsz;refine zE fun _ V=>?_
    simp;apply V;refine J.ite rfl (fun hc3=>?_) (fun hc3=>?_)
    ·simp only[decide_eq_true_eq] at hc3;refine zE fun _ V=>?_
     simp;apply V;refine J.ret func4 (aN.one results4) (hQ _ _ _ _ (.v _ _ _) ?_);rw[<- hsz];rw[if_pos hc3]
    ·simp only[decide_eq_false_iff_not] at hc3;apply J.skip;refine zI fun _ V=>?_
     simp [h5, ba (show k < 4611686018427387904 by omega)];apply V;refine IH hc2 _ _ _ ?_;have hle:=xL nS p[k] cur hcur;rw[if_neg hc3] at hsz;exact⟨by simp[h0,Control.cells],by simp,nS p[k] cur,by simp,by omega,by omega,hsz⟩
   ·simp at hc2;have hke:k=p.length:=by omega
    subst hke;rw[List.drop_length,vT] at hsz;refine J.exit rfl ?_;refine zE fun _ V=>?_
    simp [h1'];apply V;exact J.ret func4 (aN.one results4) (hQ _ _ _ _ (.v _ _ _) (by rw[hsz]))
theorem e21:aW prog 21:=aW.of func21 (by kernel_rfl) rfl
theorem z8 (p:List (aQ)) (left:Int) (h0:0<=left) (h1:left<=1048576) (hp1:p.length<=9223372036854775807) (hp2:∀ x ∈ p,x.name.length<=9223372036854775807):aB prog 21 [.list false (p.map aQ.cells),int left] (fun r=>r=int (fi AQ p left)):=by
 refine aB.of func21 rfl ntmps21 (by simp) fun Q hQ=>?_
 refine zE fun _ V=>?_
 simp;apply V;refine zE fun _ V=>?_
 simp [show -9223372036854775808 <= left - p.length by omega, show left - p.length <= 9223372036854775807 by omega];apply V;refine zS fun _ V=>?_
 simp;apply V;refine J.ite rfl (fun hc1=>?_) (fun hc1=>?_)
 ·simp only[decide_eq_true_eq] at hc1;refine zE fun _ V=>?_
  simp;apply V;refine J.ret func21 (aN.one results21) (hQ _ _ _ _ (.v _ _ _) ?_);rw[fi,if_pos hc1]
 ·simp only[decide_eq_false_iff_not] at hc1;apply J.skip;refine zS fun _ V=>?_
  simp;apply V;refine J.block (J.bV p.length (fun k O H n=>O 0 = .list false (p.map aQ.cells)/\O 5=int k/\∃ cur:Int,O 1=int cur/\0<=cur/\cur<=left/\vT AQ (p.drop k) cur=fi AQ p left) ?_ ?_)
  ·refine⟨by simp,by simp,left - p.length,by simp,by omega,by omega,?_⟩;rw[fi,if_neg hc1,List.drop_zero]
  ·rintro k O H n hk ⟨h0,h5,cur,h1',hcur,hcl,hsz⟩ IH;refine zS fun _ V=>?_
   simp [h0, h5];apply V;refine J.ite rfl (fun hc2=>?_) (fun hc2=>?_)
   ·simp at hc2;have hel:=hp2 _ (List.getElem_mem hc2);apply zK;apply J.block;refine zE fun _ V=>?_
    simp [h0, h5, h1', hc2, aQ.cells];refine zA (B2 p[k] cur hcur (by omega) hel) e52 (.cons (aM.AW _) (.cons (.v _ _ _) .nil)) (by simp[aQ.cells,h1']) ?_;rintro _ rfl;simp;apply V;rw[List.drop_eq_getElem_cons hc2,vT] at hsz;refine zE fun _ V=>?_
    simp;apply V;refine J.ite rfl (fun hc3=>?_) (fun hc3=>?_)
    ·simp only[decide_eq_true_eq] at hc3;refine zE fun _ V=>?_
     simp;apply V;refine J.ret func21 (aN.one results21) (hQ _ _ _ _ (.v _ _ _) ?_);rw[<- hsz];rw[if_pos hc3]
    ·simp only[decide_eq_false_iff_not] at hc3;apply J.skip;refine zI fun _ V=>?_
     simp [h5, ba (show k < 4611686018427387904 by omega)];apply V;refine IH hc2 _ _ _ ?_;have hle:=xL AQ p[k] cur hcur;rw[if_neg hc3] at hsz;exact⟨by simp[h0,aQ.cells],by simp,AQ p[k] cur,by simp,by omega,by omega,hsz⟩
   ·simp at hc2;have hke:k=p.length:=by omega
    subst hke;rw[List.drop_length,vT] at hsz;refine J.exit rfl ?_;refine zE fun _ V=>?_
    simp [h1'];apply V;exact J.ret func21 (aN.one results21) (hQ _ _ _ _ (.v _ _ _) (by rw[hsz]))
theorem e18:aW prog 18:=aW.of func18 (by kernel_rfl) rfl
theorem Ay (p:List (aA)) (left:Int) (h0:0<=left) (h1:left<=1048576) (hp1:p.length<=9223372036854775807) (hp2:∀ x ∈ p,x.links.length<=9223372036854775807):aB prog 18 [.list false (p.map (aA.cells false)),int left] (fun r=>r=int (fi pF p left)):=by
 refine aB.of func18 rfl ntmps18 (by simp) fun Q hQ=>?_
 refine zE fun _ V=>?_
 simp;apply V;refine zE fun _ V=>?_
 simp [show -9223372036854775808 <= left - p.length by omega, show left - p.length <= 9223372036854775807 by omega];apply V;refine zS fun _ V=>?_
 simp;apply V;refine J.ite rfl (fun hc1=>?_) (fun hc1=>?_)
 ·simp only[decide_eq_true_eq] at hc1;refine zE fun _ V=>?_
  simp;apply V;refine J.ret func18 (aN.one results18) (hQ _ _ _ _ (.v _ _ _) ?_);rw[fi,if_pos hc1]
 ·simp only[decide_eq_false_iff_not] at hc1;apply J.skip;refine zS fun _ V=>?_
  simp;apply V;refine J.block (J.bV p.length (fun k O H n=>O 0 = .list false (p.map (aA.cells false))/\O 5=int k/\∃ cur:Int,O 1=int cur/\0<=cur/\cur<=left/\vT pF (p.drop k) cur=fi pF p left) ?_ ?_)
  ·refine⟨by simp,by simp,left - p.length,by simp,by omega,by omega,?_⟩;rw[fi,if_neg hc1,List.drop_zero]
  ·rintro k O H n hk ⟨h0,h5,cur,h1',hcur,hcl,hsz⟩ IH;refine zS fun _ V=>?_
   simp [h0, h5];apply V;refine J.ite rfl (fun hc2=>?_) (fun hc2=>?_)
   ·simp at hc2;have hel:=hp2 _ (List.getElem_mem hc2);apply zK;apply J.block;refine zE fun _ V=>?_
    simp [h0, h5, h1', hc2, aA.cells];refine zA (BI p[k] cur hcur (by omega) hel) e51 (.cons (aM.AT false _) (.cons (.v _ _ _) .nil)) (by simp[aA.cells,h1']) ?_;rintro _ rfl;simp;apply V;rw[List.drop_eq_getElem_cons hc2,vT] at hsz;refine zE fun _ V=>?_
    simp;apply V;refine J.ite rfl (fun hc3=>?_) (fun hc3=>?_)
    ·simp only[decide_eq_true_eq] at hc3;refine zE fun _ V=>?_
     simp;apply V;refine J.ret func18 (aN.one results18) (hQ _ _ _ _ (.v _ _ _) ?_);rw[<- hsz];rw[if_pos hc3]
    ·simp only[decide_eq_false_iff_not] at hc3;apply J.skip;refine zI fun _ V=>?_
     simp [h5, ba (show k < 4611686018427387904 by omega)];apply V;refine IH hc2 _ _ _ ?_;have hle:=xL pF p[k] cur hcur;rw[if_neg hc3] at hsz;exact⟨by simp[h0,aA.cells],by simp,pF p[k] cur,by simp,by omega,by omega,hsz⟩
   ·simp at hc2;have hke:k=p.length:=by omega
    subst hke;rw[List.drop_length,vT] at hsz;refine J.exit rfl ?_;refine zE fun _ V=>?_
    simp [h1'];apply V;exact J.ret func18 (aN.one results18) (hQ _ _ _ _ (.v _ _ _) (by rw[hsz]))
theorem e20:aW prog 20:=aW.of func20 (by kernel_rfl) rfl
theorem vc (p:List (cB)) (left:Int) (h0:0<=left) (h1:left<=1048576) (hp1:p.length<=9223372036854775807) (hp2:∀ x ∈ p,x.length<=9223372036854775807):aB prog 20 [.list false (p.map bm),int left] (fun r=>r=int (fi dt p left)):=by
 refine aB.of func20 rfl ntmps20 (by simp) fun Q hQ=>?_
 refine zE fun _ V=>?_
 simp;apply V;refine zE fun _ V=>?_
 simp [show -9223372036854775808 <= left - p.length by omega, show left - p.length <= 9223372036854775807 by omega];apply V;refine zS fun _ V=>?_
 simp;apply V;refine J.ite rfl (fun hc1=>?_) (fun hc1=>?_)
 ·simp only[decide_eq_true_eq] at hc1;refine zE fun _ V=>?_
  simp;apply V;refine J.ret func20 (aN.one results20) (hQ _ _ _ _ (.v _ _ _) ?_);rw[fi,if_pos hc1]
 ·simp only[decide_eq_false_iff_not] at hc1;apply J.skip;refine zS fun _ V=>?_
  simp;apply V;refine J.block (J.bV p.length (fun k O H n=>O 0 = .list false (p.map bm)/\O 5=int k/\∃ cur:Int,O 1=int cur/\0<=cur/\cur<=left/\vT dt (p.drop k) cur=fi dt p left) ?_ ?_)
  ·refine⟨by simp,by simp,left - p.length,by simp,by omega,by omega,?_⟩;rw[fi,if_neg hc1,List.drop_zero]
  ·rintro k O H n hk ⟨h0,h5,cur,h1',hcur,hcl,hsz⟩ IH;refine zS fun _ V=>?_
   simp [h0, h5];apply V;refine J.ite rfl (fun hc2=>?_) (fun hc2=>?_)
   ·simp at hc2;have hel:=hp2 _ (List.getElem_mem hc2);apply zK;apply J.block;refine zE fun _ V=>?_
    simp [h0, h5, h1', hc2, bm, show -9223372036854775808 <= cur - (p[k].length : Int) by omega, show cur - (p[k].length : Int) <= 9223372036854775807 by omega];apply V;rw[List.drop_eq_getElem_cons hc2,vT] at hsz;refine zE fun _ V=>?_
    simp;apply V;refine J.ite rfl (fun hc3=>?_) (fun hc3=>?_)
    ·simp only[decide_eq_true_eq] at hc3;refine zE fun _ V=>?_
     simp;apply V;refine J.ret func20 (aN.one results20) (hQ _ _ _ _ (.v _ _ _) ?_);rw[<- hsz];rw[if_pos (by unfold dt;rw[if_pos hc3];omega)]
    ·simp only[decide_eq_false_iff_not] at hc3;apply J.skip;refine zI fun _ V=>?_
     simp [h5, ba (show k < 4611686018427387904 by omega)];apply V;refine IH hc2 _ _ _ ?_;have hse:dt p[k] cur=cur - p[k].length:=by unfold dt;rw[if_neg hc3]
     rw[if_neg (by rw[hse];exact hc3),hse] at hsz;exact⟨by simp[h0,bm],by simp,cur - p[k].length,by simp,by omega,by omega,hsz⟩
   ·simp at hc2;have hke:k=p.length:=by omega
    subst hke;rw[List.drop_length,vT] at hsz;refine J.exit rfl ?_;refine zE fun _ V=>?_
    simp [h1'];apply V;exact J.ret func20 (aN.one results20) (hQ _ _ _ _ (.v _ _ _) (by rw[hsz]))
end Go.Ab
namespace Go.Ab
open Go.Proofs
theorem e5:aW prog 5:=aW.of func5 (by kernel_rfl) rfl
def tv (b:aD) (left:Int):Int:=
 if fi pF b.nodes left<0 then -1 else if qz b.sites (fi pF b.nodes left)<0 then -1 else
 if fi dt b.outer (qz b.sites (fi pF b.nodes left))<0 then -1 else
 if fi AQ b.inner (fi dt b.outer (qz b.sites (fi pF b.nodes left)))<0 then -1 else fi AQ b.inner (fi dt b.outer (qz b.sites (fi pF b.nodes left)))
structure kn (b:aD):Prop where
 nodes:b.nodes.length<=9223372036854775807
 links:∀ x ∈ b.nodes,x.links.length<=9223372036854775807
 sites:b.sites.length<=9223372036854775807
 outer:b.outer.length<=9223372036854775807
 names:∀ x ∈ b.outer,x.length<=9223372036854775807
 inner:b.inner.length<=9223372036854775807
 wnames:∀ x ∈ b.inner,x.name.length<=9223372036854775807
 parents:∀ x ∈ b.nodes,bp x.parent
 sites64:∀ p ∈ b.sites,bp p
theorem Di {α:Type} (f:α->Int->Int) [SzF f]:∀ (l:List α) (left:Int),0<=left->vT f l left<=left
 | [],_,_=>Int.le_refl _
 | x::r,left,h=>by
  rw[vT];have:=xL f x left h
  split
  ·omega
  ·have:=Di f r (f x left) (by omega);omega
theorem jW {α:Type} (f:α->Int->Int) [SzF f] (l:List α) (left:Int) (h:0<=left):fi f l left<=left:=by
 unfold fi
 split
 ·omega
 ·have:=Di f l (left - l.length) (by omega);omega
theorem AK {α:Type} (f:α->Int->Int) [SzF f]:∀ (l:List α) (left:Int),0<=left->0<=vT f l left->∀ x ∈ l,∃ c,0<=c/\c<=left/\0<=f x c
 | [],_,_,_,x,hx=>by cases hx
 | y::r,left,h,h2,x,hx=>by
  rw[vT] at h2;have hle:=xL f y left h
  split at h2
  ·omega
  ·rcases List.mem_cons.1 hx with rfl | hx
   ·exact⟨left,h,Int.le_refl _,by omega⟩
   ·obtain⟨c,h3,h4,h5⟩:=AK f r (f y left) (by omega) h2 x hx;exact⟨c,h3,by omega,h5⟩
theorem qJ {α:Type} (f:α->Int->Int) [SzF f] (l:List α) (left:Int) (h:0<=left) (h2:0<=fi f l left):(l.length:Int)<=left/\∀ x ∈ l,∃ c,0<=c/\c<=left/\0<=f x c:=by
 unfold fi at h2
 split at h2
 ·omega
 ·refine⟨by omega,fun x hx=>?_⟩;obtain⟨c,h3,h4,h5⟩:=AK f l _ (by omega) h2 x hx;exact⟨c,h3,by omega,h5⟩
theorem pC {s:cB} {c:Int} (h:0<=dt s c):(s.length:Int)<=c:=by
 unfold dt at h
 split at h<;>omega
theorem Bb {s:List Int} {c:Int} (h:0<=qz s c):(s.length:Int)<=c:=by
 unfold qz at h
 split at h<;>omega
theorem oL (b:aD) (left:Int) (h0:0<=left) (h1:left<=1048576) (hb:kn b):aB prog 5 [cw false b,int left] (fun r=>r=int (tv b left)):=by
 have le1:=jW pF b.nodes left h0;refine aB.of func5 rfl ntmps5 (by simp) fun Q hQ=>?_
 refine zE fun _ V=>?_
 simp [cw, aD.cells, bP, encI, encS, bX];apply V;refine zE fun _ V=>?_
 simp;refine zA (Ay b.nodes left h0 h1 hb.nodes hb.links) e18 (.cons (aM.bP false b.nodes) (.cons (.v _ _ _) .nil)) (by simp[bP,encI,encS,bX]) ?_;rintro _ rfl;simp;apply V;refine zS fun _ V=>?_
 simp;apply V;refine J.ite rfl (fun hc=>?_) (fun hd0=>?_)
 ·simp only[decide_eq_true_eq] at hc;refine zE fun _ V=>?_
  simp;apply V;exact J.ret func5 (aN.one results5) (hQ _ _ _ _ (.v _ _ _) (by rw[tv,if_pos hc]))
 simp only[decide_eq_false_iff_not] at hd0;have le2:=xL qz b.sites (fi pF b.nodes left) (by omega);apply J.skip;refine zE fun _ V=>?_
 simp;refine zA (ui b.sites (fi pF b.nodes left) (by omega) (by omega) hb.sites) e19 (.cons (aM.encI false b.sites) (.cons (.v _ _ _) .nil)) (by simp[bP,encI,encS,bX]) ?_;rintro _ rfl;simp;apply V;refine zS fun _ V=>?_
 simp;apply V;refine J.ite rfl (fun hc=>?_) (fun hd1=>?_)
 ·simp only[decide_eq_true_eq] at hc;refine zE fun _ V=>?_
  simp;apply V;exact J.ret func5 (aN.one results5) (hQ _ _ _ _ (.v _ _ _) (by rw[tv,if_neg hd0,if_pos hc]))
 simp only[decide_eq_false_iff_not] at hd1;have le3:=jW dt b.outer (qz b.sites (fi pF b.nodes left)) (by omega);apply J.skip;refine zE fun _ V=>?_
 simp;refine zA (vc b.outer (qz b.sites (fi pF b.nodes left)) (by omega) (by omega) hb.outer hb.names) e20 (.cons (aM.encS false b.outer) (.cons (.v _ _ _) .nil)) (by simp[bP,encI,encS,bX]) ?_;rintro _ rfl;simp;apply V;refine zS fun _ V=>?_
 simp;apply V;refine J.ite rfl (fun hc=>?_) (fun hd2=>?_)
 ·simp only[decide_eq_true_eq] at hc;refine zE fun _ V=>?_
  simp;apply V;exact J.ret func5 (aN.one results5) (hQ _ _ _ _ (.v _ _ _) (by rw[tv,if_neg hd0,if_neg hd1,if_pos hc]))
 simp only[decide_eq_false_iff_not] at hd2;apply J.skip;refine zE fun _ V=>?_
 simp;refine zA (z8 b.inner (fi dt b.outer (qz b.sites (fi pF b.nodes left))) (by omega) (by omega) hb.inner hb.wnames) e21 (.cons (aM.bX false b.inner) (.cons (.v _ _ _) .nil)) (by simp[bP,encI,encS,bX]) ?_;rintro _ rfl;simp;apply V;refine zS fun _ V=>?_
 simp;apply V;refine J.ite rfl (fun hc=>?_) (fun hd3=>?_)
 ·simp only[decide_eq_true_eq] at hc;refine zE fun _ V=>?_
  simp;apply V;exact J.ret func5 (aN.one results5) (hQ _ _ _ _ (.v _ _ _) (by rw[tv,if_neg hd0,if_neg hd1,if_neg hd2,if_pos hc]))
 simp only[decide_eq_false_iff_not] at hd3;apply J.skip;refine zE fun _ V=>?_
 simp;apply V;exact J.ret func5 (aN.one results5) (hQ _ _ _ _ (.v _ _ _) (by rw[tv,if_neg hd0,if_neg hd1,if_neg hd2,if_neg hd3]))
theorem C0 {sig:dE} {b:aD} {left:Int} (h0:0<=left) (h1:left<=1048576) (hs:0<=fi nS sig left) (hb:0<=tv b (fi nS sig left)) (E:kn b):cQ sig b:=by
 have hle:=jW nS sig left h0;obtain⟨a1,a2⟩:=qJ nS sig left h0 hs;generalize fi nS sig left=l0 at *;unfold tv at hb
 split at hb
 ·omega
 split at hb
 ·omega
 split at hb
 ·omega
 split at hb
 ·omega
 rename_i U n2 n3 n4
 have le1:=jW pF b.nodes l0 hs;obtain⟨b1,b2⟩:=qJ pF b.nodes l0 hs (by omega);generalize fi pF b.nodes l0=l1 at *;have le2:=xL qz b.sites l1 (by omega);have c1:=Bb (s:=b.sites) (c:=l1) (by omega);generalize qz b.sites l1=l2 at *;have le3:=jW dt b.outer l2 (by omega);obtain⟨d1,d2⟩:=qJ dt b.outer l2 (by omega) (by omega);generalize fi dt b.outer l2=l3 at *;obtain⟨f1,f2⟩:=qJ AQ b.inner l3 (by omega) (by omega);refine⟨by omega,fun c hc=>?_,by omega,by omega,by omega,by omega,fun s hs=>?_,fun w hw=>?_,fun x hx=>?_,E.parents,E.sites64⟩
 ·obtain⟨q,_,q2,q3⟩:=a2 c hc;have:=pC q3;omega
 ·obtain⟨q,_,q2,q3⟩:=d2 s hs;have:=pC q3;omega
 ·obtain⟨q,_,q2,q3⟩:=f2 w hw;have:=pC q3;omega
 ·obtain⟨q,_,q2,q3⟩:=b2 x hx;have:=Bb q3;omega
end Go.Ab
namespace Go.Ab
open Go.Proofs
structure AF (sig:dE):Prop where
 len:sig.length<=9223372036854775807
 names:∀ c ∈ sig,c.name.length<=9223372036854775807
end Go.Ab
