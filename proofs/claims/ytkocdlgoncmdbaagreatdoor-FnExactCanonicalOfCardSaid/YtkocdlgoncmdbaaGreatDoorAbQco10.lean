/- Merged texts (10 of 17) of the proof that ends in Coy: Go Wb Wc ak Gp Gq Gr. -/
import Derived.Test.YtkocdlgoncmdbaaGreatDoorAbQco9
open Go.Proofs.Tryz
set_option linter.unusedSimpArgs false
namespace Go.Ab
open Go.Proofs
theorem e88:a8 prog 88:=a8.of func88 (by kernel_rfl) rfl
theorem nK (x:aI):aF prog 88 [.agg (aI.cells x)] (fun r=>r = .agg (aI.cells x)):=by
 refine aF.of func88 rfl ntmps88 (by simp) fun Q hQ=>?_
 refine zE fun _ V=>?_
 simp [aI.cells, bE, encI, encS, bO];apply V;refine zE fun _ V=>?_
 simp;apply V;refine zE fun _ V=>?_
 simp;apply V;refine zE fun _ V=>?_
 simp;apply V;refine zE fun _ V=>?_
 simp;apply V;exact J.ret func88 (aM.cell (cs:=aI.cells x) (v:=.agg (aI.cells x)) aw results88 Cr (by simp[aI.cells,bE,encI,encS,bO]) (by simp[ko,aI.cells])) (hQ _ _ _ _ (.of (jD.fresh (by simp[aI.cells,bE,encI,encS,bO,ay.cells,au,a7,aI.cells]))) rfl)
theorem e35:a8 prog 35:=a8.of func35 (by kernel_rfl) rfl
theorem jJ (x:Control):aF prog 35 [.agg (Control.cells x)] (fun r=>r = .agg (Control.cells x)):=by
 refine aF.of func35 rfl ntmps35 (by simp) fun Q hQ=>?_
 refine zE fun _ V=>?_
 simp [Control.cells, bE, encI, encS, bO];apply V;refine zE fun _ V=>?_
 simp;apply V;refine zE fun _ V=>?_
 simp;apply V;refine zE fun _ V=>?_
 simp;apply V;refine zE fun _ V=>?_
 simp;apply V;refine zE fun _ V=>?_
 simp;apply V;exact J.ret func35 (aM.cell (cs:=Control.cells x) (v:=.agg (Control.cells x)) aw results35 EW (by simp[Control.cells,bE,encI,encS,bO]) (by simp[ko,Control.cells])) (hQ _ _ _ _ (.of (jD.fresh (by simp[Control.cells,bE,encI,encS,bO,ay.cells,au,a7,aI.cells]))) rfl)
theorem e87:a8 prog 87:=a8.of func87 (by kernel_rfl) rfl
theorem nI (x:ay) (hl:x.links.length<=1048576):aF prog 87 [.agg (ay.cells false x)] (fun r=>r = .agg (ay.cells true x)):=by
 refine aF.of func87 rfl ntmps87 (by simp) fun Q hQ=>?_
 refine zE fun _ V=>?_
 simp [ay.cells, bE, encI, encS, bO];apply V;refine zE fun _ V=>?_
 simp;apply V;refine zE fun _ V=>?_
 simp;apply V;refine zE fun _ V=>?_
 simp;apply V;refine zE fun _ V=>?_
 simp;refine zA (jo x.links hl) e37 (.cons (aN.encI false x.links) .nil) (by simp[bE,encI,encS,bO]) ?_;rintro _ rfl;simp;apply V;refine zE fun _ V=>?_
 simp;apply V;exact J.ret func87 (aM.cell (cs:=ay.cells true x) (v:=.agg (ay.cells true x)) aw results87 ud (by simp[ay.cells,bE,encI,encS,bO]) (by simp[ko,ay.cells])) (hQ _ _ _ _ (.of (jD.fresh (by simp[ay.cells,bE,encI,encS,bO,ay.cells,au,a7,aI.cells]))) rfl)
theorem e39:a8 prog 39:=a8.of func39 (by kernel_rfl) rfl
theorem lQ (p:List (aI)) (hp:p.length<=1048576):aF prog 39 [.list false (p.map aI.cells)] (fun r=>r = .list true (p.map aI.cells)):=by
 refine aF.of func39 rfl ntmps39 (by simp) fun Q hQ=>?_
 refine zE fun _ V=>?_
 simp;apply V;refine zE fun _ V=>?_
 simp [show (p.length : Int) <= 1073741824 by omega];apply V;refine zS fun _ V=>?_
 simp;apply V;refine J.block (J.bS p.length (fun k O H n=>O 0 = .list false (p.map aI.cells)/\O 4=int k/\O 3 = .arr (0,7) p.length 0 p.length/\H (0,7)=some ⟨2,part aI.cells [str [],int 0] p k⟩) ?_ ?_)
 ·simp[aI.cells,jn]
 ·rintro k O H n hk ⟨h0,h4,h3,hH⟩ IH;refine zS fun _ V=>?_
  simp [h0, h4];apply V;refine J.ite rfl (fun hc1=>?_) (fun hc1=>?_)
  ·simp at hc1;apply zK;apply J.block;refine zF fun _ V=>?_
   simp [h0, h3, h4, hH, hc1, gf hk, fk hc1, aI.cells];refine zA (nK p[k]) e88 (.cons (aN.zz _) .nil) (by simp[aI.cells]) ?_;rintro _ rfl;simp[h3,h4,hH,hc1,gf hk,fk hc1,aI.cells];apply V;refine zI fun _ V=>?_
   simp [h4, bg (show k < 4611686018427387904 by omega)];apply V;refine IH hc1 _ _ _ ?_;rw[<- kz hc1];simp[h0,h3,aI.cells,jy hc1]
  ·simp at hc1;have hke:k=p.length:=by omega
   subst hke;rw[ku] at hH;refine J.exit rfl ?_;refine zE fun _ V=>?_
   simp [h3];apply V;exact J.ret func39 (aM.one results39) (hQ _ _ _ _ (.of (jD.yA (by simp[hH];rfl) (by simp[aI.cells,au]))) rfl)
theorem e10:a8 prog 10:=a8.of func10 (by kernel_rfl) rfl
theorem eF (p:List (Control)) (hp:p.length<=1048576):aF prog 10 [.list false (p.map Control.cells)] (fun r=>r = .list true (p.map Control.cells)):=by
 refine aF.of func10 rfl ntmps10 (by simp) fun Q hQ=>?_
 refine zE fun _ V=>?_
 simp;apply V;refine zE fun _ V=>?_
 simp [show (p.length : Int) <= 1073741824 by omega];apply V;refine zS fun _ V=>?_
 simp;apply V;refine J.block (J.bS p.length (fun k O H n=>O 0 = .list false (p.map Control.cells)/\O 4=int k/\O 3 = .arr (0,7) p.length 0 p.length/\H (0,7)=some ⟨3,part Control.cells [str [],int 0,int 0] p k⟩) ?_ ?_)
 ·simp[Control.cells,jn]
 ·rintro k O H n hk ⟨h0,h4,h3,hH⟩ IH;refine zS fun _ V=>?_
  simp [h0, h4];apply V;refine J.ite rfl (fun hc1=>?_) (fun hc1=>?_)
  ·simp at hc1;apply zK;apply J.block;refine zF fun _ V=>?_
   simp [h0, h3, h4, hH, hc1, gf hk, fk hc1, Control.cells];refine zA (jJ p[k]) e35 (.cons (aN.DW _) .nil) (by simp[Control.cells]) ?_;rintro _ rfl;simp[h3,h4,hH,hc1,gf hk,fk hc1,Control.cells];apply V;refine zI fun _ V=>?_
   simp [h4, bg (show k < 4611686018427387904 by omega)];apply V;refine IH hc1 _ _ _ ?_;rw[<- kz hc1];simp[h0,h3,Control.cells,jy hc1]
  ·simp at hc1;have hke:k=p.length:=by omega
   subst hke;rw[ku] at hH;refine J.exit rfl ?_;refine zE fun _ V=>?_
   simp [h3];apply V;exact J.ret func10 (aM.one results10) (hQ _ _ _ _ (.of (jD.yA (by simp[hH];rfl) (by simp[Control.cells,au]))) rfl)
theorem e36:a8 prog 36:=a8.of func36 (by kernel_rfl) rfl
theorem l8 (p:List (ay)) (hp:p.length<=1048576) (hl:∀ x ∈ p,x.links.length<=1048576):aF prog 36 [.list false (p.map (ay.cells false))] (fun r=>r = .list true (p.map (ay.cells true))):=by
 refine aF.of func36 rfl ntmps36 (by simp) fun Q hQ=>?_
 refine zE fun _ V=>?_
 simp;apply V;refine zE fun _ V=>?_
 simp [show (p.length : Int) <= 1073741824 by omega];apply V;refine zS fun _ V=>?_
 simp;apply V;refine J.block (J.bS p.length (fun k O H n=>O 0 = .list false (p.map (ay.cells false))/\O 4=int k/\O 3 = .arr (0,7) p.length 0 p.length/\H (0,7)=some ⟨3,part (ay.cells true) [int 0,int 0,.v (.slice none 0 0)] p k⟩) ?_ ?_)
 ·simp[ay.cells,jn]
 ·rintro k O H n hk ⟨h0,h4,h3,hH⟩ IH;refine zS fun _ V=>?_
  simp [h0, h4];apply V;refine J.ite rfl (fun hc1=>?_) (fun hc1=>?_)
  ·simp at hc1;apply zK;apply J.block;refine zF fun _ V=>?_
   simp [h0, h3, h4, hH, hc1, gf hk, fk hc1, ay.cells];refine zA (nI p[k] (hl _ (List.getElem_mem hc1))) e87 (.cons (aN.yV false _) .nil) (by simp[ay.cells]) ?_;rintro _ rfl;simp[h3,h4,hH,hc1,gf hk,fk hc1,ay.cells];apply V;refine zI fun _ V=>?_
   simp [h4, bg (show k < 4611686018427387904 by omega)];apply V;refine IH hc1 _ _ _ ?_;rw[<- kz hc1];simp[h0,h3,ay.cells,jy hc1]
  ·simp at hc1;have hke:k=p.length:=by omega
   subst hke;rw[ku] at hH;refine J.exit rfl ?_;refine zE fun _ V=>?_
   simp [h3];apply V;exact J.ret func36 (aM.one results36) (hQ _ _ _ _ (.of (jD.yA (by simp[hH];rfl) (by simp[ay.cells,au]))) rfl)
theorem e11:a8 prog 11:=a8.of func11 (by kernel_rfl) rfl
theorem fq (x:aG) (hb:x.nodes.length<=1048576/\(∀ z ∈ x.nodes,z.links.length<=1048576)/\x.sites.length<=1048576/\x.outer.length<=1048576/\x.inner.length<=1048576):aF prog 11 [.agg (aG.cells false x)] (fun r=>r = .agg (aG.cells true x)):=by
 refine aF.of func11 rfl ntmps11 (by simp) fun Q hQ=>?_
 refine zE fun _ V=>?_
 simp [aG.cells, bE, encI, encS, bO];apply V;refine zE fun _ V=>?_
 simp;apply V;refine zE fun _ V=>?_
 simp;apply V;refine zE fun _ V=>?_
 simp;refine zA (l8 x.nodes hb.1 hb.2.1) e36 (.cons (aN.bE false x.nodes) .nil) (by simp[bE,encI,encS,bO]) ?_;rintro _ rfl;simp;apply V;refine zE fun _ V=>?_
 simp;refine zA (jo x.sites hb.2.2.1) e37 (.cons (aN.encI false x.sites) .nil) (by simp[bE,encI,encS,bO]) ?_;rintro _ rfl;simp;apply V;refine zE fun _ V=>?_
 simp;apply V;refine zE fun _ V=>?_
 simp;refine zA (jX x.outer hb.2.2.2.1) e38 (.cons (aN.encS false x.outer) .nil) (by simp[bE,encI,encS,bO]) ?_;rintro _ rfl;simp;apply V;refine zE fun _ V=>?_
 simp;refine zA (lQ x.inner hb.2.2.2.2) e39 (.cons (aN.bO false x.inner) .nil) (by simp[bE,encI,encS,bO]) ?_;rintro _ rfl;simp;apply V;refine zE fun _ V=>?_
 simp;apply V;exact J.ret func11 (aM.cell (cs:=aG.cells true x) (v:=.agg (aG.cells true x)) aw results11 o7 (by simp[aG.cells,bE,encI,encS,bO]) (by simp[ko,aG.cells])) (hQ _ _ _ _ (.of (jD.fresh (by simp[aG.cells,bE,encI,encS,bO,ay.cells,au,a7,aI.cells]))) rfl)
end Go.Ab
namespace Go.Ab
open Go.Proofs
end Go.Ab
namespace Go.Ab
open Go.Proofs
end Go.Ab
namespace Go.Ab
open Go.Proofs
def dI (s:cH) (left:Int):Int:=if left - s.length<0 then -1 else left - s.length
def Small (p:Proc):Prop:=p.length<=9223372036854775807/\∀ x ∈ p,x.name.length<=9223372036854775807
end Go.Ab
namespace Go.Ab
open Go.Proofs
def uI {α:Type} (f:α->Int->Int):List α->Int->Int
 | [],left=>left
 | x::r,left=>if f x left<0 then -1 else uI f r (f x left)
def jd {α:Type} (f:α->Int->Int) (l:List α) (left:Int):Int:=if left - l.length<0 then -1 else uI f l (left - l.length)
def rM (l:List Int) (left:Int):Int:=if left - l.length<0 then -1 else left - l.length
def uX (x:Control) (left:Int):Int:=dI x.name left
def Ak (x:aI) (left:Int):Int:=dI x.name left
def qw (x:ay) (left:Int):Int:=rM x.links left
class SzF {α:Type} (f:α->Int->Int):Prop where
 le:∀ x left,0<=left->f x left<=left
theorem yJ {α:Type} (f:α->Int->Int) [SzF f] (x:α) (left:Int) (h:0<=left):f x left<=left:=SzF.le x left h
instance:SzF dI:=⟨fun x left h=>by unfold dI;split<;>omega⟩
instance:SzF rM:=⟨fun x left h=>by unfold rM;split<;>omega⟩
instance:SzF uX:=⟨fun x left h=>by unfold uX dI;split<;>omega⟩
instance:SzF Ak:=⟨fun x left h=>by unfold Ak dI;split<;>omega⟩
instance:SzF qw:=⟨fun x left h=>by unfold qw rM;split<;>omega⟩
theorem e27:a8 prog 27:=a8.of func27 (by kernel_rfl) rfl
theorem tF (x:Control) (left:Int) (h0:0<=left) (h1:left<=1048576) (hn:x.name.length<=9223372036854775807):aF prog 27 [.agg x.cells,int left] (fun r=>r=int (uX x left)):=by
 refine aF.of func27 rfl ntmps27 (by simp) fun Q hQ=>?_
 refine zE fun _ V=>?_
 simp [Control.cells];apply V;refine zE fun _ V=>?_
 simp[show -9223372036854775808<=left - (x.name.length:Int) by omega,show left - (x.name.length:Int)<=9223372036854775807 by omega];apply V;refine zS fun _ V=>?_
 simp;apply V;refine J.ite rfl (fun hc1=>?_) (fun hc1=>?_)
 ·simp only[decide_eq_true_eq] at hc1;refine zE fun _ V=>?_
  simp;apply V;refine J.ret func27 (aM.one results27) (hQ _ _ _ _ (.v _ _ _) ?_);rw[uX,dI,if_pos hc1]
 ·simp only[decide_eq_false_iff_not] at hc1;apply J.skip;refine zE fun _ V=>?_
  simp;apply V;refine J.ret func27 (aM.one results27) (hQ _ _ _ _ (.v _ _ _) ?_);rw[uX,dI,if_neg hc1]
theorem e74:a8 prog 74:=a8.of func74 (by kernel_rfl) rfl
theorem Bk (x:aI) (left:Int) (h0:0<=left) (h1:left<=1048576) (hn:x.name.length<=9223372036854775807):aF prog 74 [.agg x.cells,int left] (fun r=>r=int (Ak x left)):=by
 refine aF.of func74 rfl ntmps74 (by simp) fun Q hQ=>?_
 refine zE fun _ V=>?_
 simp [aI.cells];apply V;refine zE fun _ V=>?_
 simp[show -9223372036854775808<=left - (x.name.length:Int) by omega,show left - (x.name.length:Int)<=9223372036854775807 by omega];apply V;refine zS fun _ V=>?_
 simp;apply V;refine J.ite rfl (fun hc1=>?_) (fun hc1=>?_)
 ·simp only[decide_eq_true_eq] at hc1;refine zE fun _ V=>?_
  simp;apply V;refine J.ret func74 (aM.one results74) (hQ _ _ _ _ (.v _ _ _) ?_);rw[Ak,dI,if_pos hc1]
 ·simp only[decide_eq_false_iff_not] at hc1;apply J.skip;refine zE fun _ V=>?_
  simp;apply V;refine J.ret func74 (aM.one results74) (hQ _ _ _ _ (.v _ _ _) ?_);rw[Ak,dI,if_neg hc1]
theorem e29:a8 prog 29:=a8.of func29 (by kernel_rfl) rfl
theorem sI (x:List Int) (left:Int) (h0:0<=left) (h1:left<=1048576) (hn:x.length<=9223372036854775807):aF prog 29 [encI false x,int left] (fun r=>r=int (rM x left)):=by
 refine aF.of func29 rfl ntmps29 (by simp) fun Q hQ=>?_
 refine zE fun _ V=>?_
 simp [encI];apply V;refine zE fun _ V=>?_
 simp[show -9223372036854775808<=left - (x.length:Int) by omega,show left - (x.length:Int)<=9223372036854775807 by omega];apply V;refine zS fun _ V=>?_
 simp;apply V;refine J.ite rfl (fun hc1=>?_) (fun hc1=>?_)
 ·simp only[decide_eq_true_eq] at hc1;refine zE fun _ V=>?_
  simp;apply V;refine J.ret func29 (aM.one results29) (hQ _ _ _ _ (.v _ _ _) ?_);rw[rM,if_pos hc1]
 ·simp only[decide_eq_false_iff_not] at hc1;apply J.skip;refine zE fun _ V=>?_
  simp;apply V;refine J.ret func29 (aM.one results29) (hQ _ _ _ _ (.v _ _ _) ?_);rw[rM,if_neg hc1]
theorem e73:a8 prog 73:=a8.of func73 (by kernel_rfl) rfl
theorem Au (x:ay) (left:Int) (h0:0<=left) (h1:left<=1048576) (hn:x.links.length<=9223372036854775807):aF prog 73 [.agg (x.cells false),int left] (fun r=>r=int (qw x left)):=by
 refine aF.of func73 rfl ntmps73 (by simp) fun Q hQ=>?_
 refine zE fun _ V=>?_
 simp [ay.cells];apply V;refine zE fun _ V=>?_
 simp;refine zA (sI x.links left h0 h1 hn) e29 (.cons (aN.encI false x.links) (.cons (.v _ _ _) .nil)) (by simp[encI]) ?_;rintro _ rfl;simp;apply V;refine zS fun _ V=>?_
 simp;apply V;refine J.ite rfl (fun hc1=>?_) (fun hc1=>?_)
 ·simp only[decide_eq_true_eq] at hc1;refine zE fun _ V=>?_
  simp;apply V;refine J.ret func73 (aM.one results73) (hQ _ _ _ _ (.v _ _ _) ?_);simp only[Env.put];have:rM x.links left = -1:=by
   unfold rM at hc1 ⊢
   split<;>rename_i h
   ·rfl
   ·rw[if_neg h] at hc1;omega
  simp[qw,this]
 ·simp only[decide_eq_false_iff_not] at hc1;apply J.skip;refine zE fun _ V=>?_
  simp;apply V;refine J.ret func73 (aM.one results73) (hQ _ _ _ _ (.v _ _ _) ?_)
  rfl
theorem e7:a8 prog 7:=a8.of func7 (by kernel_rfl) rfl
theorem rK (p:List (Control)) (left:Int) (h0:0<=left) (h1:left<=1048576) (hp1:p.length<=9223372036854775807) (hp2:∀ x ∈ p,x.name.length<=9223372036854775807):aF prog 7 [.list false (p.map Control.cells),int left] (fun r=>r=int (jd uX p left)):=by
 refine aF.of func7 rfl ntmps7 (by simp) fun Q hQ=>?_
 refine zE fun _ V=>?_
 simp;apply V;refine zE fun _ V=>?_
 simp [show -9223372036854775808 <= left - p.length by omega, show left - p.length <= 9223372036854775807 by omega];apply V;refine zS fun _ V=>?_
 simp;apply V;refine J.ite rfl (fun hc1=>?_) (fun hc1=>?_)
 ·simp only[decide_eq_true_eq] at hc1;refine zE fun _ V=>?_
  simp;apply V;refine J.ret func7 (aM.one results7) (hQ _ _ _ _ (.v _ _ _) ?_);rw[jd,if_pos hc1]
 ·simp only[decide_eq_false_iff_not] at hc1;apply J.skip;refine zS fun _ V=>?_
  simp;apply V;refine J.block (J.bS p.length (fun k O H n=>O 0 = .list false (p.map Control.cells)/\O 5=int k/\∃ cur:Int,O 1=int cur/\0<=cur/\cur<=left/\uI uX (p.drop k) cur=jd uX p left) ?_ ?_)
  ·refine⟨by simp,by simp,left - p.length,by simp,by omega,by omega,?_⟩;rw[jd,if_neg hc1,List.drop_zero]
  ·rintro k O H n hk ⟨h0,h5,cur,h1',hcur,hcl,hsz⟩ IH;refine zS fun _ V=>?_
   simp [h0, h5];apply V;refine J.ite rfl (fun hc2=>?_) (fun hc2=>?_)
   ·simp at hc2;have hel:=hp2 _ (List.getElem_mem hc2);apply zK;apply J.block;refine zE fun _ V=>?_
    simp [h0, h5, h1', hc2, Control.cells];refine zA (tF p[k] cur hcur (by omega) hel) e27 (.cons (aN.DW _) (.cons (.v _ _ _) .nil)) (by simp[Control.cells,h1']) ?_;rintro _ rfl;simp;apply V;rw[List.drop_eq_getElem_cons hc2,uI] at hsz;refine zE fun _ V=>?_
    simp;apply V;refine J.ite rfl (fun hc3=>?_) (fun hc3=>?_)
    ·simp only[decide_eq_true_eq] at hc3;refine zE fun _ V=>?_
     simp;apply V;refine J.ret func7 (aM.one results7) (hQ _ _ _ _ (.v _ _ _) ?_);rw[<- hsz];rw[if_pos hc3]
    ·simp only[decide_eq_false_iff_not] at hc3;apply J.skip;refine zI fun _ V=>?_
     simp [h5, bg (show k < 4611686018427387904 by omega)];apply V;refine IH hc2 _ _ _ ?_;have hle:=yJ uX p[k] cur hcur;rw[if_neg hc3] at hsz;exact⟨by simp[h0,Control.cells],by simp,uX p[k] cur,by simp,by omega,by omega,hsz⟩
   ·simp at hc2;have hke:k=p.length:=by omega
    subst hke;rw[List.drop_length,uI] at hsz;refine J.exit rfl ?_;refine zE fun _ V=>?_
    simp [h1'];apply V;exact J.ret func7 (aM.one results7) (hQ _ _ _ _ (.v _ _ _) (by rw[hsz]))
theorem e31:a8 prog 31:=a8.of func31 (by kernel_rfl) rfl
theorem yF (p:List (aI)) (left:Int) (h0:0<=left) (h1:left<=1048576) (hp1:p.length<=9223372036854775807) (hp2:∀ x ∈ p,x.name.length<=9223372036854775807):aF prog 31 [.list false (p.map aI.cells),int left] (fun r=>r=int (jd Ak p left)):=by
 refine aF.of func31 rfl ntmps31 (by simp) fun Q hQ=>?_
 refine zE fun _ V=>?_
 simp;apply V;refine zE fun _ V=>?_
 simp [show -9223372036854775808 <= left - p.length by omega, show left - p.length <= 9223372036854775807 by omega];apply V;refine zS fun _ V=>?_
 simp;apply V;refine J.ite rfl (fun hc1=>?_) (fun hc1=>?_)
 ·simp only[decide_eq_true_eq] at hc1;refine zE fun _ V=>?_
  simp;apply V;refine J.ret func31 (aM.one results31) (hQ _ _ _ _ (.v _ _ _) ?_);rw[jd,if_pos hc1]
 ·simp only[decide_eq_false_iff_not] at hc1;apply J.skip;refine zS fun _ V=>?_
  simp;apply V;refine J.block (J.bS p.length (fun k O H n=>O 0 = .list false (p.map aI.cells)/\O 5=int k/\∃ cur:Int,O 1=int cur/\0<=cur/\cur<=left/\uI Ak (p.drop k) cur=jd Ak p left) ?_ ?_)
  ·refine⟨by simp,by simp,left - p.length,by simp,by omega,by omega,?_⟩;rw[jd,if_neg hc1,List.drop_zero]
  ·rintro k O H n hk ⟨h0,h5,cur,h1',hcur,hcl,hsz⟩ IH;refine zS fun _ V=>?_
   simp [h0, h5];apply V;refine J.ite rfl (fun hc2=>?_) (fun hc2=>?_)
   ·simp at hc2;have hel:=hp2 _ (List.getElem_mem hc2);apply zK;apply J.block;refine zE fun _ V=>?_
    simp [h0, h5, h1', hc2, aI.cells];refine zA (Bk p[k] cur hcur (by omega) hel) e74 (.cons (aN.zz _) (.cons (.v _ _ _) .nil)) (by simp[aI.cells,h1']) ?_;rintro _ rfl;simp;apply V;rw[List.drop_eq_getElem_cons hc2,uI] at hsz;refine zE fun _ V=>?_
    simp;apply V;refine J.ite rfl (fun hc3=>?_) (fun hc3=>?_)
    ·simp only[decide_eq_true_eq] at hc3;refine zE fun _ V=>?_
     simp;apply V;refine J.ret func31 (aM.one results31) (hQ _ _ _ _ (.v _ _ _) ?_);rw[<- hsz];rw[if_pos hc3]
    ·simp only[decide_eq_false_iff_not] at hc3;apply J.skip;refine zI fun _ V=>?_
     simp [h5, bg (show k < 4611686018427387904 by omega)];apply V;refine IH hc2 _ _ _ ?_;have hle:=yJ Ak p[k] cur hcur;rw[if_neg hc3] at hsz;exact⟨by simp[h0,aI.cells],by simp,Ak p[k] cur,by simp,by omega,by omega,hsz⟩
   ·simp at hc2;have hke:k=p.length:=by omega
    subst hke;rw[List.drop_length,uI] at hsz;refine J.exit rfl ?_;refine zE fun _ V=>?_
    simp [h1'];apply V;exact J.ret func31 (aM.one results31) (hQ _ _ _ _ (.v _ _ _) (by rw[hsz]))
theorem e28:a8 prog 28:=a8.of func28 (by kernel_rfl) rfl
theorem xq (p:List (ay)) (left:Int) (h0:0<=left) (h1:left<=1048576) (hp1:p.length<=9223372036854775807) (hp2:∀ x ∈ p,x.links.length<=9223372036854775807):aF prog 28 [.list false (p.map (ay.cells false)),int left] (fun r=>r=int (jd qw p left)):=by
 refine aF.of func28 rfl ntmps28 (by simp) fun Q hQ=>?_
 refine zE fun _ V=>?_
 simp;apply V;refine zE fun _ V=>?_
 simp [show -9223372036854775808 <= left - p.length by omega, show left - p.length <= 9223372036854775807 by omega];apply V;refine zS fun _ V=>?_
 simp;apply V;refine J.ite rfl (fun hc1=>?_) (fun hc1=>?_)
 ·simp only[decide_eq_true_eq] at hc1;refine zE fun _ V=>?_
  simp;apply V;refine J.ret func28 (aM.one results28) (hQ _ _ _ _ (.v _ _ _) ?_);rw[jd,if_pos hc1]
 ·simp only[decide_eq_false_iff_not] at hc1;apply J.skip;refine zS fun _ V=>?_
  simp;apply V;refine J.block (J.bS p.length (fun k O H n=>O 0 = .list false (p.map (ay.cells false))/\O 5=int k/\∃ cur:Int,O 1=int cur/\0<=cur/\cur<=left/\uI qw (p.drop k) cur=jd qw p left) ?_ ?_)
  ·refine⟨by simp,by simp,left - p.length,by simp,by omega,by omega,?_⟩;rw[jd,if_neg hc1,List.drop_zero]
  ·rintro k O H n hk ⟨h0,h5,cur,h1',hcur,hcl,hsz⟩ IH;refine zS fun _ V=>?_
   simp [h0, h5];apply V;refine J.ite rfl (fun hc2=>?_) (fun hc2=>?_)
   ·simp at hc2;have hel:=hp2 _ (List.getElem_mem hc2);apply zK;apply J.block;refine zE fun _ V=>?_
    simp [h0, h5, h1', hc2, ay.cells];refine zA (Au p[k] cur hcur (by omega) hel) e73 (.cons (aN.yV false _) (.cons (.v _ _ _) .nil)) (by simp[ay.cells,h1']) ?_;rintro _ rfl;simp;apply V;rw[List.drop_eq_getElem_cons hc2,uI] at hsz;refine zE fun _ V=>?_
    simp;apply V;refine J.ite rfl (fun hc3=>?_) (fun hc3=>?_)
    ·simp only[decide_eq_true_eq] at hc3;refine zE fun _ V=>?_
     simp;apply V;refine J.ret func28 (aM.one results28) (hQ _ _ _ _ (.v _ _ _) ?_);rw[<- hsz];rw[if_pos hc3]
    ·simp only[decide_eq_false_iff_not] at hc3;apply J.skip;refine zI fun _ V=>?_
     simp [h5, bg (show k < 4611686018427387904 by omega)];apply V;refine IH hc2 _ _ _ ?_;have hle:=yJ qw p[k] cur hcur;rw[if_neg hc3] at hsz;exact⟨by simp[h0,ay.cells],by simp,qw p[k] cur,by simp,by omega,by omega,hsz⟩
   ·simp at hc2;have hke:k=p.length:=by omega
    subst hke;rw[List.drop_length,uI] at hsz;refine J.exit rfl ?_;refine zE fun _ V=>?_
    simp [h1'];apply V;exact J.ret func28 (aM.one results28) (hQ _ _ _ _ (.v _ _ _) (by rw[hsz]))
theorem e30:a8 prog 30:=a8.of func30 (by kernel_rfl) rfl
theorem tn (p:List (cH)) (left:Int) (h0:0<=left) (h1:left<=1048576) (hp1:p.length<=9223372036854775807) (hp2:∀ x ∈ p,x.length<=9223372036854775807):aF prog 30 [.list false (p.map a7),int left] (fun r=>r=int (jd dI p left)):=by
 refine aF.of func30 rfl ntmps30 (by simp) fun Q hQ=>?_
 refine zE fun _ V=>?_
 simp;apply V;refine zE fun _ V=>?_
 simp [show -9223372036854775808 <= left - p.length by omega, show left - p.length <= 9223372036854775807 by omega];apply V;refine zS fun _ V=>?_
 simp;apply V;refine J.ite rfl (fun hc1=>?_) (fun hc1=>?_)
 ·simp only[decide_eq_true_eq] at hc1;refine zE fun _ V=>?_
  simp;apply V;refine J.ret func30 (aM.one results30) (hQ _ _ _ _ (.v _ _ _) ?_);rw[jd,if_pos hc1]
 ·simp only[decide_eq_false_iff_not] at hc1;apply J.skip;refine zS fun _ V=>?_
  simp;apply V;refine J.block (J.bS p.length (fun k O H n=>O 0 = .list false (p.map a7)/\O 5=int k/\∃ cur:Int,O 1=int cur/\0<=cur/\cur<=left/\uI dI (p.drop k) cur=jd dI p left) ?_ ?_)
  ·refine⟨by simp,by simp,left - p.length,by simp,by omega,by omega,?_⟩;rw[jd,if_neg hc1,List.drop_zero]
  ·rintro k O H n hk ⟨h0,h5,cur,h1',hcur,hcl,hsz⟩ IH;refine zS fun _ V=>?_
   simp [h0, h5];apply V;refine J.ite rfl (fun hc2=>?_) (fun hc2=>?_)
   ·simp at hc2;have hel:=hp2 _ (List.getElem_mem hc2);apply zK;apply J.block;refine zE fun _ V=>?_
    simp [h0, h5, h1', hc2, a7, show -9223372036854775808 <= cur - (p[k].length : Int) by omega, show cur - (p[k].length : Int) <= 9223372036854775807 by omega];apply V;rw[List.drop_eq_getElem_cons hc2,uI] at hsz;refine zE fun _ V=>?_
    simp;apply V;refine J.ite rfl (fun hc3=>?_) (fun hc3=>?_)
    ·simp only[decide_eq_true_eq] at hc3;refine zE fun _ V=>?_
     simp;apply V;refine J.ret func30 (aM.one results30) (hQ _ _ _ _ (.v _ _ _) ?_);rw[<- hsz];rw[if_pos (by unfold dI;rw[if_pos hc3];omega)]
    ·simp only[decide_eq_false_iff_not] at hc3;apply J.skip;refine zI fun _ V=>?_
     simp [h5, bg (show k < 4611686018427387904 by omega)];apply V;refine IH hc2 _ _ _ ?_;have hse:dI p[k] cur=cur - p[k].length:=by unfold dI;rw[if_neg hc3]
     rw[if_neg (by rw[hse];exact hc3),hse] at hsz;exact⟨by simp[h0,a7],by simp,cur - p[k].length,by simp,by omega,by omega,hsz⟩
   ·simp at hc2;have hke:k=p.length:=by omega
    subst hke;rw[List.drop_length,uI] at hsz;refine J.exit rfl ?_;refine zE fun _ V=>?_
    simp [h1'];apply V;exact J.ret func30 (aM.one results30) (hQ _ _ _ _ (.v _ _ _) (by rw[hsz]))
end Go.Ab
namespace Go.Ab
open Go.Proofs
theorem e8:a8 prog 8:=a8.of func8 (by kernel_rfl) rfl
def Er (b:aG) (left:Int):Int:=
 if jd qw b.nodes left<0 then -1 else if rM b.sites (jd qw b.nodes left)<0 then -1 else
 if jd dI b.outer (rM b.sites (jd qw b.nodes left))<0 then -1 else
 if jd Ak b.inner (jd dI b.outer (rM b.sites (jd qw b.nodes left)))<0 then -1 else jd Ak b.inner (jd dI b.outer (rM b.sites (jd qw b.nodes left)))
structure oG (b:aG):Prop where
 nodes:b.nodes.length<=9223372036854775807
 links:∀ x ∈ b.nodes,x.links.length<=9223372036854775807
 sites:b.sites.length<=9223372036854775807
 outer:b.outer.length<=9223372036854775807
 names:∀ x ∈ b.outer,x.length<=9223372036854775807
 inner:b.inner.length<=9223372036854775807
 wnames:∀ x ∈ b.inner,x.name.length<=9223372036854775807
 parents:∀ x ∈ b.nodes,bP x.parent
 sites64:∀ p ∈ b.sites,bP p
theorem C9 {α:Type} (f:α->Int->Int) [SzF f]:∀ (l:List α) (left:Int),0<=left->uI f l left<=left
 | [],_,_=>Int.le_refl _
 | x::r,left,h=>by
  rw[uI];have:=yJ f x left h
  split
  ·omega
  ·have:=C9 f r (f x left) (by omega);omega
theorem nV {α:Type} (f:α->Int->Int) [SzF f] (l:List α) (left:Int) (h:0<=left):jd f l left<=left:=by
 unfold jd
 split
 ·omega
 ·have:=C9 f l (left - l.length) (by omega);omega
theorem zh {α:Type} (f:α->Int->Int) [SzF f]:∀ (l:List α) (left:Int),0<=left->0<=uI f l left->∀ x ∈ l,∃ c,0<=c/\c<=left/\0<=f x c
 | [],_,_,_,x,hx=>by cases hx
 | y::r,left,h,h2,x,hx=>by
  rw[uI] at h2;have hle:=yJ f y left h
  split at h2
  ·omega
  ·rcases List.mem_cons.1 hx with rfl | hx
   ·exact⟨left,h,Int.le_refl _,by omega⟩
   ·obtain⟨c,h3,h4,h5⟩:=zh f r (f y left) (by omega) h2 x hx;exact⟨c,h3,by omega,h5⟩
theorem pE {α:Type} (f:α->Int->Int) [SzF f] (l:List α) (left:Int) (h:0<=left) (h2:0<=jd f l left):(l.length:Int)<=left/\∀ x ∈ l,∃ c,0<=c/\c<=left/\0<=f x c:=by
 unfold jd at h2
 split at h2
 ·omega
 ·refine⟨by omega,fun x hx=>?_⟩;obtain⟨c,h3,h4,h5⟩:=zh f l _ (by omega) h2 x hx;exact⟨c,h3,by omega,h5⟩
theorem ou {s:cH} {c:Int} (h:0<=dI s c):(s.length:Int)<=c:=by
 unfold dI at h
 split at h<;>omega
theorem zg {s:List Int} {c:Int} (h:0<=rM s c):(s.length:Int)<=c:=by
 unfold rM at h
 split at h<;>omega
theorem uC (b:aG) (left:Int) (h0:0<=left) (h1:left<=1048576) (hb:oG b):aF prog 8 [cQ false b,int left] (fun r=>r=int (Er b left)):=by
 have le1:=nV qw b.nodes left h0;refine aF.of func8 rfl ntmps8 (by simp) fun Q hQ=>?_
 refine zE fun _ V=>?_
 simp [cQ, aG.cells, bE, encI, encS, bO];apply V;refine zE fun _ V=>?_
 simp;refine zA (xq b.nodes left h0 h1 hb.nodes hb.links) e28 (.cons (aN.bE false b.nodes) (.cons (.v _ _ _) .nil)) (by simp[bE,encI,encS,bO]) ?_;rintro _ rfl;simp;apply V;refine zS fun _ V=>?_
 simp;apply V;refine J.ite rfl (fun hc=>?_) (fun hd0=>?_)
 ·simp only[decide_eq_true_eq] at hc;refine zE fun _ V=>?_
  simp;apply V;exact J.ret func8 (aM.one results8) (hQ _ _ _ _ (.v _ _ _) (by rw[Er,if_pos hc]))
 simp only[decide_eq_false_iff_not] at hd0;have le2:=yJ rM b.sites (jd qw b.nodes left) (by omega);apply J.skip;refine zE fun _ V=>?_
 simp;refine zA (sI b.sites (jd qw b.nodes left) (by omega) (by omega) hb.sites) e29 (.cons (aN.encI false b.sites) (.cons (.v _ _ _) .nil)) (by simp[bE,encI,encS,bO]) ?_;rintro _ rfl;simp;apply V;refine zS fun _ V=>?_
 simp;apply V;refine J.ite rfl (fun hc=>?_) (fun hd1=>?_)
 ·simp only[decide_eq_true_eq] at hc;refine zE fun _ V=>?_
  simp;apply V;exact J.ret func8 (aM.one results8) (hQ _ _ _ _ (.v _ _ _) (by rw[Er,if_neg hd0,if_pos hc]))
 simp only[decide_eq_false_iff_not] at hd1;have le3:=nV dI b.outer (rM b.sites (jd qw b.nodes left)) (by omega);apply J.skip;refine zE fun _ V=>?_
 simp;refine zA (tn b.outer (rM b.sites (jd qw b.nodes left)) (by omega) (by omega) hb.outer hb.names) e30 (.cons (aN.encS false b.outer) (.cons (.v _ _ _) .nil)) (by simp[bE,encI,encS,bO]) ?_;rintro _ rfl;simp;apply V;refine zS fun _ V=>?_
 simp;apply V;refine J.ite rfl (fun hc=>?_) (fun hd2=>?_)
 ·simp only[decide_eq_true_eq] at hc;refine zE fun _ V=>?_
  simp;apply V;exact J.ret func8 (aM.one results8) (hQ _ _ _ _ (.v _ _ _) (by rw[Er,if_neg hd0,if_neg hd1,if_pos hc]))
 simp only[decide_eq_false_iff_not] at hd2;apply J.skip;refine zE fun _ V=>?_
 simp;refine zA (yF b.inner (jd dI b.outer (rM b.sites (jd qw b.nodes left))) (by omega) (by omega) hb.inner hb.wnames) e31 (.cons (aN.bO false b.inner) (.cons (.v _ _ _) .nil)) (by simp[bE,encI,encS,bO]) ?_;rintro _ rfl;simp;apply V;refine zS fun _ V=>?_
 simp;apply V;refine J.ite rfl (fun hc=>?_) (fun hd3=>?_)
 ·simp only[decide_eq_true_eq] at hc;refine zE fun _ V=>?_
  simp;apply V;exact J.ret func8 (aM.one results8) (hQ _ _ _ _ (.v _ _ _) (by rw[Er,if_neg hd0,if_neg hd1,if_neg hd2,if_pos hc]))
 simp only[decide_eq_false_iff_not] at hd3;apply J.skip;refine zE fun _ V=>?_
 simp;apply V;exact J.ret func8 (aM.one results8) (hQ _ _ _ _ (.v _ _ _) (by rw[Er,if_neg hd0,if_neg hd1,if_neg hd2,if_neg hd3]))
theorem smallB {sig:dG} {b:aG} {left:Int} (h0:0<=left) (h1:left<=1048576) (hs:0<=jd uX sig left) (hb:0<=Er b (jd uX sig left)) (E:oG b):fF sig b:=by
 have hle:=nV uX sig left h0;obtain⟨a1,a2⟩:=pE uX sig left h0 hs;generalize jd uX sig left=l0 at *;unfold Er at hb
 split at hb
 ·omega
 split at hb
 ·omega
 split at hb
 ·omega
 split at hb
 ·omega
 rename_i U n2 n3 n4
 have le1:=nV qw b.nodes l0 hs;obtain⟨b1,b2⟩:=pE qw b.nodes l0 hs (by omega);generalize jd qw b.nodes l0=l1 at *;have le2:=yJ rM b.sites l1 (by omega);have c1:=zg (s:=b.sites) (c:=l1) (by omega);generalize rM b.sites l1=l2 at *;have le3:=nV dI b.outer l2 (by omega);obtain⟨d1,d2⟩:=pE dI b.outer l2 (by omega) (by omega);generalize jd dI b.outer l2=l3 at *;obtain⟨f1,f2⟩:=pE Ak b.inner l3 (by omega) (by omega);refine⟨by omega,fun c hc=>?_,by omega,by omega,by omega,by omega,fun s hs=>?_,fun w hw=>?_,fun x hx=>?_,E.parents,E.sites64⟩
 ·obtain⟨q,_,q2,q3⟩:=a2 c hc;have:=ou q3;omega
 ·obtain⟨q,_,q2,q3⟩:=d2 s hs;have:=ou q3;omega
 ·obtain⟨q,_,q2,q3⟩:=f2 w hw;have:=ou q3;omega
 ·obtain⟨q,_,q2,q3⟩:=b2 x hx;have:=zg q3;omega
end Go.Ab
namespace Go.Ab
open Go.Proofs
structure zy (sig:dG):Prop where
 len:sig.length<=9223372036854775807
 names:∀ c ∈ sig,c.name.length<=9223372036854775807
end Go.Ab
