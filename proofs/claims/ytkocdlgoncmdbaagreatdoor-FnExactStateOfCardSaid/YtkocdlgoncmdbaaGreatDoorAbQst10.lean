/- Merged texts (10 of 18) of the proof that ends in Sty: Go Wb Wc ak Gp Gq Gr. -/
import Derived.Test.YtkocdlgoncmdbaaGreatDoorAbQst9
open Go.Proofs.Tryz
set_option linter.unusedSimpArgs false
namespace Go.Ab
open Go.Proofs
theorem e88:a8 prog 88:=a8.of func88 (by kernel_rfl) rfl
theorem ou (x:aQ):aC prog 88 [.agg (aQ.cells x)] (fun r=>r = .agg (aQ.cells x)):=by
 refine aC.of func88 rfl ntmps88 (by simp) fun Q hQ=>?_
 refine zE fun _ V=>?_
 simp [aQ.cells, aB, encI, encS, aD];apply V;refine zE fun _ V=>?_
 simp;apply V;refine zE fun _ V=>?_
 simp;apply V;refine zE fun _ V=>?_
 simp;apply V;refine zE fun _ V=>?_
 simp;apply V;exact J.ret func88 (aR.cell (cs:=aQ.cells x) (v:=.agg (aQ.cells x)) ay results88 DA (by simp[aQ.cells,aB,encI,encS,aD]) (by simp[kb,aQ.cells])) (hQ _ _ _ _ (.of (jk.fresh (by simp[aQ.cells,aB,encI,encS,aD,az.cells,av,bg,aQ.cells]))) rfl)
theorem e35:a8 prog 35:=a8.of func35 (by kernel_rfl) rfl
theorem jI (x:Control):aC prog 35 [.agg (Control.cells x)] (fun r=>r = .agg (Control.cells x)):=by
 refine aC.of func35 rfl ntmps35 (by simp) fun Q hQ=>?_
 refine zE fun _ V=>?_
 simp [Control.cells, aB, encI, encS, aD];apply V;refine zE fun _ V=>?_
 simp;apply V;refine zE fun _ V=>?_
 simp;apply V;refine zE fun _ V=>?_
 simp;apply V;refine zE fun _ V=>?_
 simp;apply V;refine zE fun _ V=>?_
 simp;apply V;exact J.ret func35 (aR.cell (cs:=Control.cells x) (v:=.agg (Control.cells x)) ay results35 Hl (by simp[Control.cells,aB,encI,encS,aD]) (by simp[kb,Control.cells])) (hQ _ _ _ _ (.of (jk.fresh (by simp[Control.cells,aB,encI,encS,aD,az.cells,av,bg,aQ.cells]))) rfl)
theorem e87:a8 prog 87:=a8.of func87 (by kernel_rfl) rfl
theorem oB (x:az) (hl:x.links.length<=1048576):aC prog 87 [.agg (az.cells false x)] (fun r=>r = .agg (az.cells true x)):=by
 refine aC.of func87 rfl ntmps87 (by simp) fun Q hQ=>?_
 refine zE fun _ V=>?_
 simp [az.cells, aB, encI, encS, aD];apply V;refine zE fun _ V=>?_
 simp;apply V;refine zE fun _ V=>?_
 simp;apply V;refine zE fun _ V=>?_
 simp;apply V;refine zE fun _ V=>?_
 simp;refine zA (iJ x.links hl) e37 (.cons (aJ.encI false x.links) .nil) (by simp[aB,encI,encS,aD]) ?_;rintro _ rfl;simp;apply V;refine zE fun _ V=>?_
 simp;apply V;exact J.ret func87 (aR.cell (cs:=az.cells true x) (v:=.agg (az.cells true x)) ay results87 ub (by simp[az.cells,aB,encI,encS,aD]) (by simp[kb,az.cells])) (hQ _ _ _ _ (.of (jk.fresh (by simp[az.cells,aB,encI,encS,aD,az.cells,av,bg,aQ.cells]))) rfl)
theorem e39:a8 prog 39:=a8.of func39 (by kernel_rfl) rfl
theorem me (p:List (aQ)) (hp:p.length<=1048576):aC prog 39 [.list false (p.map aQ.cells)] (fun r=>r = .list true (p.map aQ.cells)):=by
 refine aC.of func39 rfl ntmps39 (by simp) fun Q hQ=>?_
 refine zE fun _ V=>?_
 simp;apply V;refine zE fun _ V=>?_
 simp [show (p.length : Int) <= 1073741824 by omega];apply V;refine zS fun _ V=>?_
 simp;apply V;refine J.block (J.bO p.length (fun k O H n=>O 0 = .list false (p.map aQ.cells)/\O 4=int k/\O 3 = .arr (0,7) p.length 0 p.length/\H (0,7)=some ⟨2,part aQ.cells [str [],int 0] p k⟩) ?_ ?_)
 ·simp[aQ.cells,iV]
 ·rintro k O H n hk ⟨h0,h4,h3,hH⟩ IH;refine zS fun _ V=>?_
  simp [h0, h4];apply V;refine J.ite rfl (fun hc1=>?_) (fun hc1=>?_)
  ·simp at hc1;apply zK;apply J.block;refine zF fun _ V=>?_
   simp [h0, h3, h4, hH, hc1, fN hk, fk hc1, aQ.cells];refine zA (ou p[k]) e88 (.cons (aJ.Aj _) .nil) (by simp[aQ.cells]) ?_;rintro _ rfl;simp[h3,h4,hH,hc1,fN hk,fk hc1,aQ.cells];apply V;refine zI fun _ V=>?_
   simp [h4, bm (show k < 4611686018427387904 by omega)];apply V;refine IH hc1 _ _ _ ?_;rw[<- j5 hc1];simp[h0,h3,aQ.cells,iQ hc1]
  ·simp at hc1;have hke:k=p.length:=by omega
   subst hke;rw[ko] at hH;refine J.exit rfl ?_;refine zE fun _ V=>?_
   simp [h3];apply V;exact J.ret func39 (aR.one results39) (hQ _ _ _ _ (.of (jk.xR (by simp[hH];rfl) (by simp[aQ.cells,av]))) rfl)
theorem e10:a8 prog 10:=a8.of func10 (by kernel_rfl) rfl
theorem fK (p:List (Control)) (hp:p.length<=1048576):aC prog 10 [.list false (p.map Control.cells)] (fun r=>r = .list true (p.map Control.cells)):=by
 refine aC.of func10 rfl ntmps10 (by simp) fun Q hQ=>?_
 refine zE fun _ V=>?_
 simp;apply V;refine zE fun _ V=>?_
 simp [show (p.length : Int) <= 1073741824 by omega];apply V;refine zS fun _ V=>?_
 simp;apply V;refine J.block (J.bO p.length (fun k O H n=>O 0 = .list false (p.map Control.cells)/\O 4=int k/\O 3 = .arr (0,7) p.length 0 p.length/\H (0,7)=some ⟨3,part Control.cells [str [],int 0,int 0] p k⟩) ?_ ?_)
 ·simp[Control.cells,iV]
 ·rintro k O H n hk ⟨h0,h4,h3,hH⟩ IH;refine zS fun _ V=>?_
  simp [h0, h4];apply V;refine J.ite rfl (fun hc1=>?_) (fun hc1=>?_)
  ·simp at hc1;apply zK;apply J.block;refine zF fun _ V=>?_
   simp [h0, h3, h4, hH, hc1, fN hk, fk hc1, Control.cells];refine zA (jI p[k]) e35 (.cons (aJ.FJ _) .nil) (by simp[Control.cells]) ?_;rintro _ rfl;simp[h3,h4,hH,hc1,fN hk,fk hc1,Control.cells];apply V;refine zI fun _ V=>?_
   simp [h4, bm (show k < 4611686018427387904 by omega)];apply V;refine IH hc1 _ _ _ ?_;rw[<- j5 hc1];simp[h0,h3,Control.cells,iQ hc1]
  ·simp at hc1;have hke:k=p.length:=by omega
   subst hke;rw[ko] at hH;refine J.exit rfl ?_;refine zE fun _ V=>?_
   simp [h3];apply V;exact J.ret func10 (aR.one results10) (hQ _ _ _ _ (.of (jk.xR (by simp[hH];rfl) (by simp[Control.cells,av]))) rfl)
theorem e36:a8 prog 36:=a8.of func36 (by kernel_rfl) rfl
theorem mj (p:List (az)) (hp:p.length<=1048576) (hl:∀ x ∈ p,x.links.length<=1048576):aC prog 36 [.list false (p.map (az.cells false))] (fun r=>r = .list true (p.map (az.cells true))):=by
 refine aC.of func36 rfl ntmps36 (by simp) fun Q hQ=>?_
 refine zE fun _ V=>?_
 simp;apply V;refine zE fun _ V=>?_
 simp [show (p.length : Int) <= 1073741824 by omega];apply V;refine zS fun _ V=>?_
 simp;apply V;refine J.block (J.bO p.length (fun k O H n=>O 0 = .list false (p.map (az.cells false))/\O 4=int k/\O 3 = .arr (0,7) p.length 0 p.length/\H (0,7)=some ⟨3,part (az.cells true) [int 0,int 0,.v (.slice none 0 0)] p k⟩) ?_ ?_)
 ·simp[az.cells,iV]
 ·rintro k O H n hk ⟨h0,h4,h3,hH⟩ IH;refine zS fun _ V=>?_
  simp [h0, h4];apply V;refine J.ite rfl (fun hc1=>?_) (fun hc1=>?_)
  ·simp at hc1;apply zK;apply J.block;refine zF fun _ V=>?_
   simp [h0, h3, h4, hH, hc1, fN hk, fk hc1, az.cells];refine zA (oB p[k] (hl _ (List.getElem_mem hc1))) e87 (.cons (aJ.AD false _) .nil) (by simp[az.cells]) ?_;rintro _ rfl;simp[h3,h4,hH,hc1,fN hk,fk hc1,az.cells];apply V;refine zI fun _ V=>?_
   simp [h4, bm (show k < 4611686018427387904 by omega)];apply V;refine IH hc1 _ _ _ ?_;rw[<- j5 hc1];simp[h0,h3,az.cells,iQ hc1]
  ·simp at hc1;have hke:k=p.length:=by omega
   subst hke;rw[ko] at hH;refine J.exit rfl ?_;refine zE fun _ V=>?_
   simp [h3];apply V;exact J.ret func36 (aR.one results36) (hQ _ _ _ _ (.of (jk.xR (by simp[hH];rfl) (by simp[az.cells,av]))) rfl)
theorem e11:a8 prog 11:=a8.of func11 (by kernel_rfl) rfl
theorem fi (x:I) (hb:x.nodes.length<=1048576/\(∀ z ∈ x.nodes,z.links.length<=1048576)/\x.sites.length<=1048576/\x.outer.length<=1048576/\x.inner.length<=1048576):aC prog 11 [.agg (I.cells false x)] (fun r=>r = .agg (I.cells true x)):=by
 refine aC.of func11 rfl ntmps11 (by simp) fun Q hQ=>?_
 refine zE fun _ V=>?_
 simp [I.cells, aB, encI, encS, aD];apply V;refine zE fun _ V=>?_
 simp;apply V;refine zE fun _ V=>?_
 simp;apply V;refine zE fun _ V=>?_
 simp;refine zA (mj x.nodes hb.1 hb.2.1) e36 (.cons (aJ.aB false x.nodes) .nil) (by simp[aB,encI,encS,aD]) ?_;rintro _ rfl;simp;apply V;refine zE fun _ V=>?_
 simp;refine zA (iJ x.sites hb.2.2.1) e37 (.cons (aJ.encI false x.sites) .nil) (by simp[aB,encI,encS,aD]) ?_;rintro _ rfl;simp;apply V;refine zE fun _ V=>?_
 simp;apply V;refine zE fun _ V=>?_
 simp;refine zA (jJ x.outer hb.2.2.2.1) e38 (.cons (aJ.encS false x.outer) .nil) (by simp[aB,encI,encS,aD]) ?_;rintro _ rfl;simp;apply V;refine zE fun _ V=>?_
 simp;refine zA (me x.inner hb.2.2.2.2) e39 (.cons (aJ.aD false x.inner) .nil) (by simp[aB,encI,encS,aD]) ?_;rintro _ rfl;simp;apply V;refine zE fun _ V=>?_
 simp;apply V;exact J.ret func11 (aR.cell (cs:=I.cells true x) (v:=.agg (I.cells true x)) ay results11 AU (by simp[I.cells,aB,encI,encS,aD]) (by simp[kb,I.cells])) (hQ _ _ _ _ (.of (jk.fresh (by simp[I.cells,aB,encI,encS,aD,az.cells,av,bg,aQ.cells]))) rfl)
end Go.Ab
namespace Go.Ab
open Go.Proofs
end Go.Ab
namespace Go.Ab
open Go.Proofs
end Go.Ab
namespace Go.Ab
open Go.Proofs
def cW (s:cP) (left:Int):Int:=if left - s.length<0 then -1 else left - s.length
def Small (p:Proc):Prop:=p.length<=9223372036854775807/\∀ x ∈ p,x.name.length<=9223372036854775807
end Go.Ab
namespace Go.Ab
open Go.Proofs
def oF {α:Type} (f:α->Int->Int):List α->Int->Int
 | [],left=>left
 | x::r,left=>if f x left<0 then -1 else oF f r (f x left)
def ef {α:Type} (f:α->Int->Int) (l:List α) (left:Int):Int:=if left - l.length<0 then -1 else oF f l (left - l.length)
def lR (l:List Int) (left:Int):Int:=if left - l.length<0 then -1 else left - l.length
def pJ (x:Control) (left:Int):Int:=cW x.name left
def xG (x:aQ) (left:Int):Int:=cW x.name left
def mm (x:az) (left:Int):Int:=lR x.links left
class SzF {α:Type} (f:α->Int->Int):Prop where
 le:∀ x left,0<=left->f x left<=left
theorem sC {α:Type} (f:α->Int->Int) [SzF f] (x:α) (left:Int) (h:0<=left):f x left<=left:=SzF.le x left h
instance:SzF cW:=⟨fun x left h=>by unfold cW;split<;>omega⟩
instance:SzF lR:=⟨fun x left h=>by unfold lR;split<;>omega⟩
instance:SzF pJ:=⟨fun x left h=>by unfold pJ cW;split<;>omega⟩
instance:SzF xG:=⟨fun x left h=>by unfold xG cW;split<;>omega⟩
instance:SzF mm:=⟨fun x left h=>by unfold mm lR;split<;>omega⟩
theorem e27:a8 prog 27:=a8.of func27 (by kernel_rfl) rfl
theorem uJ (x:Control) (left:Int) (h0:0<=left) (h1:left<=1048576) (hn:x.name.length<=9223372036854775807):aC prog 27 [.agg x.cells,int left] (fun r=>r=int (pJ x left)):=by
 refine aC.of func27 rfl ntmps27 (by simp) fun Q hQ=>?_
 refine zE fun _ V=>?_
 simp [Control.cells];apply V;refine zE fun _ V=>?_
 simp[show -9223372036854775808<=left - (x.name.length:Int) by omega,show left - (x.name.length:Int)<=9223372036854775807 by omega];apply V;refine zS fun _ V=>?_
 simp;apply V;refine J.ite rfl (fun hc1=>?_) (fun hc1=>?_)
 ·simp only[decide_eq_true_eq] at hc1;refine zE fun _ V=>?_
  simp;apply V;refine J.ret func27 (aR.one results27) (hQ _ _ _ _ (.v _ _ _) ?_);rw[pJ,cW,if_pos hc1]
 ·simp only[decide_eq_false_iff_not] at hc1;apply J.skip;refine zE fun _ V=>?_
  simp;apply V;refine J.ret func27 (aR.one results27) (hQ _ _ _ _ (.v _ _ _) ?_);rw[pJ,cW,if_neg hc1]
theorem e74:a8 prog 74:=a8.of func74 (by kernel_rfl) rfl
theorem Bl (x:aQ) (left:Int) (h0:0<=left) (h1:left<=1048576) (hn:x.name.length<=9223372036854775807):aC prog 74 [.agg x.cells,int left] (fun r=>r=int (xG x left)):=by
 refine aC.of func74 rfl ntmps74 (by simp) fun Q hQ=>?_
 refine zE fun _ V=>?_
 simp [aQ.cells];apply V;refine zE fun _ V=>?_
 simp[show -9223372036854775808<=left - (x.name.length:Int) by omega,show left - (x.name.length:Int)<=9223372036854775807 by omega];apply V;refine zS fun _ V=>?_
 simp;apply V;refine J.ite rfl (fun hc1=>?_) (fun hc1=>?_)
 ·simp only[decide_eq_true_eq] at hc1;refine zE fun _ V=>?_
  simp;apply V;refine J.ret func74 (aR.one results74) (hQ _ _ _ _ (.v _ _ _) ?_);rw[xG,cW,if_pos hc1]
 ·simp only[decide_eq_false_iff_not] at hc1;apply J.skip;refine zE fun _ V=>?_
  simp;apply V;refine J.ret func74 (aR.one results74) (hQ _ _ _ _ (.v _ _ _) ?_);rw[xG,cW,if_neg hc1]
theorem e29:a8 prog 29:=a8.of func29 (by kernel_rfl) rfl
theorem th (x:List Int) (left:Int) (h0:0<=left) (h1:left<=1048576) (hn:x.length<=9223372036854775807):aC prog 29 [encI false x,int left] (fun r=>r=int (lR x left)):=by
 refine aC.of func29 rfl ntmps29 (by simp) fun Q hQ=>?_
 refine zE fun _ V=>?_
 simp [encI];apply V;refine zE fun _ V=>?_
 simp[show -9223372036854775808<=left - (x.length:Int) by omega,show left - (x.length:Int)<=9223372036854775807 by omega];apply V;refine zS fun _ V=>?_
 simp;apply V;refine J.ite rfl (fun hc1=>?_) (fun hc1=>?_)
 ·simp only[decide_eq_true_eq] at hc1;refine zE fun _ V=>?_
  simp;apply V;refine J.ret func29 (aR.one results29) (hQ _ _ _ _ (.v _ _ _) ?_);rw[lR,if_pos hc1]
 ·simp only[decide_eq_false_iff_not] at hc1;apply J.skip;refine zE fun _ V=>?_
  simp;apply V;refine J.ret func29 (aR.one results29) (hQ _ _ _ _ (.v _ _ _) ?_);rw[lR,if_neg hc1]
theorem e73:a8 prog 73:=a8.of func73 (by kernel_rfl) rfl
theorem Cd (x:az) (left:Int) (h0:0<=left) (h1:left<=1048576) (hn:x.links.length<=9223372036854775807):aC prog 73 [.agg (x.cells false),int left] (fun r=>r=int (mm x left)):=by
 refine aC.of func73 rfl ntmps73 (by simp) fun Q hQ=>?_
 refine zE fun _ V=>?_
 simp [az.cells];apply V;refine zE fun _ V=>?_
 simp;refine zA (th x.links left h0 h1 hn) e29 (.cons (aJ.encI false x.links) (.cons (.v _ _ _) .nil)) (by simp[encI]) ?_;rintro _ rfl;simp;apply V;refine zS fun _ V=>?_
 simp;apply V;refine J.ite rfl (fun hc1=>?_) (fun hc1=>?_)
 ·simp only[decide_eq_true_eq] at hc1;refine zE fun _ V=>?_
  simp;apply V;refine J.ret func73 (aR.one results73) (hQ _ _ _ _ (.v _ _ _) ?_);simp only[Env.put];have:lR x.links left = -1:=by
   unfold lR at hc1 ⊢
   split<;>rename_i h
   ·rfl
   ·rw[if_neg h] at hc1;omega
  simp[mm,this]
 ·simp only[decide_eq_false_iff_not] at hc1;apply J.skip;refine zE fun _ V=>?_
  simp;apply V;refine J.ret func73 (aR.one results73) (hQ _ _ _ _ (.v _ _ _) ?_)
  rfl
theorem e7:a8 prog 7:=a8.of func7 (by kernel_rfl) rfl
theorem sf (p:List (Control)) (left:Int) (h0:0<=left) (h1:left<=1048576) (hp1:p.length<=9223372036854775807) (hp2:∀ x ∈ p,x.name.length<=9223372036854775807):aC prog 7 [.list false (p.map Control.cells),int left] (fun r=>r=int (ef pJ p left)):=by
 refine aC.of func7 rfl ntmps7 (by simp) fun Q hQ=>?_
 refine zE fun _ V=>?_
 simp;apply V;refine zE fun _ V=>?_
 simp [show -9223372036854775808 <= left - p.length by omega, show left - p.length <= 9223372036854775807 by omega];apply V;refine zS fun _ V=>?_
 simp;apply V;refine J.ite rfl (fun hc1=>?_) (fun hc1=>?_)
 ·simp only[decide_eq_true_eq] at hc1;refine zE fun _ V=>?_
  simp;apply V;refine J.ret func7 (aR.one results7) (hQ _ _ _ _ (.v _ _ _) ?_);rw[ef,if_pos hc1]
 ·simp only[decide_eq_false_iff_not] at hc1;apply J.skip;refine zS fun _ V=>?_
  simp;apply V;refine J.block (J.bO p.length (fun k O H n=>O 0 = .list false (p.map Control.cells)/\O 5=int k/\∃ cur:Int,O 1=int cur/\0<=cur/\cur<=left/\oF pJ (p.drop k) cur=ef pJ p left) ?_ ?_)
  ·refine⟨by simp,by simp,left - p.length,by simp,by omega,by omega,?_⟩;rw[ef,if_neg hc1,List.drop_zero]
  ·rintro k O H n hk ⟨h0,h5,cur,h1',hcur,hcl,hsz⟩ IH;refine zS fun _ V=>?_
   simp [h0, h5];apply V;refine J.ite rfl (fun hc2=>?_) (fun hc2=>?_)
   ·simp at hc2;have hel:=hp2 _ (List.getElem_mem hc2);apply zK;apply J.block;refine zE fun _ V=>?_
    simp [h0, h5, h1', hc2, Control.cells];refine zA (uJ p[k] cur hcur (by omega) hel) e27 (.cons (aJ.FJ _) (.cons (.v _ _ _) .nil)) (by simp[Control.cells,h1']) ?_;rintro _ rfl;simp;apply V;rw[List.drop_eq_getElem_cons hc2,oF] at hsz;refine zE fun _ V=>?_
    simp;apply V;refine J.ite rfl (fun hc3=>?_) (fun hc3=>?_)
    ·simp only[decide_eq_true_eq] at hc3;refine zE fun _ V=>?_
     simp;apply V;refine J.ret func7 (aR.one results7) (hQ _ _ _ _ (.v _ _ _) ?_);rw[<- hsz];rw[if_pos hc3]
    ·simp only[decide_eq_false_iff_not] at hc3;apply J.skip;refine zI fun _ V=>?_
     simp [h5, bm (show k < 4611686018427387904 by omega)];apply V;refine IH hc2 _ _ _ ?_;have hle:=sC pJ p[k] cur hcur;rw[if_neg hc3] at hsz;exact⟨by simp[h0,Control.cells],by simp,pJ p[k] cur,by simp,by omega,by omega,hsz⟩
   ·simp at hc2;have hke:k=p.length:=by omega
    subst hke;rw[List.drop_length,oF] at hsz;refine J.exit rfl ?_;refine zE fun _ V=>?_
    simp [h1'];apply V;exact J.ret func7 (aR.one results7) (hQ _ _ _ _ (.v _ _ _) (by rw[hsz]))
theorem e31:a8 prog 31:=a8.of func31 (by kernel_rfl) rfl
theorem zx (p:List (aQ)) (left:Int) (h0:0<=left) (h1:left<=1048576) (hp1:p.length<=9223372036854775807) (hp2:∀ x ∈ p,x.name.length<=9223372036854775807):aC prog 31 [.list false (p.map aQ.cells),int left] (fun r=>r=int (ef xG p left)):=by
 refine aC.of func31 rfl ntmps31 (by simp) fun Q hQ=>?_
 refine zE fun _ V=>?_
 simp;apply V;refine zE fun _ V=>?_
 simp [show -9223372036854775808 <= left - p.length by omega, show left - p.length <= 9223372036854775807 by omega];apply V;refine zS fun _ V=>?_
 simp;apply V;refine J.ite rfl (fun hc1=>?_) (fun hc1=>?_)
 ·simp only[decide_eq_true_eq] at hc1;refine zE fun _ V=>?_
  simp;apply V;refine J.ret func31 (aR.one results31) (hQ _ _ _ _ (.v _ _ _) ?_);rw[ef,if_pos hc1]
 ·simp only[decide_eq_false_iff_not] at hc1;apply J.skip;refine zS fun _ V=>?_
  simp;apply V;refine J.block (J.bO p.length (fun k O H n=>O 0 = .list false (p.map aQ.cells)/\O 5=int k/\∃ cur:Int,O 1=int cur/\0<=cur/\cur<=left/\oF xG (p.drop k) cur=ef xG p left) ?_ ?_)
  ·refine⟨by simp,by simp,left - p.length,by simp,by omega,by omega,?_⟩;rw[ef,if_neg hc1,List.drop_zero]
  ·rintro k O H n hk ⟨h0,h5,cur,h1',hcur,hcl,hsz⟩ IH;refine zS fun _ V=>?_
   simp [h0, h5];apply V;refine J.ite rfl (fun hc2=>?_) (fun hc2=>?_)
   ·simp at hc2;have hel:=hp2 _ (List.getElem_mem hc2);apply zK;apply J.block;refine zE fun _ V=>?_
    simp [h0, h5, h1', hc2, aQ.cells];refine zA (Bl p[k] cur hcur (by omega) hel) e74 (.cons (aJ.Aj _) (.cons (.v _ _ _) .nil)) (by simp[aQ.cells,h1']) ?_;rintro _ rfl;simp;apply V;rw[List.drop_eq_getElem_cons hc2,oF] at hsz;refine zE fun _ V=>?_
    simp;apply V;refine J.ite rfl (fun hc3=>?_) (fun hc3=>?_)
    ·simp only[decide_eq_true_eq] at hc3;refine zE fun _ V=>?_
     simp;apply V;refine J.ret func31 (aR.one results31) (hQ _ _ _ _ (.v _ _ _) ?_);rw[<- hsz];rw[if_pos hc3]
    ·simp only[decide_eq_false_iff_not] at hc3;apply J.skip;refine zI fun _ V=>?_
     simp [h5, bm (show k < 4611686018427387904 by omega)];apply V;refine IH hc2 _ _ _ ?_;have hle:=sC xG p[k] cur hcur;rw[if_neg hc3] at hsz;exact⟨by simp[h0,aQ.cells],by simp,xG p[k] cur,by simp,by omega,by omega,hsz⟩
   ·simp at hc2;have hke:k=p.length:=by omega
    subst hke;rw[List.drop_length,oF] at hsz;refine J.exit rfl ?_;refine zE fun _ V=>?_
    simp [h1'];apply V;exact J.ret func31 (aR.one results31) (hQ _ _ _ _ (.v _ _ _) (by rw[hsz]))
theorem e28:a8 prog 28:=a8.of func28 (by kernel_rfl) rfl
theorem zm (p:List (az)) (left:Int) (h0:0<=left) (h1:left<=1048576) (hp1:p.length<=9223372036854775807) (hp2:∀ x ∈ p,x.links.length<=9223372036854775807):aC prog 28 [.list false (p.map (az.cells false)),int left] (fun r=>r=int (ef mm p left)):=by
 refine aC.of func28 rfl ntmps28 (by simp) fun Q hQ=>?_
 refine zE fun _ V=>?_
 simp;apply V;refine zE fun _ V=>?_
 simp [show -9223372036854775808 <= left - p.length by omega, show left - p.length <= 9223372036854775807 by omega];apply V;refine zS fun _ V=>?_
 simp;apply V;refine J.ite rfl (fun hc1=>?_) (fun hc1=>?_)
 ·simp only[decide_eq_true_eq] at hc1;refine zE fun _ V=>?_
  simp;apply V;refine J.ret func28 (aR.one results28) (hQ _ _ _ _ (.v _ _ _) ?_);rw[ef,if_pos hc1]
 ·simp only[decide_eq_false_iff_not] at hc1;apply J.skip;refine zS fun _ V=>?_
  simp;apply V;refine J.block (J.bO p.length (fun k O H n=>O 0 = .list false (p.map (az.cells false))/\O 5=int k/\∃ cur:Int,O 1=int cur/\0<=cur/\cur<=left/\oF mm (p.drop k) cur=ef mm p left) ?_ ?_)
  ·refine⟨by simp,by simp,left - p.length,by simp,by omega,by omega,?_⟩;rw[ef,if_neg hc1,List.drop_zero]
  ·rintro k O H n hk ⟨h0,h5,cur,h1',hcur,hcl,hsz⟩ IH;refine zS fun _ V=>?_
   simp [h0, h5];apply V;refine J.ite rfl (fun hc2=>?_) (fun hc2=>?_)
   ·simp at hc2;have hel:=hp2 _ (List.getElem_mem hc2);apply zK;apply J.block;refine zE fun _ V=>?_
    simp [h0, h5, h1', hc2, az.cells];refine zA (Cd p[k] cur hcur (by omega) hel) e73 (.cons (aJ.AD false _) (.cons (.v _ _ _) .nil)) (by simp[az.cells,h1']) ?_;rintro _ rfl;simp;apply V;rw[List.drop_eq_getElem_cons hc2,oF] at hsz;refine zE fun _ V=>?_
    simp;apply V;refine J.ite rfl (fun hc3=>?_) (fun hc3=>?_)
    ·simp only[decide_eq_true_eq] at hc3;refine zE fun _ V=>?_
     simp;apply V;refine J.ret func28 (aR.one results28) (hQ _ _ _ _ (.v _ _ _) ?_);rw[<- hsz];rw[if_pos hc3]
    ·simp only[decide_eq_false_iff_not] at hc3;apply J.skip;refine zI fun _ V=>?_
     simp [h5, bm (show k < 4611686018427387904 by omega)];apply V;refine IH hc2 _ _ _ ?_;have hle:=sC mm p[k] cur hcur;rw[if_neg hc3] at hsz;exact⟨by simp[h0,az.cells],by simp,mm p[k] cur,by simp,by omega,by omega,hsz⟩
   ·simp at hc2;have hke:k=p.length:=by omega
    subst hke;rw[List.drop_length,oF] at hsz;refine J.exit rfl ?_;refine zE fun _ V=>?_
    simp [h1'];apply V;exact J.ret func28 (aR.one results28) (hQ _ _ _ _ (.v _ _ _) (by rw[hsz]))
theorem e30:a8 prog 30:=a8.of func30 (by kernel_rfl) rfl
theorem uR (p:List (cP)) (left:Int) (h0:0<=left) (h1:left<=1048576) (hp1:p.length<=9223372036854775807) (hp2:∀ x ∈ p,x.length<=9223372036854775807):aC prog 30 [.list false (p.map bg),int left] (fun r=>r=int (ef cW p left)):=by
 refine aC.of func30 rfl ntmps30 (by simp) fun Q hQ=>?_
 refine zE fun _ V=>?_
 simp;apply V;refine zE fun _ V=>?_
 simp [show -9223372036854775808 <= left - p.length by omega, show left - p.length <= 9223372036854775807 by omega];apply V;refine zS fun _ V=>?_
 simp;apply V;refine J.ite rfl (fun hc1=>?_) (fun hc1=>?_)
 ·simp only[decide_eq_true_eq] at hc1;refine zE fun _ V=>?_
  simp;apply V;refine J.ret func30 (aR.one results30) (hQ _ _ _ _ (.v _ _ _) ?_);rw[ef,if_pos hc1]
 ·simp only[decide_eq_false_iff_not] at hc1;apply J.skip;refine zS fun _ V=>?_
  simp;apply V;refine J.block (J.bO p.length (fun k O H n=>O 0 = .list false (p.map bg)/\O 5=int k/\∃ cur:Int,O 1=int cur/\0<=cur/\cur<=left/\oF cW (p.drop k) cur=ef cW p left) ?_ ?_)
  ·refine⟨by simp,by simp,left - p.length,by simp,by omega,by omega,?_⟩;rw[ef,if_neg hc1,List.drop_zero]
  ·rintro k O H n hk ⟨h0,h5,cur,h1',hcur,hcl,hsz⟩ IH;refine zS fun _ V=>?_
   simp [h0, h5];apply V;refine J.ite rfl (fun hc2=>?_) (fun hc2=>?_)
   ·simp at hc2;have hel:=hp2 _ (List.getElem_mem hc2);apply zK;apply J.block;refine zE fun _ V=>?_
    simp [h0, h5, h1', hc2, bg, show -9223372036854775808 <= cur - (p[k].length : Int) by omega, show cur - (p[k].length : Int) <= 9223372036854775807 by omega];apply V;rw[List.drop_eq_getElem_cons hc2,oF] at hsz;refine zE fun _ V=>?_
    simp;apply V;refine J.ite rfl (fun hc3=>?_) (fun hc3=>?_)
    ·simp only[decide_eq_true_eq] at hc3;refine zE fun _ V=>?_
     simp;apply V;refine J.ret func30 (aR.one results30) (hQ _ _ _ _ (.v _ _ _) ?_);rw[<- hsz];rw[if_pos (by unfold cW;rw[if_pos hc3];omega)]
    ·simp only[decide_eq_false_iff_not] at hc3;apply J.skip;refine zI fun _ V=>?_
     simp [h5, bm (show k < 4611686018427387904 by omega)];apply V;refine IH hc2 _ _ _ ?_;have hse:cW p[k] cur=cur - p[k].length:=by unfold cW;rw[if_neg hc3]
     rw[if_neg (by rw[hse];exact hc3),hse] at hsz;exact⟨by simp[h0,bg],by simp,cur - p[k].length,by simp,by omega,by omega,hsz⟩
   ·simp at hc2;have hke:k=p.length:=by omega
    subst hke;rw[List.drop_length,oF] at hsz;refine J.exit rfl ?_;refine zE fun _ V=>?_
    simp [h1'];apply V;exact J.ret func30 (aR.one results30) (hQ _ _ _ _ (.v _ _ _) (by rw[hsz]))
end Go.Ab
namespace Go.Ab
open Go.Proofs
theorem e8:a8 prog 8:=a8.of func8 (by kernel_rfl) rfl
def lL (b:I) (left:Int):Int:=
 if ef mm b.nodes left<0 then -1 else if lR b.sites (ef mm b.nodes left)<0 then -1 else
 if ef cW b.outer (lR b.sites (ef mm b.nodes left))<0 then -1 else
 if ef xG b.inner (ef cW b.outer (lR b.sites (ef mm b.nodes left)))<0 then -1 else ef xG b.inner (ef cW b.outer (lR b.sites (ef mm b.nodes left)))
structure iW (b:I):Prop where
 nodes:b.nodes.length<=9223372036854775807
 links:∀ x ∈ b.nodes,x.links.length<=9223372036854775807
 sites:b.sites.length<=9223372036854775807
 outer:b.outer.length<=9223372036854775807
 names:∀ x ∈ b.outer,x.length<=9223372036854775807
 inner:b.inner.length<=9223372036854775807
 wnames:∀ x ∈ b.inner,x.name.length<=9223372036854775807
 parents:∀ x ∈ b.nodes,bB x.parent
 sites64:∀ p ∈ b.sites,bB p
theorem DX {α:Type} (f:α->Int->Int) [SzF f]:∀ (l:List α) (left:Int),0<=left->oF f l left<=left
 | [],_,_=>Int.le_refl _
 | x::r,left,h=>by
  rw[oF];have:=sC f x left h
  split
  ·omega
  ·have:=DX f r (f x left) (by omega);omega
theorem gb {α:Type} (f:α->Int->Int) [SzF f] (l:List α) (left:Int) (h:0<=left):ef f l left<=left:=by
 unfold ef
 split
 ·omega
 ·have:=DX f l (left - l.length) (by omega);omega
theorem AG {α:Type} (f:α->Int->Int) [SzF f]:∀ (l:List α) (left:Int),0<=left->0<=oF f l left->∀ x ∈ l,∃ c,0<=c/\c<=left/\0<=f x c
 | [],_,_,_,x,hx=>by cases hx
 | y::r,left,h,h2,x,hx=>by
  rw[oF] at h2;have hle:=sC f y left h
  split at h2
  ·omega
  ·rcases List.mem_cons.1 hx with rfl | hx
   ·exact⟨left,h,Int.le_refl _,by omega⟩
   ·obtain⟨c,h3,h4,h5⟩:=AG f r (f y left) (by omega) h2 x hx;exact⟨c,h3,by omega,h5⟩
theorem nh {α:Type} (f:α->Int->Int) [SzF f] (l:List α) (left:Int) (h:0<=left) (h2:0<=ef f l left):(l.length:Int)<=left/\∀ x ∈ l,∃ c,0<=c/\c<=left/\0<=f x c:=by
 unfold ef at h2
 split at h2
 ·omega
 ·refine⟨by omega,fun x hx=>?_⟩;obtain⟨c,h3,h4,h5⟩:=AG f l _ (by omega) h2 x hx;exact⟨c,h3,by omega,h5⟩
theorem oJ {s:cP} {c:Int} (h:0<=cW s c):(s.length:Int)<=c:=by
 unfold cW at h
 split at h<;>omega
theorem AR {s:List Int} {c:Int} (h:0<=lR s c):(s.length:Int)<=c:=by
 unfold lR at h
 split at h<;>omega
theorem nD (b:I) (left:Int) (h0:0<=left) (h1:left<=1048576) (hb:iW b):aC prog 8 [cI false b,int left] (fun r=>r=int (lL b left)):=by
 have le1:=gb mm b.nodes left h0;refine aC.of func8 rfl ntmps8 (by simp) fun Q hQ=>?_
 refine zE fun _ V=>?_
 simp [cI, I.cells, aB, encI, encS, aD];apply V;refine zE fun _ V=>?_
 simp;refine zA (zm b.nodes left h0 h1 hb.nodes hb.links) e28 (.cons (aJ.aB false b.nodes) (.cons (.v _ _ _) .nil)) (by simp[aB,encI,encS,aD]) ?_;rintro _ rfl;simp;apply V;refine zS fun _ V=>?_
 simp;apply V;refine J.ite rfl (fun hc=>?_) (fun hd0=>?_)
 ·simp only[decide_eq_true_eq] at hc;refine zE fun _ V=>?_
  simp;apply V;exact J.ret func8 (aR.one results8) (hQ _ _ _ _ (.v _ _ _) (by rw[lL,if_pos hc]))
 simp only[decide_eq_false_iff_not] at hd0;have le2:=sC lR b.sites (ef mm b.nodes left) (by omega);apply J.skip;refine zE fun _ V=>?_
 simp;refine zA (th b.sites (ef mm b.nodes left) (by omega) (by omega) hb.sites) e29 (.cons (aJ.encI false b.sites) (.cons (.v _ _ _) .nil)) (by simp[aB,encI,encS,aD]) ?_;rintro _ rfl;simp;apply V;refine zS fun _ V=>?_
 simp;apply V;refine J.ite rfl (fun hc=>?_) (fun hd1=>?_)
 ·simp only[decide_eq_true_eq] at hc;refine zE fun _ V=>?_
  simp;apply V;exact J.ret func8 (aR.one results8) (hQ _ _ _ _ (.v _ _ _) (by rw[lL,if_neg hd0,if_pos hc]))
 simp only[decide_eq_false_iff_not] at hd1;have le3:=gb cW b.outer (lR b.sites (ef mm b.nodes left)) (by omega);apply J.skip;refine zE fun _ V=>?_
 simp;refine zA (uR b.outer (lR b.sites (ef mm b.nodes left)) (by omega) (by omega) hb.outer hb.names) e30 (.cons (aJ.encS false b.outer) (.cons (.v _ _ _) .nil)) (by simp[aB,encI,encS,aD]) ?_;rintro _ rfl;simp;apply V;refine zS fun _ V=>?_
 simp;apply V;refine J.ite rfl (fun hc=>?_) (fun hd2=>?_)
 ·simp only[decide_eq_true_eq] at hc;refine zE fun _ V=>?_
  simp;apply V;exact J.ret func8 (aR.one results8) (hQ _ _ _ _ (.v _ _ _) (by rw[lL,if_neg hd0,if_neg hd1,if_pos hc]))
 simp only[decide_eq_false_iff_not] at hd2;apply J.skip;refine zE fun _ V=>?_
 simp;refine zA (zx b.inner (ef cW b.outer (lR b.sites (ef mm b.nodes left))) (by omega) (by omega) hb.inner hb.wnames) e31 (.cons (aJ.aD false b.inner) (.cons (.v _ _ _) .nil)) (by simp[aB,encI,encS,aD]) ?_;rintro _ rfl;simp;apply V;refine zS fun _ V=>?_
 simp;apply V;refine J.ite rfl (fun hc=>?_) (fun hd3=>?_)
 ·simp only[decide_eq_true_eq] at hc;refine zE fun _ V=>?_
  simp;apply V;exact J.ret func8 (aR.one results8) (hQ _ _ _ _ (.v _ _ _) (by rw[lL,if_neg hd0,if_neg hd1,if_neg hd2,if_pos hc]))
 simp only[decide_eq_false_iff_not] at hd3;apply J.skip;refine zE fun _ V=>?_
 simp;apply V;exact J.ret func8 (aR.one results8) (hQ _ _ _ _ (.v _ _ _) (by rw[lL,if_neg hd0,if_neg hd1,if_neg hd2,if_neg hd3]))
theorem Fo {sig:cZ} {b:I} {left:Int} (h0:0<=left) (h1:left<=1048576) (hs:0<=ef pJ sig left) (hb:0<=lL b (ef pJ sig left)) (E:iW b):dI sig b:=by
 have hle:=gb pJ sig left h0;obtain⟨a1,a2⟩:=nh pJ sig left h0 hs;generalize ef pJ sig left=l0 at *;unfold lL at hb
 split at hb
 ·omega
 split at hb
 ·omega
 split at hb
 ·omega
 split at hb
 ·omega
 rename_i U n2 n3 n4
 have le1:=gb mm b.nodes l0 hs;obtain⟨b1,b2⟩:=nh mm b.nodes l0 hs (by omega);generalize ef mm b.nodes l0=l1 at *;have le2:=sC lR b.sites l1 (by omega);have c1:=AR (s:=b.sites) (c:=l1) (by omega);generalize lR b.sites l1=l2 at *;have le3:=gb cW b.outer l2 (by omega);obtain⟨d1,d2⟩:=nh cW b.outer l2 (by omega) (by omega);generalize ef cW b.outer l2=l3 at *;obtain⟨f1,f2⟩:=nh xG b.inner l3 (by omega) (by omega);refine⟨by omega,fun c hc=>?_,by omega,by omega,by omega,by omega,fun s hs=>?_,fun w hw=>?_,fun x hx=>?_,E.parents,E.sites64⟩
 ·obtain⟨q,_,q2,q3⟩:=a2 c hc;have:=oJ q3;omega
 ·obtain⟨q,_,q2,q3⟩:=d2 s hs;have:=oJ q3;omega
 ·obtain⟨q,_,q2,q3⟩:=f2 w hw;have:=oJ q3;omega
 ·obtain⟨q,_,q2,q3⟩:=b2 x hx;have:=AR q3;omega
end Go.Ab
namespace Go.Ab
open Go.Proofs
structure AK (sig:cZ):Prop where
 len:sig.length<=9223372036854775807
 names:∀ c ∈ sig,c.name.length<=9223372036854775807
end Go.Ab
