/- Merged texts (7 of 18) of the proof that ends in Mhy: Ge Gf Gg Gh Gi Gj Gk Gl Gx L2k Ma Sc Re Mb. -/
import Derived.Test.YtehcknfedbjaaaaGreatDoorAbQmh6
import Derived.Laws.CopyRow
import Derived.Laws.IdiomCopy
set_option linter.unusedSimpArgs false
set_option linter.unusedVariables false
open Go.Proofs.Tryz
namespace Go.Ab
open Go.Proofs
def vU {α:Type} (l:List α) (p:α->Bool):Int:=if l.findIdx p<l.length then (l.findIdx p:Int) else -1
theorem tk {α:Type} {l:List α} {p:α->Bool} {k:Nat} (hk:k<l.length) (h:p l[k]=true) (hno:∀ i (h:i<l.length),i<k->p l[i]=false):vU l p=k:=by
 have:l.findIdx p=k:=(List.findIdx_eq hk).2 ⟨h,fun j hj=>hno j (by omega) hj⟩;rw[vU,this,if_pos hk]
theorem sZ {α:Type} {l:List α} {p:α->Bool} (hno:∀ i (h:i<l.length),p l[i]=false):vU l p = -1:=by
 have:l.findIdx p=l.length:=List.findIdx_eq_length.2 fun x hx=>by
  obtain⟨i,hi,rfl⟩:=List.getElem_of_mem hx;exact hno i hi
 rw[vU,this,if_neg (Nat.lt_irrefl _)]
theorem qp {α:Type} (l:List α) (p:α->Bool):decide (0<=vU l p)=l.any p:=by
 unfold vU;cases h:l.any p
 ·have:l.findIdx p=l.length:=List.findIdx_eq_length.2 fun x hx=>by
   rw[List.any_eq_false] at h;simpa using h x hx
  rw[if_neg (by omega)];simp
 ·have:l.findIdx p<l.length:=by
   rw[List.findIdx_lt_length];simpa[List.any_eq_true] using h
  rw[if_pos this];simp
theorem e192:a8 prog 192:=a8.of func192 (by kernel_rfl) rfl
theorem GN:a8 prog 146:=a8.of func146 (by kernel_rfl) rfl
theorem vC {H:ax} {n:Nat} {cl:au} (t:Bool) (l:List (Int)) (p:Int->Bool) (hl:l.length<=1048576) (hcl:∀ x ∈ l,gI prog H n cl [int x] (fun r=>r=bool (p x))) :
  dw prog 192 [.list t (l.map aA),cl] H n (fun r=>r=int (vU l p)):=by
 refine dw.of func192 rfl ntmps192 (by simp) fun Q _ hQ=>?_
 refine zE fun _ V=>?_
 simp;apply V;refine zS fun _ V=>?_
 simp;apply V;refine J.block (J.cz l.length (fun k O H' n'=>O 0 = .list t (l.map aA)/\O 1=cl/\O 7=int l.length/\O 8=int k/\H'=H/\n'=n/\∀ i (h:i<l.length),i<k->p l[i]=false) ?_ ?_)
 ·simp
 ·rintro k O H' n' hk ⟨h0,h1,h7,h8,rfl,rfl,hno⟩ IH;refine zE fun _ V=>?_
  simp [h7, h8];apply V;apply J.seq;refine J.ite rfl (fun hc1 => ?_) (fun hc1 => ?_)
  ·have hc1:k<l.length:=by simpa using hc1
   apply zK;apply J.block;refine zE fun _ V=>?_
   simp [h8];apply V;refine zE fun _ V=>?_
   simp [h0, h1, hc1, aA];refine bX.Gx aB (hcl l[k] (List.getElem_mem hc1)) (by decide) (by decide) (by simp[h1]) (by simp) ?_;rintro _ rfl;simp;apply V;refine J.ite rfl (fun hc2 => ?_) (fun hc2 => ?_)
   ·have hc2:p l[k]=true:=by simpa using hc2
    refine zE fun _ V=>?_
    simp;apply V;refine J.ret func192 (aU.one results192) (hQ _ _ _ _ (.mY (.v _)) (Frame.refl _ _) ?_);simp[tk hc1 hc2 hno]
   ·have hc2:p l[k]=false:=by simpa using hc2
    apply J.skip;refine zI fun _ V=>?_
    simp [h8, bz (show k < 4611686018427387904 by omega)];apply V;refine IH hc1 _ _ _ ⟨by simp[h0,aA],by simp[h1],by simp[h7],by simp,rfl,rfl,fun i h hi=>?_⟩;rcases Nat.lt_or_ge i k with hik | hik
    ·exact hno i h hik
    ·have:i=k:=by omega
     subst this;exact hc2
  ·have hc1:¬ k<l.length:=by simpa using hc1
   have hke:k=l.length:=by omega
   subst hke;refine J.exit rfl ?_;refine zE fun _ V=>?_
   simp;apply V;refine J.ret func192 (aU.one results192) (hQ _ _ _ _ (.mY (.v _)) (Frame.refl _ _) ?_);simp[sZ fun i h=>hno i h h]
theorem ec {H:ax} {n:Nat} {cl:au} (t:Bool) (l:List (Int)) (p:Int->Bool) (hl:l.length<=1048576) (hcl:∀ x ∈ l,gI prog H n cl [int x] (fun r=>r=bool (p x))) :
  dw prog 146 [.list t (l.map aA),cl] H n (fun r=>r=bool (l.any p)):=by
 refine dw.of func146 rfl ntmps146 (by simp) fun Q _ hQ=>?_
 refine zE fun _ V=>?_
 simp;apply V;refine zE fun _ V=>?_
 simp;refine bX.nG aB (vC t l p hl hcl) e192 (by decide) (by decide) rfl (by simp) ?_;rintro _ rfl;simp;apply V;refine J.ret func146 (aU.one results146) (hQ _ _ _ _ (.mY (.v _)) (Frame.refl _ _) ?_);simp[qp]
theorem e213:a8 prog 213:=a8.of func213 (by kernel_rfl) rfl
theorem e171:a8 prog 171:=a8.of func171 (by kernel_rfl) rfl
theorem vG {H:ax} {n:Nat} {cl:au} (t:Bool) (l:List (aD)) (p:aD->Bool) (hl:l.length<=1048576) (hcl:∀ x ∈ l,gI prog H n cl [.agg x.cells] (fun r=>r=bool (p x))) :
  dw prog 213 [.list t (l.map aD.cells),cl] H n (fun r=>r=int (vU l p)):=by
 refine dw.of func213 rfl ntmps213 (by simp) fun Q _ hQ=>?_
 refine zE fun _ V=>?_
 simp;apply V;refine zS fun _ V=>?_
 simp;apply V;refine J.block (J.cz l.length (fun k O H' n'=>O 0 = .list t (l.map aD.cells)/\O 1=cl/\O 7=int l.length/\O 8=int k/\H'=H/\n'=n/\∀ i (h:i<l.length),i<k->p l[i]=false) ?_ ?_)
 ·simp
 ·rintro k O H' n' hk ⟨h0,h1,h7,h8,rfl,rfl,hno⟩ IH;refine zE fun _ V=>?_
  simp [h7, h8];apply V;apply J.seq;refine J.ite rfl (fun hc1 => ?_) (fun hc1 => ?_)
  ·have hc1:k<l.length:=by simpa using hc1
   apply zK;apply J.block;refine zE fun _ V=>?_
   simp [h8];apply V;refine zE fun _ V=>?_
   simp [h0, h1, hc1, aD.cells];refine bX.Gx aB (hcl l[k] (List.getElem_mem hc1)) (by decide) (by decide) (by simp[h1]) (by simp[aD.cells]) ?_;rintro _ rfl;simp;apply V;refine J.ite rfl (fun hc2 => ?_) (fun hc2 => ?_)
   ·have hc2:p l[k]=true:=by simpa using hc2
    refine zE fun _ V=>?_
    simp;apply V;refine J.ret func213 (aU.one results213) (hQ _ _ _ _ (.mY (.v _)) (Frame.refl _ _) ?_);simp[tk hc1 hc2 hno]
   ·have hc2:p l[k]=false:=by simpa using hc2
    apply J.skip;refine zI fun _ V=>?_
    simp [h8, bz (show k < 4611686018427387904 by omega)];apply V;refine IH hc1 _ _ _ ⟨by simp[h0,aD.cells],by simp[h1],by simp[h7],by simp,rfl,rfl,fun i h hi=>?_⟩;rcases Nat.lt_or_ge i k with hik | hik
    ·exact hno i h hik
    ·have:i=k:=by omega
     subst this;exact hc2
  ·have hc1:¬ k<l.length:=by simpa using hc1
   have hke:k=l.length:=by omega
   subst hke;refine J.exit rfl ?_;refine zE fun _ V=>?_
   simp;apply V;refine J.ret func213 (aU.one results213) (hQ _ _ _ _ (.mY (.v _)) (Frame.refl _ _) ?_);simp[sZ fun i h=>hno i h h]
theorem rI {H:ax} {n:Nat} {cl:au} (t:Bool) (l:List (aD)) (p:aD->Bool) (hl:l.length<=1048576) (hcl:∀ x ∈ l,gI prog H n cl [.agg x.cells] (fun r=>r=bool (p x))) :
  dw prog 171 [.list t (l.map aD.cells),cl] H n (fun r=>r=bool (l.any p)):=by
 refine dw.of func171 rfl ntmps171 (by simp) fun Q _ hQ=>?_
 refine zE fun _ V=>?_
 simp;apply V;refine zE fun _ V=>?_
 simp;refine bX.nG aB (vG t l p hl hcl) e213 (by decide) (by decide) rfl (by simp) ?_;rintro _ rfl;simp;apply V;refine J.ret func171 (aU.one results171) (hQ _ _ _ _ (.mY (.v _)) (Frame.refl _ _) ?_);simp[qp]
theorem e226:a8 prog 226:=a8.of func226 (by kernel_rfl) rfl
theorem e211:a8 prog 211:=a8.of func211 (by kernel_rfl) rfl
theorem vB {H:ax} {n:Nat} {cl:au} (t:Bool) (l:List (Control)) (p:Control->Bool) (hl:l.length<=1048576) (hcl:∀ x ∈ l,gI prog H n cl [.agg x.cells] (fun r=>r=bool (p x))) :
  dw prog 226 [.list t (l.map Control.cells),cl] H n (fun r=>r=int (vU l p)):=by
 refine dw.of func226 rfl ntmps226 (by simp) fun Q _ hQ=>?_
 refine zE fun _ V=>?_
 simp;apply V;refine zS fun _ V=>?_
 simp;apply V;refine J.block (J.cz l.length (fun k O H' n'=>O 0 = .list t (l.map Control.cells)/\O 1=cl/\O 7=int l.length/\O 8=int k/\H'=H/\n'=n/\∀ i (h:i<l.length),i<k->p l[i]=false) ?_ ?_)
 ·simp
 ·rintro k O H' n' hk ⟨h0,h1,h7,h8,rfl,rfl,hno⟩ IH;refine zE fun _ V=>?_
  simp [h7, h8];apply V;apply J.seq;refine J.ite rfl (fun hc1 => ?_) (fun hc1 => ?_)
  ·have hc1:k<l.length:=by simpa using hc1
   apply zK;apply J.block;refine zE fun _ V=>?_
   simp [h8];apply V;refine zE fun _ V=>?_
   simp [h0, h1, hc1, Control.cells];refine bX.Gx aB (hcl l[k] (List.getElem_mem hc1)) (by decide) (by decide) (by simp[h1]) (by simp[Control.cells]) ?_;rintro _ rfl;simp;apply V;refine J.ite rfl (fun hc2 => ?_) (fun hc2 => ?_)
   ·have hc2:p l[k]=true:=by simpa using hc2
    refine zE fun _ V=>?_
    simp;apply V;refine J.ret func226 (aU.one results226) (hQ _ _ _ _ (.mY (.v _)) (Frame.refl _ _) ?_);simp[tk hc1 hc2 hno]
   ·have hc2:p l[k]=false:=by simpa using hc2
    apply J.skip;refine zI fun _ V=>?_
    simp [h8, bz (show k < 4611686018427387904 by omega)];apply V;refine IH hc1 _ _ _ ⟨by simp[h0,Control.cells],by simp[h1],by simp[h7],by simp,rfl,rfl,fun i h hi=>?_⟩;rcases Nat.lt_or_ge i k with hik | hik
    ·exact hno i h hik
    ·have:i=k:=by omega
     subst this;exact hc2
  ·have hc1:¬ k<l.length:=by simpa using hc1
   have hke:k=l.length:=by omega
   subst hke;refine J.exit rfl ?_;refine zE fun _ V=>?_
   simp;apply V;refine J.ret func226 (aU.one results226) (hQ _ _ _ _ (.mY (.v _)) (Frame.refl _ _) ?_);simp[sZ fun i h=>hno i h h]
theorem rr {H:ax} {n:Nat} {cl:au} (t:Bool) (l:List (Control)) (p:Control->Bool) (hl:l.length<=1048576) (hcl:∀ x ∈ l,gI prog H n cl [.agg x.cells] (fun r=>r=bool (p x))) :
  dw prog 211 [.list t (l.map Control.cells),cl] H n (fun r=>r=bool (l.any p)):=by
 refine dw.of func211 rfl ntmps211 (by simp) fun Q _ hQ=>?_
 refine zE fun _ V=>?_
 simp;apply V;refine zE fun _ V=>?_
 simp;refine bX.nG aB (vB t l p hl hcl) e226 (by decide) (by decide) rfl (by simp) ?_;rintro _ rfl;simp;apply V;refine J.ret func211 (aU.one results211) (hQ _ _ _ _ (.mY (.v _)) (Frame.refl _ _) ?_);simp[qp]
end Go.Ab
namespace Go.Ab
open Go.Proofs
theorem e164:a8 prog 164:=a8.of func164 (by kernel_rfl) rfl
theorem e137:a8 prog 137:=a8.of func137 (by kernel_rfl) rfl
theorem e212:a8 prog 212:=a8.of func212 (by kernel_rfl) rfl
theorem Ik {H:ax} {n:Nat} {X:Id} (c:Control) (hX:H X=some ⟨3,[c.cells]⟩) (d:Control):gI prog H n (.fn (.func 212) [] [.ptr X 1 0 0]) [.agg d.cells] (fun r=>r=bool (d.name == c.name)):=by
 refine⟨212,[],[.ptr X 1 0 0],rfl,e212,?_⟩;refine dw.of func212 rfl ntmps212 (by simp) fun Q hB hQ=>?_
 have hXn:=(hB X _ hX).1;have hX2:¬ X=(n,2):=by rintro rfl;simp at hXn
 refine zE fun _ V=>?_
 simp [Control.cells];apply V;refine zE fun _ V=>?_
 simp [hX2, hX, Control.cells];apply V;exact J.ret func212 (aU.one results212) (hQ _ _ _ _ (.mY (.v _)) (Frame.set (by simp) (Frame.refl _ _)) (by simp))
def kH (sig:cP) (i:Nat):Bool:=dF (sig.getD i default) && newName sig i
theorem jP (sig:cP):hZ sig=(within sig.length 1 6 && (List.range sig.length).all (kH sig)):=rfl
theorem u0 (sig:cP) (hl:sig.length<=1048576) (hs:∀ c ∈ sig,c.name.length<=1048576):aF prog 164 [bK false sig] (fun r=>r=bool (hZ sig)):=by
 refine aF.of func164 rfl ntmps164 (by simp) fun Q hQ=>?_
 refine zE fun k' V=>?_
 simp [bK];apply V;refine zS fun k' V=>?_
 simp;refine zA (eE sig.length 1 6) vz (.cons (.v _ _ _) (.cons (.v _ _ _) (.cons (.v _ _ _) .nil))) (by simp) ?_;rintro _ rfl;simp;apply V;refine J.ite rfl (fun hc1 => ?_) (fun hc1 => ?_)
 ·have hw:within sig.length 1 6=false:=by simpa using hc1
  refine zE fun k' V=>?_
  simp;apply V;exact J.ret func164 (aU.one results164) (hQ _ _ _ _ (.v _ _ _) (by rw[jP,hw,Bool.false_and]))
 ·have hw:within sig.length 1 6=true:=by simpa using hc1
  apply J.skip;refine zS fun k' V=>?_
  simp;apply V;refine J.block (J.cz sig.length (fun k O H n=>O 0 = .list false (sig.map Control.cells)/\O 9 = .list false (sig.map Control.cells)/\O 10=int sig.length/\O 11=int k/\∀ i,i<k->kH sig i=true) ?_ ?_)
  ·simp
  ·rintro k O H n hk ⟨h0,h9,h10,h11,hall⟩ IH;refine zE fun k' V=>?_
   simp [h10, h11];apply V;apply J.seq;refine J.ite rfl (fun hc1 => ?_) (fun hc1 => ?_)
   ·have hc1:k<sig.length:=by simpa using hc1
    have hgk:sig.getD k default=sig[k]:=by simp[hc1]
    apply zK;apply J.block;refine zE fun k' V=>?_
    simp [h9, h11, hc1, Control.cells];apply V;refine J.cut (fun O H n=>O 0 = .list false (sig.map Control.cells)/\O 9 = .list false (sig.map Control.cells)/\O 10=int sig.length/\O 11=int k/\O 3=int k/\∃ m,O 4 = .ptr (m,4) 1 0 0/\H (m,4)=some ⟨3,[sig[k].cells]⟩) ?_ ?_
    ·exact⟨by simp[h0],by simp[h9],by simp[h10],by simp[h11],by simp,n,by simp,by simp[Control.cells]⟩
    clear V h0 h9 h10 h11;rintro O H n ⟨h0,h9,h10,h11,h3,m,h4,hm⟩;refine zE fun k' V=>?_
    have fin:∀ O:Env,O 0 = .list false (sig.map Control.cells)->O 9 = .list false (sig.map Control.cells)->O 10=int sig.length->O 11=int k->O 38=bool (!kH sig k)->J prog 164 40 k' O H n Q:=by
     intro O h0 h9 h10 h11 h38;apply V;refine J.ite h38 (fun hc2 => ?_) (fun hc2 => ?_)
     ·have hb:kH sig k=false:=by simpa using hc2
      refine zE fun k' V=>?_
      simp;apply V;exact J.ret func164 (aU.one results164) (hQ _ _ _ _ (.v _ _ _) (by rw[jP,eH hc1 hb,Bool.and_false]))
     ·have hb:kH sig k=true:=by simpa using hc2
      apply J.skip;refine zI fun k' V=>?_
      simp [h11, bz (show k < 4611686018427387904 by omega)];apply V;refine IH hc1 _ _ _ ⟨by simp[h0],by simp[h9],by simp[h10],by simp,fun i hi=>?_⟩;rcases Nat.lt_or_ge i k with h | h
      ·exact hall i h
      ·rw[show i=k by omega];exact hb
    have hm':=hm;simp only[Control.cells] at hm';simp [h4, hm'];refine zA (wx sig[k].name (Nat.le_trans (hs _ (List.getElem_mem hc1)) (by decide))) e210 (.cons (.v _ _ _) .nil) (by simp) ?_;rintro _ rfl;cases hnm:qs sig[k].name
    ·simp[guardOf];exact fin _ (by simp[h0]) (by simp[h9]) (by simp[h10]) (by simp[h11]) (by simp only[kH,hgk,dF,hnm];simp)
    ·simp[h4,hm',guardOf];refine zA (eE sig[k].ports 0 3) vz (.cons (.v _ _ _) (.cons (.v _ _ _) (.cons (.v _ _ _) .nil))) (by simp) ?_;rintro _ rfl;cases hpo:within sig[k].ports 0 3
     ·simp[guardOf];exact fin _ (by simp[h0]) (by simp[h9]) (by simp[h10]) (by simp[h11]) (by simp only[kH,hgk,dF,hnm,hpo];simp)
     ·simp[h4,hm',guardOf];refine zA (eE sig[k].kind 0 2) vz (.cons (.v _ _ _) (.cons (.v _ _ _) (.cons (.v _ _ _) .nil))) (by simp) ?_;rintro _ rfl;cases hki:within sig[k].kind 0 2
      ·simp[guardOf];exact fin _ (by simp[h0]) (by simp[h9]) (by simp[h10]) (by simp[h11]) (by simp only[kH,hgk,dF,hnm,hpo,hki];simp)
      ·have hkl:(k:Int)<=sig.length:=by omega
       simp[h0,h3,h4,hkl,guardOf,Control.cells];refine bX.nG aB (rr false (sig.take k) (fun d=>d.name == sig[k].name) (by simp;omega) (fun d _=>Ik sig[k] hm d)) e211 (by decide) (by decide) rfl (by simp[Control.cells]) ?_;rintro _ rfl;simp[guardOf];refine fin _ (by simp[h0,Control.cells]) (by simp[h9,Control.cells]) (by simp[h10]) (by simp[h11]) ?_;simp only[kH,hgk,dF,hnm,hpo,hki,newName];simp
   ·have hc1:¬ k<sig.length:=by simpa using hc1
    have hke:k=sig.length:=by omega
    subst hke;refine J.exit rfl ?_;refine zE fun k' V=>?_
    simp;apply V;exact J.ret func164 (aU.one results164) (hQ _ _ _ _ (.v _ _ _) (by rw[jP,hw,eI hall];rfl))
end Go.Ab
namespace Go.Ab
open Go.Proofs
theorem BW {sig:cP} {i j:Nat} (hi:i<sig.length) (hj:j<i) (h:sig[j].name=sig[i].name):newName sig i=false:=by
 have hg:sig.getD i default=sig[i]:=by simp[hi]
 have:(sig.take i).any (fun d=>d.name == sig[i].name)=true:=by
  rw[List.any_eq_true];refine⟨sig[j],?_,by simpa using h⟩;rw[List.mem_take_iff_getElem];exact⟨j,by omega,rfl⟩
 rw[newName,hg,this]
 rfl
theorem Af {sig:cP} {i:Nat} (hi:i<sig.length) (h:∀ j (hj:j<sig.length),j<i->¬ sig[j].name=sig[i].name):newName sig i=true:=by
 have hg:sig.getD i default=sig[i]:=by simp[hi]
 have:(sig.take i).any (fun d=>d.name == sig[i].name)=false:=by
  rw[List.any_eq_false];intro d hd;rw[List.mem_take_iff_getElem] at hd;obtain⟨j,hj,rfl⟩:=hd;have:=h j (by omega) (by omega);simpa using this
 rw[newName,hg,this]
 rfl
theorem Hf (sig:cP) (hl:sig.length<=1048576) (hs:∀ c ∈ sig,c.name.length<=1048576):aF prog 137 [bK false sig] (fun r=>r=bool (hZ sig)):=by
 refine aF.of func137 rfl ntmps137 (by simp) fun Q hQ=>?_
 refine zE fun k' V=>?_
 simp [bK];apply V;refine zS fun k' V=>?_
 simp;apply V;have bad:∀ k,k<sig.length->kH sig k=false->∀ H n,Q (bool false) H n:=fun k hk hb H n=>hQ _ _ _ _ (.v _ _ _) (by rw[jP,eH hk hb,Bool.and_false])
 refine J.block (J.cz sig.length (fun k O H n=>O 0 = .list false (sig.map Control.cells)/\O 3=int k/\∀ i,i<k->kH sig i=true) ?_ ?_)
 ·simp
 ·rintro k O H n hk ⟨h0,h3,hall⟩ IH;refine zS fun k' V=>?_
  simp [h0, h3];apply V;refine J.ite rfl (fun hc1 => ?_) (fun hc1 => ?_)
  ·have hc1:k<sig.length:=by simpa using hc1
   have hgk:sig.getD k default=sig[k]:=by simp[hc1]
   apply zK;apply J.block;refine zS fun k' V=>?_
   have fin:∀ O:Env,O 0 = .list false (sig.map Control.cells)->O 3=int k->O 35=bool (!dF sig[k])->J prog 137 55 k' O H n Q:=by
    intro O h0 h3 h35;apply V;refine J.ite h35 (fun hc2 => ?_) (fun hc2 => ?_)
    ·have hb:dF sig[k]=false:=by simpa using hc2
     refine zE fun k' V=>?_
     simp;apply V;exact J.ret func137 (aU.one results137) (bad k hc1 (by rw[kH,hgk,hb,Bool.false_and]) _ _)
    ·have hb:dF sig[k]=true:=by simpa using hc2
     apply J.skip;refine zE fun k' V=>?_
     simp;apply V;refine J.block (J.cz k (fun j O H n=>O 0 = .list false (sig.map Control.cells)/\O 3=int k/\O 4=int j/\∀ q (hq:q<sig.length),q<j->¬ sig[q].name=sig[k].name) ?_ ?_)
     ·simp[h0,h3]
     ·rintro j O H n hj ⟨h0,h3,h4,hno⟩ IH2;refine zS fun k' V=>?_
      simp [h3, h4];apply V;refine J.ite rfl (fun hc3 => ?_) (fun hc3 => ?_)
      ·have hc3:j<k:=by simpa using hc3
       have hjl:j<sig.length:=by omega
       apply zK;apply J.block;refine J.fC aB aP bZ (by decide) (by kernel_rfl) fun k' V=>?_
       simp [h0, h3, h4, hc1, hjl, Control.cells];apply V;refine J.ite rfl (fun hc4 => ?_) (fun hc4 => ?_)
       ·have hc4:sig[j].name=sig[k].name:=by simpa using hc4
        refine zE fun k' V=>?_
        simp;apply V;exact J.ret func137 (aU.one results137) (bad k hc1 (by rw[kH,BW hc1 hc3 hc4,Bool.and_false]) _ _)
       ·have hc4:¬ sig[j].name=sig[k].name:=by simpa using hc4
        apply J.skip;refine zI fun k' V=>?_
        simp [h4, bz (show j < 4611686018427387904 by omega)];apply V;refine IH2 hc3 _ _ _ ⟨by simp[h0,Control.cells],by simp[h3],by simp,fun q hq hqj=>?_⟩;rcases Nat.lt_or_ge q j with h | h
        ·exact hno q hq h
        ·have:q=j:=by omega
         subst this;exact hc4
      ·have hc3:¬ j<k:=by simpa using hc3
       have hje:j=k:=by omega
       subst hje;refine J.exit rfl ?_;refine zI fun k' V=>?_
       simp [h3, bz (show j < 4611686018427387904 by omega)];apply V;refine IH hc1 _ _ _ ⟨by simp[h0],by simp,fun i hi=>?_⟩;rcases Nat.lt_or_ge i j with h | h
       ·exact hall i h
       ·rw[show i=j by omega,kH,hgk,hb,Af hc1 hno]
        rfl
   simp [h0, h3, hc1, Control.cells];refine zA (wi sig[k].name (Nat.le_trans (hs _ (List.getElem_mem hc1)) (by decide))) e191 (.cons (.v _ _ _) .nil) (by simp) ?_;rintro _ rfl;cases hnm:qs sig[k].name
   ·simp[guardOf];exact fin _ (by simp[h0,Control.cells]) (by simp[h3]) (by simp only[dF,hnm];simp)
   ·simp[h0,h3,hc1,Control.cells,guardOf];refine zA (gn sig[k].ports 0 3) tW (.cons (.v _ _ _) (.cons (.v _ _ _) (.cons (.v _ _ _) .nil))) (by simp) ?_;rintro _ rfl;cases hpo:within sig[k].ports 0 3
    ·simp[guardOf];exact fin _ (by simp[h0,Control.cells]) (by simp[h3]) (by simp only[dF,hnm,hpo];simp)
    ·simp[h0,h3,hc1,Control.cells,guardOf];refine zA (gn sig[k].kind 0 2) tW (.cons (.v _ _ _) (.cons (.v _ _ _) (.cons (.v _ _ _) .nil))) (by simp) ?_;rintro _ rfl;simp[guardOf];exact fin _ (by simp[h0,Control.cells]) (by simp[h3]) (by simp only[dF,hnm,hpo];simp)
  ·have hc1:¬ k<sig.length:=by simpa using hc1
   have hke:k=sig.length:=by omega
   subst hke;refine J.exit rfl ?_;refine zE fun k' V=>?_
   simp [h0];refine zA (gn sig.length 1 6) tW (.cons (.v _ _ _) (.cons (.v _ _ _) (.cons (.v _ _ _) .nil))) (by simp) ?_;rintro _ rfl;simp;apply V;exact J.ret func137 (aU.one results137) (hQ _ _ _ _ (.v _ _ _) (by rw[jP,eI hall,Bool.and_true]))
end Go.Ab
namespace Go.Ab
open Go.Proofs
theorem e107:a8 prog 107:=a8.of func107 (by kernel_rfl) rfl
theorem e168:a8 prog 168:=a8.of func168 (by kernel_rfl) rfl
theorem e170:a8 prog 170:=a8.of func170 (by kernel_rfl) rfl
theorem e172:a8 prog 172:=a8.of func172 (by kernel_rfl) rfl
structure cv (sig:cP) (b:aG):Prop where
 sigLen:sig.length<=1048576
 sigNames:∀ c ∈ sig,c.name.length<=1048576
 nodesLen:b.nodes.length<=1048576
 sitesLen:b.sites.length<=1048576
 outerLen:b.outer.length<=1048576
 innerLen:b.inner.length<=1048576
 outerNames:∀ s ∈ b.outer,s.length<=1048576
 innerNames:∀ w ∈ b.inner,w.name.length<=1048576
 linksLen:∀ x ∈ b.nodes,x.links.length<=1048576
 parents:∀ x ∈ b.nodes,bh x.parent
 sites64:∀ p ∈ b.sites,bh p
theorem clos76 {H:ax} {n:Nat} {X:Id} (b:aG) (he:0<=b.edges/\b.edges<=8) (ho:b.outer.length<=1048576) (hX:H X=some ⟨6,[b.cells false]⟩) (l:Int):gI prog H n (.fn (.func 168) [] [.ptr X 1 0 0]) [int l] (fun r=>r=bool (!dU b l)):=by
 refine⟨168,[],[.ptr X 1 0 0],rfl,e168,?_⟩;have hX':=hX;simp only[aG.cells] at hX';refine dw.of func168 rfl ntmps168 (by simp) fun Q hB hQ=>?_
 refine zE fun _ V=>?_
 simp;apply V;refine zE fun _ V=>?_
 simp [hX'];refine zA (wj b l he ho) e169 (.cons (aQ.cX false b) (.cons (.v _ _ _) .nil)) (by simp[cX,aG.cells]) ?_;rintro _ rfl;simp;apply V;exact J.ret func168 (aU.one results168) (hQ _ _ _ _ (.mY (.v _)) (Frame.refl _ _) (by simp))
theorem clos80 {H:ax} {n:Nat} {X:Id} (b:aG) (he:0<=b.edges/\b.edges<=8) (ho:b.outer.length<=1048576) (hX:H X=some ⟨6,[b.cells false]⟩) (w:aD):gI prog H n (.fn (.func 172) [] [.ptr X 1 0 0]) [.agg w.cells] (fun r=>r=bool (!dU b w.link)):=by
 refine⟨172,[],[.ptr X 1 0 0],rfl,e172,?_⟩;have hX':=hX;simp only[aG.cells] at hX';refine dw.of func172 rfl ntmps172 (by simp) fun Q hB hQ=>?_
 have hXn:=(hB X _ hX).1;have hX2:¬ X=(n,2):=by rintro rfl;simp at hXn
 refine zE fun _ V=>?_
 simp [aD.cells];apply V;refine zE fun _ V=>?_
 simp [hX2, hX'];refine zA (wj b w.link he ho) e169 (.cons (aQ.cX false b) (.cons (.v _ _ _) .nil)) (by simp[cX,aG.cells]) ?_;rintro _ rfl;simp;apply V;exact J.ret func172 (aU.one results172) (hQ _ _ _ _ (.mY (.v _)) (Frame.set (by simp) (Frame.refl _ _)) (by simp))
theorem clos78 {H:ax} {n:Nat} {X ak:Id} (sig:cP) (b:aG) (hr:0<=b.roots/\b.roots<=4) (hc:rQ sig b b.nodes.length) (hX:H X=some ⟨6,[b.cells false]⟩) (hY:H ak=some ⟨1,[[bK false sig]]⟩) (p:Int) :
  gI prog H n (.fn (.func 170) [] [.ptr X 1 0 0,.ptr ak 1 0 0]) [int p] (fun r=>r=bool (!cf sig b p b.nodes.length)):=by
 refine⟨170,[],[.ptr X 1 0 0,.ptr ak 1 0 0],rfl,e170,?_⟩;have hX':=hX;simp only[aG.cells,cw] at hX';have hY':=hY;simp only[bK] at hY';refine dw.of func170 rfl ntmps170 (by simp) fun Q hB hQ=>?_
 refine zE fun _ V=>?_
 simp;apply V;refine zE fun _ V=>?_
 simp [hX', hY'];refine zA (sB sig b p b.nodes.length hr (Nat.le_refl _) hc) e167 (.cons (aQ.cX false b) (.cons (aQ.bK false sig) (.cons (.v _ _ _) (.cons (.v _ _ _) .nil)))) (by simp[cX,aG.cells,cw,bK]) ?_;rintro _ rfl;simp;apply V;exact J.ret func170 (aU.one results170) (hQ _ _ _ _ (.mY (.v _)) (Frame.refl _ _) (by simp))
theorem AY {sig:cP} {b:aG} {k:Nat} (h:cR sig b k=true) (hk:rQ sig b k):rQ sig b (k+1):=by
 intro i hi;rcases Nat.lt_or_ge i k with h1 | h1
 ·exact hk i h1
 ·have:i=k:=by omega
  subst this;simp only[cR,within,Bool.and_eq_true,decide_eq_true_eq] at h;omega
def ew (sig:cP) (b:aG):Bool:=
 hZ sig && within b.roots 0 4 && decide (b.nodes.length<=8) && decide (b.sites.length<=4) && within b.edges 0 8 && db b.outer && db (names b)
theorem fy (sig:cP) (b:aG):fQ sig b=(ew sig b && (List.range b.nodes.length).all (cR sig b) && b.sites.all (fun p=>cf sig b p b.nodes.length) && b.inner.all (fun w=>dU b w.link)):=rfl
theorem xF {α:Type} (l:List α) (p:α->Bool):(l.any fun x => !p x) = !l.all p:=by
 induction l with
 | nil=>rfl
 | cons a l ih=>simp[ih]
theorem mb (sig:cP) (b:aG) (hs:cv sig b):aF prog 107 [bK false sig,cX false b] (fun r=>r=bool (fQ sig b)):=by
 obtain⟨s1,s2,s3,s4,s5,s6,s7,s8,s9,_,_⟩:=hs;have hnl:(names b).length<=1048576:=by simpa[names] using s6
 have hnn:∀ s ∈ names b,s.length<=1048576:=by
  intro s hs;obtain⟨w,hw,rfl⟩:=List.mem_map.1 hs;exact s8 w hw
 refine aF.of func107 rfl ntmps107 (by simp) fun Q hQ=>?_
 refine zE fun k' V=>?_
 simp [bK, cX, aG.cells];apply V;refine J.cut (fun O H n=>O 2 = .ptr (0,2) 1 0 0/\O 3 = .ptr (1,3) 1 0 0/\H (0,2)=some ⟨1,[[bK false sig]]⟩/\H (1,3)=some ⟨6,[b.cells false]⟩) ⟨by simp,by simp,by simp[bK],by simp[aG.cells]⟩ ?_;clear V;rintro O H n ⟨h2,h3,hm2,hm3⟩;have hm2':=hm2;simp only[bK] at hm2';have hm3':=hm3;simp only[aG.cells,cw,encI,encS,cI] at hm3';refine zS fun k' V=>?_
 have fin:∀ O:Env,O 2 = .ptr (0,2) 1 0 0->O 3 = .ptr (1,3) 1 0 0->O 45=bool (!ew sig b)->J prog 107 101 k' O H n Q:=by
  intro O h2 h3 h45;apply V;refine J.ite h45 (fun hc1 => ?_) (fun hc1 => ?_)
  ·have hb:ew sig b=false:=by simpa using hc1
   refine zE fun k' V=>?_
   simp;apply V;exact J.ret func107 (aU.one results107) (hQ _ _ _ _ (.v _ _ _) (by rw[fy,hb];rfl))
  ·have hb:ew sig b=true:=by simpa using hc1
   have hb':=hb;simp only[ew,within,Bool.and_eq_true,decide_eq_true_eq] at hb';obtain⟨⟨⟨⟨⟨⟨_,hr⟩,hn8⟩,_⟩,hed⟩,_⟩,_⟩:=hb';apply J.skip;refine zS fun k' V=>?_
   simp [h3, hm3'];apply V;refine J.block (J.cz b.nodes.length (fun k O H n=>O 2 = .ptr (0,2) 1 0 0/\O 3 = .ptr (1,3) 1 0 0/\O 47 = .list false (b.nodes.map (ay.cells false))/\O 48=int b.nodes.length/\O 49=int k /\
    H (0,2)=some ⟨1,[[bK false sig]]⟩/\H (1,3)=some ⟨6,[b.cells false]⟩/\rQ sig b k/\(∀ i,i<k->cR sig b i=true)) ?_ ?_)
   ·exact⟨by simp[h2],by simp[h3],by simp,by simp,by simp,hm2,hm3,fun i hi=>by omega,fun i hi=>by omega⟩
   ·clear h2 h3 hm2' hm3';rintro k O H n hk ⟨h2,h3,h47,h48,h49,hm2,hm3,hctl,hall⟩ IH;have hm2':=hm2;simp only[bK] at hm2';have hm3':=hm3;simp only[aG.cells,cw,encI,encS,cI] at hm3';refine zE fun k' V=>?_
    simp [h48, h49];apply V;apply J.seq;refine J.ite rfl (fun hc2 => ?_) (fun hc2 => ?_)
    ·have hc2:k<b.nodes.length:=by simpa using hc2
     have hgk:b.nodes.getD k default=b.nodes[k]:=by simp[hc2]
     apply zK;apply J.block;refine zE fun k' V=>?_
     simp [h47, h49, hc2, ay.cells];apply V;refine J.cut (fun O H m=>O 2 = .ptr (0,2) 1 0 0/\O 3 = .ptr (1,3) 1 0 0/\O 47 = .list false (b.nodes.map (ay.cells false))/\O 48=int b.nodes.length/\O 49=int k/\O 5=int k/\O 6 = .ptr (n,6) 1 0 0 /\
      H (0,2)=some ⟨1,[[bK false sig]]⟩/\H (1,3)=some ⟨6,[b.cells false]⟩/\H (n,6)=some ⟨3,[b.nodes[k].cells false]⟩/\m=n+1) ?_ ?_
     ·exact⟨by simp[h2],by simp[h3],by simp[h47],by simp[h48],by simp[h49],by simp,by simp,by simp[hm2],by simp[hm3],by simp[ay.cells],rfl⟩
     clear V h2 h3 h47 h48 h49 hm2 hm3 hm2' hm3';rintro O H m ⟨h2,h3,h47,h48,h49,h5,h6,hm2,hm3,hm6,rfl⟩;have hm2':=hm2;simp only[bK] at hm2';have hm3':=hm3;simp only[aG.cells,cw,encI,encS,cI] at hm3';have hm6':=hm6;simp only[ay.cells] at hm6';refine J.fC aB aP bZ (by decide) (by kernel_rfl) fun k' V=>?_
     have fin:∀ O:Env,O 2 = .ptr (0,2) 1 0 0->O 3 = .ptr (1,3) 1 0 0->O 47 = .list false (b.nodes.map (ay.cells false))->O 48=int b.nodes.length->O 49=int k->O 87=bool (!cR sig b k)->J prog 107 101 k' O H (n+1) Q:=by
      intro O h2 h3 h47 h48 h49 h87;apply V;refine J.ite h87 (fun hc3 => ?_) (fun hc3 => ?_)
      ·have hb:cR sig b k=false:=by simpa using hc3
       refine zE fun k' V=>?_
       simp;apply V;exact J.ret func107 (aU.one results107) (hQ _ _ _ _ (.v _ _ _) (by rw[fy,eH hc2 hb,Bool.and_false];rfl))
      ·have hb:cR sig b k=true:=by simpa using hc3
       apply J.skip;refine zI fun k' V=>?_
       simp [h49, bz (show k < 4611686018427387904 by omega)];apply V;refine IH hc2 _ _ _ ⟨by simp[h2],by simp[h3],by simp[h47],by simp[h48],by simp,hm2,hm3,AY hb hctl,fun i hi=>?_⟩;rcases Nat.lt_or_ge i k with h | h
       ·exact hall i h
       ·rw[show i=k by omega];exact hb
     have hw:IntKind.i64.wrap ((sig.length:Int) - 1)=(sig.length:Int) - 1:=by rw[wrap64]<;>omega
     simp [h2, h6, hm2', hm6', hw];refine bN.dA aB aP (eE b.nodes[k].control 0 ((sig.length:Int) - 1)) vz (.cons (.v _ _ _) (.cons (.v _ _ _) (.cons (.v _ _ _) .nil))) (by decide) rfl (by simp) ?_;cases q1:within b.nodes[k].control 0 ((sig.length:Int) - 1)
     ·simp[guardOf];exact fin _ (by simp[h2]) (by simp[h3]) (by simp[h47]) (by simp[h48]) (by simp[h49]) (by simp only[cR,hgk,q1];simp)
     simp[h2,h3,h5,h6,hm2',hm3',hm6',guardOf];refine bN.dA aB aP (sB sig b b.nodes[k].parent k hr (by omega) hctl) e167 (.cons (aQ.cX false b) (.cons (aQ.bK false sig) (.cons (.v _ _ _) (.cons (.v _ _ _) .nil)))) (by decide) rfl (by simp[cX,aG.cells,cw,encI,encS,cI,bK]) ?_;cases q2:cf sig b b.nodes[k].parent k
     ·simp[guardOf];exact fin _ (by simp[h2]) (by simp[h3]) (by simp[h47]) (by simp[h48]) (by simp[h49]) (by simp only[cR,hgk,q2];simp)
     have q1':=q1;simp only[within,Bool.and_eq_true,decide_eq_true_eq] at q1';obtain⟨c,hc⟩:∃ c:Nat,b.nodes[k].control=c:=⟨b.nodes[k].control.toNat,by omega⟩
     have hcl:c<sig.length:=by omega
     have q1c:=q1;rw[hc] at q1c;have hgc:sig.getD c default=sig[c]:=by simp[hcl]
     by_cases q3:(b.nodes[k].links.length:Int)=sig[c].ports
     ·have q3':((b.nodes[k].links.length:Int) != sig[c].ports)=false:=by simpa using q3
      simp[h2,h3,h6,hm2',hm6',hc,hcl,q3',Control.cells,guardOf];refine bN.nG aB aP (ec false b.nodes[k].links (fun l => !dU b l) (s9 _ (List.getElem_mem hc2)) (fun l _=>clos76 b hed s5 hm3 l)) GN (by decide) rfl (by simp) ?_;simp;refine fin _ (by simp[h2]) (by simp[h3]) (by simp[h47]) (by simp[h48]) (by simp[h49]) ?_;simp only[cR,hgk,q1c,q2,hc,Int.toNat_natCast,hgc,q3,xF];simp
     ·have q3':((b.nodes[k].links.length:Int) != sig[c].ports)=true:=by simpa using q3
      simp[h2,h3,h6,hm2',hm6',hc,hcl,q3',Control.cells,guardOf];exact fin _ (by simp[h2]) (by simp[h3]) (by simp[h47]) (by simp[h48]) (by simp[h49]) (by simp only[cR,hgk,q1c,q2,hc,Int.toNat_natCast,hgc,q3];simp)
    ·have hc2:¬ k<b.nodes.length:=by simpa using hc2
     have hke:k=b.nodes.length:=by omega
     subst hke;have hnodes:=eI hall;refine J.exit rfl ?_;refine zE fun k' V=>?_
     simp [h2, h3, hm3'];refine bX.nG aB (ec false b.sites (fun p => !cf sig b p b.nodes.length) s4 (fun p _=>clos78 sig b hr hctl hm3 hm2 p)) GN (by decide) (by decide) rfl (by simp) ?_;rintro _ rfl;rw[xF];cases r1:b.sites.all (fun p=>cf sig b p b.nodes.length)
     ·simp[guardOf];apply V;exact J.ret func107 (aU.one results107) (hQ _ _ _ _ (.v _ _ _) (by rw[fy,r1];simp))
     ·simp[h3,hm3',guardOf];refine bX.nG aB (rI false b.inner (fun w => !dU b w.link) s6 (fun w _=>clos80 b hed s5 hm3 w)) e171 (by decide) (by decide) rfl (by simp) ?_;rintro _ rfl;rw[xF];simp;apply V;exact J.ret func107 (aU.one results107) (hQ _ _ _ _ (.v _ _ _) (by rw[fy,hb,hnodes,r1];simp))
 simp [h2, hm2'];refine zA (u0 sig s1 s2) e164 (.cons (aQ.bK false sig) .nil) (by simp[bK]) ?_;rintro _ rfl;cases p1:hZ sig
 ·simp[guardOf];exact fin _ (by simp[h2]) (by simp[h3]) (by simp only[ew,p1];simp)
 simp[h3,hm3',guardOf];refine zA (eE b.roots 0 4) vz (.cons (.v _ _ _) (.cons (.v _ _ _) (.cons (.v _ _ _) .nil))) (by simp) ?_;rintro _ rfl;cases p2:within b.roots 0 4
 ·simp[guardOf];exact fin _ (by simp[h2]) (by simp[h3]) (by simp only[ew,p2];simp)
 by_cases p3:(8:Int)<b.nodes.length
 ·simp[h3,hm3',p3,guardOf];exact fin _ (by simp[h2]) (by simp[h3]) (by simp only[ew,show ¬ b.nodes.length<=8 by omega];simp)
 by_cases p4:(4:Int)<b.sites.length
 ·simp[h3,hm3',p3,p4,guardOf];exact fin _ (by simp[h2]) (by simp[h3]) (by simp only[ew,show ¬ b.sites.length<=4 by omega];simp)
 simp[h3,hm3',p3,p4,guardOf];refine zA (eE b.edges 0 8) vz (.cons (.v _ _ _) (.cons (.v _ _ _) (.cons (.v _ _ _) .nil))) (by simp) ?_;rintro _ rfl;cases p5:within b.edges 0 8
 ·simp[guardOf];exact fin _ (by simp[h2]) (by simp[h3]) (by simp only[ew,p5];simp)
 simp[h3,hm3',guardOf];refine zA (sl b.outer s5 s7) e165 (.cons (aQ.encS false b.outer) .nil) (by simp[encS]) ?_;rintro _ rfl;cases p6:db b.outer
 ·simp[guardOf];exact fin _ (by simp[h2]) (by simp[h3]) (by simp only[ew,p6];simp)
 simp[h3,hm3',guardOf];refine zA (vF b s6) e166 (.cons (aQ.cX false b) .nil) (by simp[cX,aG.cells,cw,encI,encS,cI]) ?_;rintro _ rfl;simp;refine zA (sl (names b) hnl hnn) e165 (.cons (aQ.encS true (names b)) .nil) (by simp[encS]) ?_;rintro _ rfl;simp;exact fin _ (by simp[h2]) (by simp[h3]) (by simp only[ew,p1,p2,p5,p6,show b.nodes.length<=8 by omega,show b.sites.length<=4 by omega];simp)
end Go.Ab
namespace Go.Ab
open Go.Proofs
theorem e83:a8 prog 83:=a8.of func83 (by kernel_rfl) rfl
theorem e141:a8 prog 141:=a8.of func141 (by kernel_rfl) rfl
theorem yO {α:Type} {l:List α} {p:α->Bool} {k:Nat} (hk:k<l.length) (h:p l[k]=false):l.all p=false:=by
 rw[List.all_eq_false];exact⟨l[k],List.getElem_mem hk,by simp[h]⟩
theorem xV {α:Type} {l:List α} {p:α->Bool} (h:∀ i (hi:i<l.length),p l[i]=true):l.all p=true:=by
 rw[List.all_eq_true];intro x hx;obtain⟨i,hi,rfl⟩:=List.getElem_of_mem hx;exact h i hi
theorem Fe (sig:cP) (b:aG) (hs:cv sig b) (k:Nat) (hk:k<b.nodes.length) (hr:0<=b.roots/\b.roots<=4) (he:0<=b.edges/\b.edges<=8) (hctl:rQ sig b k) :
  aF prog 141 [bK false sig,cX false b,int k] (fun r=>r=bool (cR sig b k)):=by
 have hgk:b.nodes.getD k default=b.nodes[k]:=by simp[hk]
 have hll:=hs.linksLen _ (List.getElem_mem hk);have hpar:=hs.parents _ (List.getElem_mem hk);have hol:=hs.outerLen;have hsl:=hs.sigLen;refine aF.of func141 rfl ntmps141 (by simp) fun Q hQ=>?_
 refine zE fun k' V=>?_
 simp [bK, cX, aG.cells];apply V;refine zE fun k' V=>?_
 simp [cw, hk, ay.cells];apply V;refine J.cut (fun O H n=>O 0 = .list false (sig.map Control.cells)/\O 2=int k/\O 4 = .ptr (0,4) 1 0 0/\O 7 = .ptr (1,7) 1 0 0/\H (0,4)=some ⟨6,[b.cells false]⟩/\H (1,7)=some ⟨3,[b.nodes[k].cells false]⟩) ⟨by simp,by simp,by simp,by simp,by simp[aG.cells,cw,ay.cells],by simp[ay.cells]⟩ ?_;clear V;rintro O H n ⟨h0,h2,h4,h7,hm4,hm7⟩;have hm4':=hm4;simp only[aG.cells,cw,encI,encS,cI] at hm4';have hm7':=hm7;simp only[ay.cells] at hm7';apply J.seq;refine J.fC aB aP bZ (by decide) (by kernel_rfl) fun k' V=>?_
 have fin:∀ (O:Env) (pre:Bool),O 4 = .ptr (0,4) 1 0 0->O 7 = .ptr (1,7) 1 0 0->O 41=bool (!pre)->cR sig b k=(pre && b.nodes[k].links.all (dU b))->J prog 141 57 k' O H n Q:=by
  intro O pre h4 h7 h41 hpre;apply V;refine J.ite h41 (fun hc1 => ?_) (fun hc1 => ?_)
  ·have hb:pre=false:=by simpa using hc1
   refine zE fun k' V=>?_
   simp;apply V;exact J.ret func141 (aU.one results141) (hQ _ _ _ _ (.v _ _ _) (by rw[hpre,hb];rfl))
  ·have hb:pre=true:=by simpa using hc1
   rw[hb,Bool.true_and] at hpre;apply J.skip;refine zS fun k' V=>?_
   simp;apply V;refine J.block (J.cz b.nodes[k].links.length (fun j ρ' H' n'=>ρ' 4 = .ptr (0,4) 1 0 0/\ρ' 7 = .ptr (1,7) 1 0 0/\ρ' 8=int j/\H'=H/\n'=n/\∀ i (hi:i<b.nodes[k].links.length),i<j->dU b b.nodes[k].links[i]=true) ?_ ?_)
   ·exact⟨by simp[h4],by simp[h7],by simp,rfl,rfl,fun i hi h=>by omega⟩
   ·clear h4 h7;rintro j O H' n' hj ⟨h4,h7,h8,rfl,rfl,hall⟩ IH;refine zS fun k' V=>?_
    simp [h7, h8, hm7'];apply V;refine J.ite rfl (fun hc2 => ?_) (fun hc2 => ?_)
    ·have hc2:j<b.nodes[k].links.length:=by simpa using hc2
     apply zK;apply J.block;refine J.fC aB aP bZ (by decide) (by kernel_rfl) fun k' V=>?_
     simp [h4, h7, h8, hm4', hm7', hc2, aA];refine bN.dA aB aP (wb b b.nodes[k].links[j] he hol) e143 (.cons (aQ.cX false b) (.cons (.v _ _ _) .nil)) (by decide) rfl (by simp[cX,aG.cells,cw,encI,encS,cI,aA]) ?_;simp;apply V;refine J.ite rfl (fun hc3 => ?_) (fun hc3 => ?_)
     ·have hb3:dU b b.nodes[k].links[j]=false:=by simpa using hc3
      refine zE fun k' V=>?_
      simp;apply V;exact J.ret func141 (aU.one results141) (hQ _ _ _ _ (.v _ _ _) (by rw[hpre,yO hc2 hb3]))
     ·have hb3:dU b b.nodes[k].links[j]=true:=by simpa using hc3
      apply J.skip;refine zI fun k' V=>?_
      simp [h8, bz (show j < 4611686018427387904 by omega)];apply V;refine IH hc2 _ _ _ ⟨by simp[h4],by simp[h7],by simp,rfl,rfl,fun i hi hij=>?_⟩;rcases Nat.lt_or_ge i j with h | h
      ·exact hall i hi h
      ·have:i=j:=by omega
       subst this;exact hb3
    ·have hc2:¬ j<b.nodes[k].links.length:=by simpa using hc2
     have hje:j=b.nodes[k].links.length:=by omega
     subst hje;refine J.exit rfl ?_;refine zE fun k' V=>?_
     simp;apply V;exact J.ret func141 (aU.one results141) (hQ _ _ _ _ (.v _ _ _) (by rw[hpre,xV fun i hi=>hall i hi hi]))
 have hw:IntKind.i64.wrap ((sig.length:Int) - 1)=(sig.length:Int) - 1:=by rw[wrap64]<;>omega
 simp [h0, h7, hm7', hw];refine bN.dA aB aP (gn b.nodes[k].control 0 ((sig.length:Int) - 1)) tW (.cons (.v _ _ _) (.cons (.v _ _ _) (.cons (.v _ _ _) .nil))) (by decide) rfl (by simp) ?_;cases q1:within b.nodes[k].control 0 ((sig.length:Int) - 1)
 ·simp[guardOf];exact fin _ false (by simp[h4]) (by simp[h7]) (by simp) (by simp only[cR,hgk,q1];simp)
 simp[h0,h2,h4,h7,hm4',hm7',guardOf];refine bN.dA aB aP (tJ sig b b.nodes[k].parent k hpar hr (by omega) hctl) e142 (.cons (aQ.bK false sig) (.cons (aQ.cX false b) (.cons (.v _ _ _) (.cons (.v _ _ _) .nil)))) (by decide) rfl (by simp[cX,aG.cells,cw,encI,encS,cI,bK]) ?_;cases q2:cf sig b b.nodes[k].parent k
 ·simp[guardOf];exact fin _ false (by simp[h4]) (by simp[h7]) (by simp) (by simp only[cR,hgk,q2];simp)
 have q1':=q1;simp only[within,Bool.and_eq_true,decide_eq_true_eq] at q1';obtain⟨c,hc⟩:∃ c:Nat,b.nodes[k].control=c:=⟨b.nodes[k].control.toNat,by omega⟩
 have hcl:c<sig.length:=by omega
 have q1c:=q1;rw[hc] at q1c;have hgc:sig.getD c default=sig[c]:=by simp[hcl]
 by_cases q3:(b.nodes[k].links.length:Int)=sig[c].ports
 ·have q3':((b.nodes[k].links.length:Int) != sig[c].ports)=false:=by simpa using q3
  simp[h0,h7,hm7',hc,hcl,q3',Control.cells,guardOf];exact fin _ true (by simp[h4]) (by simp[h7]) (by simp) (by simp only[cR,hgk,q1c,q2,hc,Int.toNat_natCast,hgc,q3];simp)
 ·have q3':((b.nodes[k].links.length:Int) != sig[c].ports)=true:=by simpa using q3
  simp[h0,h7,hm7',hc,hcl,q3',Control.cells,guardOf];exact fin _ false (by simp[h4]) (by simp[h7]) (by simp) (by simp only[cR,hgk,q1c,q2,hc,Int.toNat_natCast,hgc,q3];simp)
end Go.Ab
namespace Go.Ab
open Go.Proofs
theorem DS {sig:cP} {b:aG} {k:Nat} (h:∀ i,i<k->cR sig b i=true):rQ sig b k:=by
 induction k with
 | zero=>intro i hi;omega
 | succ k ih=>exact AY (h k (by omega)) (ih fun i hi=>h i (by omega))
def ud (sig:cP) (b:aG):Bool:=hZ sig && within b.roots 0 4 && decide (b.nodes.length<=8) && decide (b.sites.length<=4) && within b.edges 0 8
def zg (b:aG):Bool:=db b.outer && db (names b)
theorem pC (sig:cP) (b:aG):ew sig b=(ud sig b && zg b):=by
 simp only[ew,ud,zg,Bool.and_assoc]
theorem ra (sig:cP) (b:aG) (hs:cv sig b):aF prog 83 [bK false sig,cX false b] (fun r=>r=bool (fQ sig b)):=by
 obtain⟨s1,s2,s3,s4,s5,s6,s7,s8,s9,s10,s11⟩:=id hs;have hnl:(names b).length<=1048576:=by simpa[names] using s6
 have hnn:∀ s ∈ names b,s.length<=1048576:=by
  intro s hs;obtain⟨w,hw,rfl⟩:=List.mem_map.1 hs;exact s8 w hw
 refine aF.of func83 rfl ntmps83 (by simp) fun Q hQ=>?_
 have no:fQ sig b=false->∀ H n,Q (bool false) H n:=fun h H n=>hQ _ _ _ _ (.v _ _ _) (by rw[h])
 refine zE fun k' V=>?_
 simp [bK, cX, aG.cells];apply V;refine J.cut (fun O H n=>O 0 = .list false (sig.map Control.cells)/\O 3 = .ptr (0,3) 1 0 0/\H (0,3)=some ⟨6,[b.cells false]⟩) ⟨by simp,by simp,by simp[aG.cells]⟩ ?_;clear V;rintro O H n ⟨h0,h3,hm3⟩;have hm3':=hm3;simp only[aG.cells,cw,encI,encS,cI] at hm3';refine zS fun k' V=>?_
 have fin:∀ O:Env,O 0 = .list false (sig.map Control.cells)->O 3 = .ptr (0,3) 1 0 0->O 34=bool (!ud sig b)->J prog 83 98 k' O H n Q:=by
  clear h0 h3;intro O h0 h3 h34;apply V;refine J.ite h34 (fun hc1 => ?_) (fun hc1 => ?_)
  ·have hb:ud sig b=false:=by simpa using hc1
   refine zE fun k' V=>?_
   simp;apply V;exact J.ret func83 (aU.one results83) (no (by rw[fy,pC,hb];rfl) _ _)
  ·have hb1:ud sig b=true:=by simpa using hc1
   have hb':=hb1;simp only[ud,within,Bool.and_eq_true,decide_eq_true_eq] at hb';obtain⟨⟨⟨⟨_,hr⟩,hn8⟩,_⟩,hed⟩:=hb';apply J.skip;refine zS fun k' V=>?_
   have fin2:∀ O:Env,O 0 = .list false (sig.map Control.cells)->O 3 = .ptr (0,3) 1 0 0->O 50=bool (!zg b)->J prog 83 98 k' O H n Q:=by
    clear h0 h3;intro O h0 h3 h50;apply V;refine J.ite h50 (fun hc1 => ?_) (fun hc1 => ?_)
    ·have hb:zg b=false:=by simpa using hc1
     refine zE fun k' V=>?_
     simp;apply V;exact J.ret func83 (aU.one results83) (no (by rw[fy,pC,hb,Bool.and_false];rfl) _ _)
    ·have hb2:zg b=true:=by simpa using hc1
     have hpre:ew sig b=true:=by rw[pC,hb1,hb2];rfl
     apply J.skip;refine zS fun k' V=>?_
     simp;apply V;refine J.block (J.cz b.nodes.length (fun k ρ' H' n'=>ρ' 0 = .list false (sig.map Control.cells)/\ρ' 3 = .ptr (0,3) 1 0 0/\ρ' 5=int k/\H'=H/\n'=n/\∀ i,i<k->cR sig b i=true) ?_ ?_)
     ·exact⟨by simp[h0],by simp[h3],by simp,rfl,rfl,fun i hi=>by omega⟩
     ·clear h0 h3;rintro k O H' n' hk ⟨h0,h3,h5,rfl,rfl,hall⟩ IH;refine zS fun k' V=>?_
      simp [h3, h5, hm3'];apply V;refine J.ite rfl (fun hc2 => ?_) (fun hc2 => ?_)
      ·have hc2:k<b.nodes.length:=by simpa using hc2
       apply zK;apply J.block;refine zE fun k' V=>?_
       simp [h0, h3, h5, hm3'];refine zA (Fe sig b hs k hc2 hr hed (DS hall)) e141 (.cons (aQ.bK false sig) (.cons (aQ.cX false b) (.cons (.v _ _ _) .nil))) (by simp[h0,h5,bK,cX,aG.cells,cw,encI,encS,cI]) ?_;rintro _ rfl;simp;apply V;refine J.ite rfl (fun hc3 => ?_) (fun hc3 => ?_)
       ·have hb3:cR sig b k=false:=by simpa using hc3
        refine zE fun k' V=>?_
        simp;apply V;exact J.ret func83 (aU.one results83) (no (by rw[fy,eH hc2 hb3,Bool.and_false];rfl) _ _)
       ·have hb3:cR sig b k=true:=by simpa using hc3
        apply J.skip;refine zI fun k' V=>?_
        simp [h5, bz (show k < 4611686018427387904 by omega)];apply V;refine IH hc2 _ _ _ ⟨by simp[h0],by simp[h3],by simp,rfl,rfl,fun i hi=>?_⟩;rcases Nat.lt_or_ge i k with h | h
        ·exact hall i h
        ·rw[show i=k by omega];exact hb3
      ·have hc2:¬ k<b.nodes.length:=by simpa using hc2
       have hke:k=b.nodes.length:=by omega
       subst hke;have hnodes:=eI hall;have hctl:=DS hall;refine J.exit rfl ?_;refine zS fun k' V=>?_
       simp;apply V;clear IH hall h5;refine J.block (J.cz b.sites.length (fun k ρ' H2 n2=>ρ' 0 = .list false (sig.map Control.cells)/\ρ' 3 = .ptr (0,3) 1 0 0/\ρ' 6=int k/\H2=H'/\n2=n'/\∀ i (hi:i<b.sites.length),i<k->cf sig b b.sites[i] b.nodes.length=true) ?_ ?_)
       ·exact⟨by simp[h0],by simp[h3],by simp,rfl,rfl,fun i hi h=>by omega⟩
       ·clear h0 h3;rintro k O H2 n2 hk2 ⟨h0,h3,h6,rfl,rfl,hall⟩ IH;refine zS fun k' V=>?_
        simp [h3, h6, hm3'];apply V;refine J.ite rfl (fun hc4 => ?_) (fun hc4 => ?_)
        ·have hc4:k<b.sites.length:=by simpa using hc4
         apply zK;apply J.block;refine J.fC aB aP bZ (by decide) (by kernel_rfl) fun k' V=>?_
         simp [h0, h3, h6, hm3', hc4, aA];refine bN.dA aB aP (tJ sig b b.sites[k] b.nodes.length (s11 _ (List.getElem_mem hc4)) hr (Nat.le_refl _) hctl) e142 (.cons (aQ.bK false sig) (.cons (aQ.cX false b) (.cons (.v _ _ _) (.cons (.v _ _ _) .nil)))) (by decide) rfl (by simp[h0,bK,cX,aG.cells,cw,encI,encS,cI,aA]) ?_;simp;apply V;refine J.ite rfl (fun hc5 => ?_) (fun hc5 => ?_)
         ·have hb3:cf sig b b.sites[k] b.nodes.length=false:=by simpa using hc5
          refine zE fun k' V=>?_
          simp;apply V;exact J.ret func83 (aU.one results83) (no (by rw[fy,yO hc4 hb3,Bool.and_false];rfl) _ _)
         ·have hb3:cf sig b b.sites[k] b.nodes.length=true:=by simpa using hc5
          apply J.skip;refine zI fun k' V=>?_
          simp [h6, bz (show k < 4611686018427387904 by omega)];apply V;refine IH hc4 _ _ _ ⟨by simp[h0],by simp[h3],by simp,rfl,rfl,fun i hi hij=>?_⟩;rcases Nat.lt_or_ge i k with h | h
          ·exact hall i hi h
          ·have:i=k:=by omega
           subst this;exact hb3
        ·have hc4:¬ k<b.sites.length:=by simpa using hc4
         have hke:k=b.sites.length:=by omega
         subst hke;have hsites:=xV (l:=b.sites) (p:=fun p=>cf sig b p b.nodes.length) fun i hi=>hall i hi hi
         refine J.exit rfl ?_;refine zS fun k' V=>?_
         simp;apply V;clear IH hall h6;refine J.block (J.cz b.inner.length (fun k ρ' H3 n3=>ρ' 3 = .ptr (0,3) 1 0 0/\ρ' 7=int k/\H3=H2/\n3=n2/\∀ i (hi:i<b.inner.length),i<k->dU b b.inner[i].link=true) ?_ ?_)
         ·exact⟨by simp[h3],by simp,rfl,rfl,fun i hi h=>by omega⟩
         ·clear h0 h3;rintro k O H3 n3 hk3 ⟨h3,h7,rfl,rfl,hall⟩ IH;refine zS fun k' V=>?_
          simp [h3, h7, hm3'];apply V;refine J.ite rfl (fun hc6 => ?_) (fun hc6 => ?_)
          ·have hc6:k<b.inner.length:=by simpa using hc6
           apply zK;apply J.block;refine J.fC aB aP bZ (by decide) (by kernel_rfl) fun k' V=>?_
           simp [h3, h7, hm3', hc6, aD.cells];refine bN.dA aB aP (wb b b.inner[k].link hed s5) e143 (.cons (aQ.cX false b) (.cons (.v _ _ _) .nil)) (by decide) rfl (by simp[cX,aG.cells,cw,encI,encS,cI,aD.cells]) ?_;simp;apply V;refine J.ite rfl (fun hc7 => ?_) (fun hc7 => ?_)
           ·have hb3:dU b b.inner[k].link=false:=by simpa using hc7
            refine zE fun k' V=>?_
            simp;apply V;exact J.ret func83 (aU.one results83) (no (by rw[fy,yO (l:=b.inner) (p:=fun w=>dU b w.link) hc6 hb3,Bool.and_false]) _ _)
           ·have hb3:dU b b.inner[k].link=true:=by simpa using hc7
            apply J.skip;refine zI fun k' V=>?_
            simp [h7, bz (show k < 4611686018427387904 by omega)];apply V;refine IH hc6 _ _ _ ⟨by simp[h3],by simp,rfl,rfl,fun i hi hij=>?_⟩;rcases Nat.lt_or_ge i k with h | h
            ·exact hall i hi h
            ·have:i=k:=by omega
             subst this;exact hb3
          ·have hc6:¬ k<b.inner.length:=by simpa using hc6
           have hke:k=b.inner.length:=by omega
           subst hke;have hinner:=xV (l:=b.inner) (p:=fun w=>dU b w.link) fun i hi=>hall i hi hi
           refine J.exit rfl ?_;refine zE fun k' V=>?_
           simp;apply V;exact J.ret func83 (aU.one results83) (hQ _ _ _ _ (.v _ _ _) (by rw[fy,hpre,hnodes,hsites,hinner];rfl))
   simp [h3, hm3'];refine zA (vi b.outer s5 s7) e139 (.cons (aQ.encS false b.outer) .nil) (by simp[encS]) ?_;rintro _ rfl;cases p6:db b.outer
   ·simp[guardOf];exact fin2 _ (by simp[h0]) (by simp[h3]) (by simp only[zg,p6];simp)
   by_cases p7:(16:Int)<b.inner.length
   ·simp[h3,hm3',p7,guardOf];refine fin2 _ (by simp[h0]) (by simp[h3]) ?_;have:db (names b)=false:=by
     rw[gC,show decide ((names b).length<=16)=false by simp[names];omega,Bool.false_and]
    simp only[zg,this];simp
   simp[h3,hm3',p7,guardOf];refine zA (Ch b s6) e140 (.cons (aQ.cX false b) .nil) (by simp[cX,aG.cells,cw,encI,encS,cI]) ?_;rintro _ rfl;simp;refine zA (vi (names b) hnl hnn) e139 (.cons (aQ.encS true (names b)) .nil) (by simp[encS]) ?_;rintro _ rfl;simp;exact fin2 _ (by simp[h0]) (by simp[h3]) (by simp only[zg,p6];simp)
 simp [h0];refine zA (Hf sig s1 s2) e137 (.cons (aQ.bK false sig) .nil) (by simp[bK,h0]) ?_;rintro _ rfl;cases p1:hZ sig
 ·simp[guardOf];exact fin _ (by simp[h0]) (by simp[h3]) (by simp only[ud,p1];simp)
 simp[h3,hm3',guardOf];refine zA (gn b.roots 0 4) tW (.cons (.v _ _ _) (.cons (.v _ _ _) (.cons (.v _ _ _) .nil))) (by simp) ?_;rintro _ rfl;cases p2:within b.roots 0 4
 ·simp[guardOf];exact fin _ (by simp[h0]) (by simp[h3]) (by simp only[ud,p2];simp)
 by_cases p3:(8:Int)<b.nodes.length
 ·simp[h3,hm3',p3,guardOf];exact fin _ (by simp[h0]) (by simp[h3]) (by simp only[ud,show ¬ b.nodes.length<=8 by omega];simp)
 by_cases p4:(4:Int)<b.sites.length
 ·simp[h3,hm3',p3,p4,guardOf];exact fin _ (by simp[h0]) (by simp[h3]) (by simp only[ud,show ¬ b.sites.length<=4 by omega];simp)
 simp[h3,hm3',p3,p4,guardOf];refine zA (gn b.edges 0 8) tW (.cons (.v _ _ _) (.cons (.v _ _ _) (.cons (.v _ _ _) .nil))) (by simp) ?_;rintro _ rfl;simp;exact fin _ (by simp[h0]) (by simp[h3]) (by simp only[ud,p1,p2,show b.nodes.length<=8 by omega,show b.sites.length<=4 by omega];simp)
end Go.Ab
namespace Go.Ab
open Go.Proofs
theorem e97:a8 prog 97:=a8.of func97 (by kernel_rfl) rfl
theorem e94:a8 prog 94:=a8.of func94 (by kernel_rfl) rfl
theorem e85:a8 prog 85:=a8.of func85 (by kernel_rfl) rfl
def DL (b:aG) (i:Nat):Int:=(b.nodes.getD i default).parent
def GB (b:aG):Nat->Int->List Int
 | 0,_=>[]
 | d+1,node=>if node<0 then [] else DL b node.toNat::GB b d (DL b node.toNat)
def above (b:aG) (node:Int):List Int:=GB b (b.nodes.length+1) node
theorem GH (t:Bool) (l:List Int) (x:Int) (hl:l.length<=1048576):aF prog 97 [encI t l,int x] (fun r=>r=int (vU l (fun y=>x == y))):=by
 refine aF.of func97 rfl ntmps97 (by simp) fun Q hQ=>?_
 refine zE fun _ V=>?_
 simp [encI];apply V;refine zS fun _ V=>?_
 simp;apply V;refine J.block (J.cz l.length (fun k O H' n'=>O 0 = .list t (l.map aA)/\O 1=int x/\O 7=int l.length/\O 8=int k/\∀ i (h:i<l.length),i<k->(x == l[i])=false) ?_ ?_)
 ·simp
 ·rintro k O H' n' hk ⟨h0,h1,h7,h8,hno⟩ IH;refine zE fun _ V=>?_
  simp [h7, h8];apply V;apply J.seq;refine J.ite rfl (fun hc1 => ?_) (fun hc1 => ?_)
  ·have hc1:k<l.length:=by simpa using hc1
   apply zK;apply J.block;refine zE fun _ V=>?_
   simp [h8];apply V;refine zE fun _ V=>?_
   simp [h0, h1, hc1, aA];apply V;refine J.ite rfl (fun hc2 => ?_) (fun hc2 => ?_)
   ·have hc2:(x == l[k])=true:=by simpa using hc2
    refine zE fun _ V=>?_
    simp;apply V;refine J.ret func97 (aU.one results97) (hQ _ _ _ _ (.v _ _ _) ?_);simp[tk (p:=fun y=>x == y) hc1 hc2 hno]
   ·have hc2:(x == l[k])=false:=by simpa using hc2
    apply J.skip;refine zI fun _ V=>?_
    simp [h8, bz (show k < 4611686018427387904 by omega)];apply V;refine IH hc1 _ _ _ ⟨by simp[h0,aA],by simp[h1],by simp[h7],by simp,fun i h hi=>?_⟩;rcases Nat.lt_or_ge i k with hik | hik
    ·exact hno i h hik
    ·have:i=k:=by omega
     subst this;exact hc2
  ·have hc1:¬ k<l.length:=by simpa using hc1
   have hke:k=l.length:=by omega
   subst hke;refine J.exit rfl ?_;refine zE fun _ V=>?_
   simp;apply V;refine J.ret func97 (aU.one results97) (hQ _ _ _ _ (.v _ _ _) ?_);simp[sZ (p:=fun y=>x == y) fun i h=>hno i h h]
theorem Aj (l:List Int) (x:Int) (hl:l.length<=1048576):aF prog 94 [encI false l,int x] (fun r=>r=bool (l.any (fun y=>x == y))):=by
 refine aF.of func94 rfl ntmps94 (by simp) fun Q hQ=>?_
 refine zE fun _ V=>?_
 simp [encI];apply V;refine zE fun _ V=>?_
 simp;refine zA (GH false l x hl) e97 (.cons (aQ.encI false l) (.cons (.v _ _ _) .nil)) (by simp[encI]) ?_;rintro _ rfl;simp;apply V;refine J.ret func94 (aU.one results94) (hQ _ _ _ _ (.v _ _ _) ?_);have:=qp l (fun y=>x == y);simp only[Env.put];simp[this]
theorem HQ (l:List Int) (x:Int) (hl:l.length<=1048576):aF prog 85 [encI false l,int x] (fun r=>r=bool (l.any (fun y=>x == y))):=by
 refine aF.of func85 rfl ntmps85 (by simp) fun Q hQ=>?_
 refine zE fun _ V=>?_
 simp [encI];apply V;refine zS fun _ V=>?_
 simp;apply V;refine J.block (J.cz l.length (fun k O H' n'=>O 0 = .list false (l.map aA)/\O 1=int x/\O 5=int k/\∀ i (h:i<l.length),i<k->¬ l[i]=x) ?_ ?_)
 ·simp
 ·rintro k O H' n' hk ⟨h0,h1,h5,hno⟩ IH;refine zS fun _ V=>?_
  simp [h0, h5];apply V;refine J.ite rfl (fun hc1 => ?_) (fun hc1 => ?_)
  ·have hc1:k<l.length:=by simpa using hc1
   apply zK;apply J.block;refine zE fun _ V=>?_
   simp [h0, h1, h5, hc1, aA];apply V;refine J.ite rfl (fun hc2 => ?_) (fun hc2 => ?_)
   ·have hc2:l[k]=x:=by simpa using hc2
    refine zE fun _ V=>?_
    simp;apply V;refine J.ret func85 (aU.one results85) (hQ _ _ _ _ (.v _ _ _) ?_);have:l.any (fun y=>x == y)=true:=by
     rw[List.any_eq_true];exact⟨l[k],List.getElem_mem hc1,by simp[hc2]⟩
    rw[this];try rfl
   ·have hc2:¬ l[k]=x:=by simpa using hc2
    apply J.skip;refine zI fun _ V=>?_
    simp [h5, bz (show k < 4611686018427387904 by omega)];apply V;refine IH hc1 _ _ _ ⟨by simp[h0,aA],by simp[h1],by simp,fun i h hi=>?_⟩;rcases Nat.lt_or_ge i k with hik | hik
    ·exact hno i h hik
    ·have:i=k:=by omega
     subst this;exact hc2
  ·have hc1:¬ k<l.length:=by simpa using hc1
   have hke:k=l.length:=by omega
   subst hke;refine J.exit rfl ?_;refine zE fun _ V=>?_
   simp;apply V;refine J.ret func85 (aU.one results85) (hQ _ _ _ _ (.v _ _ _) ?_);have:l.any (fun y=>x == y)=false:=by
    rw[List.any_eq_false];intro y hy;obtain⟨i,hi,rfl⟩:=List.getElem_of_mem hy;have:=hno i hi hi;simpa using fun h=>this h.symm
   rw[this];try rfl
end Go.Ab
namespace Go.Ab
open Go.Proofs
end Go.Ab
namespace Go.Ab.Vg
structure HD (sig:cP):Prop where
 len:1<=sig.length/\sig.length<=6
 ports:∀ c ∈ sig,0<=c.ports/\c.ports<=3
 kind:∀ c ∈ sig,0<=c.kind/\c.kind<=2
structure cM (sig:cP) (b:aG):Prop where
 sg:HD sig
 roots:0<=b.roots/\b.roots<=4
 len:b.nodes.length<=8
 slen:b.sites.length<=4
 edges:0<=b.edges/\b.edges<=8
 outer:b.outer.length<=16
 inner:b.inner.length<=16
 ctl:∀ i (h:i<b.nodes.length),0<=b.nodes[i].control/\b.nodes[i].control<sig.length
 par:∀ i (h:i<b.nodes.length),-b.roots<=b.nodes[i].parent/\b.nodes[i].parent<i
 ports:∀ i (h:i<b.nodes.length),(b.nodes[i].links.length:Int)=(sig.getD b.nodes[i].control.toNat default).ports
 links:∀ i (h:i<b.nodes.length),∀ l ∈ b.nodes[i].links,0<=l/\l<b.edges+b.outer.length
 sites:∀ p ∈ b.sites,-b.roots<=p/\p<b.nodes.length
 wires:∀ w ∈ b.inner,0<=w.link/\w.link<b.edges+b.outer.length
theorem vO {sig:cP} (h:hZ sig=true):HD sig:=by
 simp only[hZ,within,dF,Bool.and_eq_true,decide_eq_true_eq,List.all_eq_true,List.mem_range] at h;obtain⟨h1,h2⟩:=h;refine⟨by omega,fun c hc=>?_,fun c hc=>?_⟩<;>obtain⟨i,hi,rfl⟩:=List.getElem_of_mem hc<;>have:=h2 i hi<;>simp only[List.getD_eq_getElem?_getD,List.getElem?_eq_getElem hi,Option.getD_some] at this
 ·exact this.1.1.2
 ·exact this.1.2
theorem fV {sig:cP} {b:aG} (h:fQ sig b=true):cM sig b:=by
 simp only[fQ,Bool.and_eq_true,decide_eq_true_eq,List.all_eq_true,List.mem_range] at h;obtain⟨⟨⟨⟨⟨⟨⟨⟨⟨hs,hr⟩,hn⟩,hst⟩,he⟩,ho⟩,hi⟩,hno⟩,hsi⟩,hw⟩:=h;have hV:=vO hs;simp only[within,Bool.and_eq_true,decide_eq_true_eq] at hr he;simp only[db,Bool.and_eq_true,decide_eq_true_eq,List.length_map] at ho hi;have hno2:∀ i (h:i<b.nodes.length),(0<=b.nodes[i].control/\b.nodes[i].control<=(sig.length:Int) - 1)/\cf sig b b.nodes[i].parent i=true/\(b.nodes[i].links.length:Int)=(sig.getD b.nodes[i].control.toNat default).ports/\∀ l ∈ b.nodes[i].links,dU b l=true:=fun i h=>by
  have:=hno i h;simp only[cR,within,Bool.and_eq_true,decide_eq_true_eq,List.all_eq_true,List.getD_eq_getElem?_getD,List.getElem?_eq_getElem h,Option.getD_some] at this;exact⟨this.1.1.1,this.1.1.2,by simpa using this.1.2,this.2⟩
 have hp:∀ p (m:Nat),cf sig b p m=true -> -b.roots<=p/\p<m:=fun p m h=>by
  simp only[cf] at h
  split at h
  ·simp only[decide_eq_true_eq] at h;omega
  ·simp only[Bool.and_eq_true,decide_eq_true_eq] at h;omega
 have hl:∀ l,dU b l=true->0<=l/\l<b.edges+b.outer.length:=fun l h=>by
  simp only[dU,within,Bool.and_eq_true,decide_eq_true_eq] at h;omega
 exact⟨hV,hr,hn,hst,he,ho.1,hi.1,fun i h=>by have:=(hno2 i h).1;omega,fun i h=>hp _ _ (hno2 i h).2.1,fun i h=>(hno2 i h).2.2.1,fun i h l hm=>hl l ((hno2 i h).2.2.2 l hm),fun p hm=>hp _ _ (hsi p hm),fun w hm=>hl _ (hw w hm)⟩
theorem at_mem {α:Type} [Inhabited α] {l:List α} {i:Int} (h:0<=i/\i<l.length):at' l i ∈ l:=by
 obtain⟨h1,h2⟩:=rk h rfl;exact h2 ▸ List.getElem_mem h1
theorem DE {α:Type} [Inhabited α] {l:List α} {i:Int} (h:0<=i/\i<l.length):∃ h':i.toNat<l.length,at' l i=l[i.toNat]:=by
 obtain⟨h1,h2⟩:=rk h rfl;exact⟨h1,h2.symm⟩
theorem cM.ctlAt {sig:cP} {b:aG} (h:cM sig b) {i:Int} (hi:0<=i/\i<b.nodes.length):0<=(at' b.nodes i).control/\(at' b.nodes i).control<sig.length:=by
 obtain⟨h1,h2⟩:=DE hi;rw[h2];exact h.ctl _ h1
theorem cM.zQ {sig:cP} {b:aG} (h:cM sig b) {i:Int} (hi:0<=i/\i<b.nodes.length) : -b.roots<=(at' b.nodes i).parent/\(at' b.nodes i).parent<i:=by
 obtain⟨h1,h2⟩:=DE hi;rw[h2];have:=h.par _ h1;omega
theorem cM.xW {sig:cP} {b:aG} (h:cM sig b) {i:Int} (hi:0<=i/\i<b.nodes.length):((at' b.nodes i).links.length:Int)=(at' sig (at' b.nodes i).control).ports:=by
 obtain⟨h1,h2⟩:=DE hi;have h3:=h.ports _ h1;have h4:=h.ctl _ h1;rw[h2,h3];simp[at']
theorem cM.iT {sig:cP} {b:aG} (h:cM sig b) {i:Int} (hi:0<=i/\i<b.nodes.length):∀ l ∈ (at' b.nodes i).links,0<=l/\l<b.edges+b.outer.length:=by
 obtain⟨h1,h2⟩:=DE hi;rw[h2];exact h.links _ h1
theorem cM.kq {sig:cP} {b:aG} (h:cM sig b) {i:Int} (hi:0<=i/\i<b.nodes.length):(at' b.nodes i).links.length<=3:=by
 have h1:=h.xW hi;have h2:=h.ctlAt hi;have h3:=h.sg.ports _ (at_mem (l:=sig) h2);omega
end Go.Ab.Vg
namespace Go.Ab.Vg
def jG (b:aG) (p:Int):List Int:=idxs b.nodes (fun x=>decide (x.parent=p)) b.nodes.length
def j0 (b:aG) (p:Int):List Int:=idxs b.sites (fun x=>decide (x=p)) b.sites.length
abbrev rF (b:aG) (p:Int):=jG b p
abbrev eS (b:aG) (_:Int):Prop:=b.nodes.length<=1048576
def oZ (b:aG) (parent:Int) (Z:(List Int)->Prop):Prop:=
 aI (σ:=Int × (List Int)) (fun (i14,l15) K19=>∀ len20:Int,len20=(b.nodes.length:Int)->∀ c22:Bool,c22=decide (i14<len20)->((c22=true->(0<=i14/\i14<b.nodes.length)/\∀ x25:ay,x25=at' b.nodes i14->∀ c27:Bool,c27=decide (x25.parent=parent)->((c27=true->(l15.length+1<=1073741824)/\∀ l30:List Int,l30=l15++[i14]->(bh (i14+1))/\∀ v40:Int,v40=i14+1->K19 (v40,l30))/\(c27=false->(bh (i14+1))/\∀ v43:Int,v43=i14+1->K19 (v43,l15))))/\(c22=false->Z l15))) (0,([]:List Int))
theorem EH (b:aG) (p:Int) (h:eS b p):oZ b p (fun y=>y=rF b p):=by
 unfold oZ;refine aI.mS b.nodes.length (fun k out=>out=idxs b.nodes (fun x=>decide (x.parent=p)) k) [] rfl ?_;rintro k out K hk rfl IH;have hl:=jw b.nodes (fun x=>decide (x.parent=p)) k;simp only[eS] at h;simp only[forall_eq,decide_eq_true_eq,decide_eq_false_iff_not,bh];refine⟨fun h1=>⟨by omega,fun h2=>⟨by omega,by omega,?_⟩,fun h2=>⟨by omega,?_⟩⟩,fun h1=>?_⟩
 ·exact IH (by omega) _ (lh _ _ (by simpa using h2)).symm
 ·exact IH (by omega) _ (oR _ _ (by simpa using h2)).symm
 ·rw[show k=b.nodes.length by omega];rfl
abbrev l8 (b:aG) (p:Int):=j0 b p
abbrev eV (b:aG) (_:Int):Prop:=b.sites.length<=1048576
def lN (b:aG) (parent:Int) (Z:(List Int)->Prop):Prop:=
 aI (σ:=Int × (List Int)) (fun (i14,l15) K19=>∀ len20:Int,len20=(b.sites.length:Int)->∀ c22:Bool,c22=decide (i14<len20)->((c22=true->(0<=i14/\i14<b.sites.length)/\∀ x25:Int,x25=at' b.sites i14->∀ c27:Bool,c27=decide (x25=parent)->((c27=true->(l15.length+1<=1073741824)/\∀ l30:List Int,l30=l15++[i14]->(bh (i14+1))/\∀ v40:Int,v40=i14+1->K19 (v40,l30))/\(c27=false->(bh (i14+1))/\∀ v43:Int,v43=i14+1->K19 (v43,l15))))/\(c22=false->Z l15))) (0,([]:List Int))
theorem Bu (b:aG) (p:Int) (h:eV b p):lN b p (fun y=>y=l8 b p):=by
 unfold lN;refine aI.mS b.sites.length (fun k out=>out=idxs b.sites (fun x=>decide (x=p)) k) [] rfl ?_;rintro k out K hk rfl IH;have hl:=jw b.sites (fun x=>decide (x=p)) k;simp only[eV] at h;simp only[forall_eq,decide_eq_true_eq,decide_eq_false_iff_not,bh];refine⟨fun h1=>⟨by omega,fun h2=>⟨by omega,by omega,?_⟩,fun h2=>⟨by omega,?_⟩⟩,fun h1=>?_⟩
 ·exact IH (by omega) _ (lh _ _ (by simpa using h2)).symm
 ·exact IH (by omega) _ (oR _ _ (by simpa using h2)).symm
 ·rw[show k=b.sites.length by omega];rfl
abbrev eX (b:aG) (p:Int):=(jG b p,j0 b p)
abbrev cg (b:aG) (_:Int):Prop:=b.nodes.length<=1048576/\b.sites.length<=1048576
def ic (b:aG) (parent:Int) (Z:((List Int) × (List Int))->Prop):Prop:=
 ∀ pM:Int,pM=(b.nodes.length:Int)->aI (σ:=Int × (List Int)) (fun (v20,l21) K26=>∀ c27:Bool,c27=decide (v20<pM)->((c27=true->(0<=v20/\v20<b.nodes.length)/\∀ x30:ay,x30=at' b.nodes v20->∀ c36:Bool,c36=decide (x30.parent=parent)->((c36=true->(l21.length+1<=1073741824)/\∀ l39:List Int,l39=l21++[v20]->(bh (v20+1))/\∀ v50:Int,v50=v20+1->K26 (v50,l39))/\(c36=false->(bh (v20+1))/\∀ v53:Int,v53=v20+1->K26 (v53,l21))))/\(c27=false->∀ len55:Int,len55=(b.sites.length:Int)->aI (σ:=Int × (List Int)) (fun (v66,l67) K72=>∀ c73:Bool,c73=decide (v66<len55)->((c73=true->(0<=v66/\v66<b.sites.length)/\∀ x76:Int,x76=at' b.sites v66->∀ c78:Bool,c78=decide (x76=parent)->((c78=true->(l67.length+1<=1073741824)/\∀ l81:List Int,l81=l67++[v66]->(bh (v66+1))/\∀ v92:Int,v92=v66+1->K72 (v92,l81))/\(c78=false->(bh (v66+1))/\∀ v95:Int,v95=v66+1->K72 (v95,l67))))/\(c73=false->Z (l21,l67)))) (0,([]:List Int))))) (0,([]:List Int))
theorem vq (b:aG) (p:Int) (h:cg b p):ic b p (fun y=>y=eX b p):=by
 unfold ic;rintro _ rfl;simp only[cg] at h;refine aI.mS b.nodes.length (fun k out=>out=idxs b.nodes (fun x=>decide (x.parent=p)) k) [] rfl ?_;rintro k out K hk rfl IH;have hl:=jw b.nodes (fun x=>decide (x.parent=p)) k;simp only[forall_eq,decide_eq_true_eq,decide_eq_false_iff_not,bh];refine⟨fun h1=>⟨by omega,fun h2=>⟨by omega,by omega,?_⟩,fun h2=>⟨by omega,?_⟩⟩,fun h1=>?_⟩
 ·exact IH (by omega) _ (lh _ _ (by simpa using h2)).symm
 ·exact IH (by omega) _ (oR _ _ (by simpa using h2)).symm
 rw[show k=b.nodes.length by omega];clear hl hk IH K h1;refine aI.mS b.sites.length (fun k out=>out=idxs b.sites (fun x=>decide (x=p)) k) [] rfl ?_;rintro k out K hk rfl IH;have hl:=jw b.sites (fun x=>decide (x=p)) k;dsimp only;refine⟨fun h1=>⟨by omega,fun h2=>⟨by omega,by omega,?_⟩,fun h2=>⟨by omega,?_⟩⟩,fun h1=>?_⟩
 ·exact IH (by omega) _ (lh _ _ (by simpa using h2)).symm
 ·exact IH (by omega) _ (oR _ _ (by simpa using h2)).symm
 ·rw[show k=b.sites.length by omega];rfl
end Go.Ab.Vg
namespace Go.Ab.Vg
def mq (b:aG) (l:Int) (i k:Nat):List (Int × Int):=(idxs (at' b.nodes (i:Int)).links (fun x=>decide (x=l)) k).map fun z=>((i:Int),z)
def dx (b:aG) (l:Int) (i:Nat):List (Int × Int):=((List.range i).map fun j=>mq b l j (at' b.nodes (j:Int)).links.length).flatten
def bF (b:aG) (l:Int):List (Int × Int):=dx b l b.nodes.length
def jD (b:aG) (l:Int) (i:Nat):List a6:=((b.inner.take i).filter fun w=>decide (w.link=l)).map (·.name)
def uC (b:aG) (l:Int):List a6:=(b.inner.filter fun w=>decide (w.link=l)).map (·.name)
theorem en (b:aG) (l:Int) (i:Nat):dx b l (i+1)=dx b l i++mq b l i (at' b.nodes (i:Int)).links.length:=by simp[dx,List.range_succ]
theorem ln (b:aG) (l:Int) (i:Nat):mq b l i 0=[]:=rfl
theorem qg {b:aG} {l:Int} {i k:Nat} (h:at' (at' b.nodes (i:Int)).links (k:Int)=l):mq b l i (k+1)=mq b l i k++[((i:Int),(k:Int))]:=by
 rw[mq,lh _ _ (by simpa using h),List.map_append];rfl
theorem ta {b:aG} {l:Int} {i k:Nat} (h:¬ at' (at' b.nodes (i:Int)).links (k:Int)=l):mq b l i (k+1)=mq b l i k:=by
 rw[mq,oR _ _ (by simpa using h)];rfl
theorem ue (b:aG) (l:Int) (i k:Nat):(mq b l i k).length<=k:=by rw[mq,List.length_map];exact jw _ _ _
theorem fW {b:aG} {m:Nat} (h:∀ i,i<b.nodes.length->(at' b.nodes (i:Int)).links.length<=m) (l:Int):∀ i,i<=b.nodes.length->(dx b l i).length<=m * i
 | 0,_=>by simp[dx]
 | i+1,hi=>by
  rw[en,List.length_append];have h1:=fW h l i (by omega);have h2:=ue b l i (at' b.nodes (i:Int)).links.length;have h3:=h i (by omega);rw[Nat.mul_succ];omega
theorem eY {b:aG} {l:Int} {i:Nat} {p:Int × Int}:p ∈ dx b l i↔∃ j:Nat,j<i/\p.1=j/\0<=p.2/\p.2<(at' b.nodes (j:Int)).links.length/\at' (at' b.nodes (j:Int)).links p.2=l:=by
 simp only[dx,List.mem_flatten,List.mem_map,List.mem_range,mq]
 constructor
 ·rintro⟨_,⟨j,hj,rfl⟩,hp⟩;obtain⟨z,hz,rfl⟩:=List.mem_map.1 hp;have:=(zJ _ _).1 hz;exact⟨j,hj,rfl,this.1,this.2.1,by simpa using this.2.2⟩
 ·rintro⟨j,hj,h1,h2,h3,h4⟩;refine⟨_,⟨j,hj,rfl⟩,List.mem_map.2 ⟨p.2,(zJ _ _).2 ⟨h2,h3,by simpa using h4⟩,?_⟩⟩;exact Prod.ext h1.symm rfl
theorem kn {b:aG} (l:Int) {i:Nat} (h:i<b.inner.length):jD b l (i+1)=jD b l i++if b.inner[i].link=l then [b.inner[i].name] else []:=by
 rw[jD,List.take_succ_eq_append_getElem h,List.filter_append,List.map_append]
 congr 1
 by_cases hc:b.inner[i].link=l<;>simp[hc]
theorem pR (b:aG) (l:Int) (i:Nat):(jD b l i).length<=i:=by
 rw[jD,List.length_map];exact Nat.le_trans (List.length_filter_le _ _) (by simp;omega)
theorem pG (b:aG) (l:Int):jD b l b.inner.length=uC b l:=by simp[jD,uC]
abbrev lT (b:aG):Prop:=b.nodes.length<=1024/\(∀ i,i<b.nodes.length->(at' b.nodes (i:Int)).links.length<=1024)/\b.inner.length<=1048576
theorem cM.qa {sig:cP} {b:aG} (h:cM sig b):lT b:=by
 have h1:=h.len;have h2:=h.inner;exact⟨by omega,fun i hi=>by have:=h.kq (i:=i) (by omega);omega,by omega⟩
abbrev fP (b:aG) (_:Int):Prop:=lT b
abbrev hC (b:aG) (l:Int):=bF b l
def lQ (b:aG) (link:Int) (Z:(List (Int × Int))->Prop):Prop:=
 aI (σ:=Int × (List (Int × Int))) (fun (i14,l15) K19=>∀ len20:Int,len20=(b.nodes.length:Int)->∀ c22:Bool,c22=decide (i14<len20)->((c22=true->aI (σ:=Int × (List (Int × Int))) (fun (k31,l32) K36=>(0<=i14/\i14<b.nodes.length)/\∀ x38:ay,x38=at' b.nodes i14->∀ len40:Int,len40=(x38.links.length:Int)->∀ c42:Bool,c42=decide (k31<len40)->((c42=true->(0<=i14/\i14<b.nodes.length)/\∀ x45:ay,x45=at' b.nodes i14->(0<=k31/\k31<x38.links.length)/\∀ x49:Int,x49=at' x38.links k31->∀ c51:Bool,c51=decide (x49=link)->((c51=true->(l32.length+1<=1073741824)/\∀ l56:List (Int × Int),l56=l32++[(i14,k31)]->(bh (k31+1))/\∀ v66:Int,v66=k31+1->K36 (v66,l56))/\(c51=false->(bh (k31+1))/\∀ v69:Int,v69=k31+1->K36 (v69,l32))))/\(c42=false->(bh (i14+1))/\∀ v72:Int,v72=i14+1->K19 (v72,l32)))) (0,l15))/\(c22=false->Z l15))) (0,([]:List (Int × Int)))
theorem CN (b:aG) (l:Int) (h:fP b l):lQ b l (fun y=>y=hC b l):=by
 unfold lQ;obtain⟨h1,h2,h3⟩:=h;refine aI.mS b.nodes.length (fun i out=>out=dx b l i) [] rfl ?_;rintro i out K hi rfl IH;simp only[forall_eq,decide_eq_true_eq,decide_eq_false_iff_not];refine⟨fun hc=>?_,fun hc=>by rw[show i=b.nodes.length by omega];rfl⟩;have hi1:i<b.nodes.length:=by omega
 have hpl:=fW h2 l i (by omega);have hli:=h2 i hi1;refine aI.mS (at' b.nodes (i:Int)).links.length (fun k out=>out=dx b l i++mq b l i k) _ (by simp[ln]) ?_;rintro k out K2 hk rfl IH2;have hrl:=ue b l i k;dsimp only;refine⟨by omega,fun hc2=>⟨by omega,by omega,fun hc3=>⟨by simp;omega,by simp only[bh];omega,IH2 (by omega) _ ?_⟩,fun hc3=>⟨by simp only[bh];omega,IH2 (by omega) _ ?_⟩⟩,fun hc2=>⟨by simp only[bh];omega,IH hi1 _ ?_⟩⟩
 ·rw[List.append_assoc,qg hc3]
 ·rw[ta hc3]
 ·rw[show k=(at' b.nodes (i:Int)).links.length by omega,en]
abbrev pL (b:aG) (_:Int):Prop:=lT b
abbrev BQ (b:aG) (l:Int):=uC b l
def ou (b:aG) (link:Int) (Z:(List a6)->Prop):Prop:=
 aI (σ:=Int × (List a6)) (fun (i14,l15) K19=>∀ len20:Int,len20=(b.inner.length:Int)->∀ c22:Bool,c22=decide (i14<len20)->((c22=true->(0<=i14/\i14<b.inner.length)/\∀ x25:aD,x25=at' b.inner i14->∀ c27:Bool,c27=decide (x25.link=link)->((c27=true->(0<=i14/\i14<b.inner.length)/\∀ x30:aD,x30=at' b.inner i14->(l15.length+1<=1073741824)/\∀ l34:List a6,l34=l15++[x25.name]->(bh (i14+1))/\∀ v44:Int,v44=i14+1->K19 (v44,l34))/\(c27=false->(bh (i14+1))/\∀ v47:Int,v47=i14+1->K19 (v47,l15))))/\(c22=false->Z l15))) (0,([]:List a6))
theorem Er (b:aG) (l:Int) (h:pL b l):ou b l (fun y=>y=BQ b l):=by
 unfold ou;obtain⟨h1,h2,h3⟩:=h;refine aI.mS b.inner.length (fun i out=>out=jD b l i) [] (by simp[jD]) ?_;rintro i out K hi rfl IH;have hle:=pR b l i;simp only[forall_eq,decide_eq_true_eq,decide_eq_false_iff_not];refine⟨fun hc=>?_,fun hc=>by rw[show i=b.inner.length by omega,pG]⟩;have hi1:i<b.inner.length:=by omega
 rw[cK hi1];refine⟨by omega,fun hc3=>⟨by omega,by omega,by simp only[bh];omega,IH hi1 _ ?_⟩,fun hc3=>⟨by simp only[bh];omega,IH hi1 _ ?_⟩⟩
 ·rw[kn l hi1,if_pos hc3]
 ·rw[kn l hi1,if_neg hc3,List.append_nil]
abbrev ga (b:aG) (_:Int):Prop:=lT b
abbrev jS (b:aG) (l:Int):=(bF b l,uC b l)
def kk (b:aG) (link:Int) (Z:((List (Int × Int)) × (List a6))->Prop):Prop:=
 ∀ pM:Int,pM=(b.nodes.length:Int)->aI (σ:=Int × (List (Int × Int))) (fun (v20,l21) K26=>∀ c27:Bool,c27=decide (v20<pM)->((c27=true->(0<=v20/\v20<b.nodes.length)/\∀ x30:ay,x30=at' b.nodes v20->∀ len36:Int,len36=(x30.links.length:Int)->aI (σ:=Int × (List (Int × Int))) (fun (v47,l48) K53=>∀ c54:Bool,c54=decide (v47<len36)->((c54=true->(0<=v47/\v47<x30.links.length)/\∀ x57:Int,x57=at' x30.links v47->∀ c59:Bool,c59=decide (x57=link)->((c59=true->(l48.length+1<=1073741824)/\∀ l62:List (Int × Int),l62=l48++[(v20,v47)]->(bh (v47+1))/\∀ v73:Int,v73=v47+1->K53 (v73,l62))/\(c59=false->(bh (v47+1))/\∀ v76:Int,v76=v47+1->K53 (v76,l48))))/\(c54=false->(bh (v20+1))/\∀ v79:Int,v79=v20+1->K26 (v79,l48)))) (0,l21))/\(c27=false->∀ len81:Int,len81=(b.inner.length:Int)->aI (σ:=Int × (List a6)) (fun (v92,l93) K98=>∀ c99:Bool,c99=decide (v92<len81)->((c99=true->(0<=v92/\v92<b.inner.length)/\∀ x102:aD,x102=at' b.inner v92->∀ c108:Bool,c108=decide (x102.link=link)->((c108=true->(l93.length+1<=1073741824)/\∀ l111:List a6,l111=l93++[x102.name]->(bh (v92+1))/\∀ v122:Int,v122=v92+1->K98 (v122,l111))/\(c108=false->(bh (v92+1))/\∀ v125:Int,v125=v92+1->K98 (v125,l93))))/\(c99=false->Z (l21,l93)))) (0,([]:List a6))))) (0,([]:List (Int × Int)))
theorem A9 (b:aG) (l:Int) (h:ga b l):kk b l (fun y=>y=jS b l):=by
 unfold kk;obtain⟨h1,h2,h3⟩:=h;rintro _ rfl;refine aI.mS b.nodes.length (fun i out=>out=dx b l i) [] rfl ?_;rintro i out K hi rfl IH;simp only[forall_eq,decide_eq_true_eq,decide_eq_false_iff_not];refine⟨fun hc=>?_,fun hc=>?_⟩
 ·have hi1:i<b.nodes.length:=by omega
  have hpl:=fW h2 l i (by omega);have hli:=h2 i hi1;refine⟨by omega,aI.mS (at' b.nodes (i:Int)).links.length (fun k out=>out=dx b l i++mq b l i k) _ (by simp[ln]) ?_⟩;rintro k out K2 hk rfl IH2;have hrl:=ue b l i k;dsimp only;refine⟨fun hc2=>⟨by omega,fun hc3=>⟨by simp;omega,by simp only[bh];omega,IH2 (by omega) _ ?_⟩,fun hc3=>⟨by simp only[bh];omega,IH2 (by omega) _ ?_⟩⟩,fun hc2=>⟨by simp only[bh];omega,IH hi1 _ ?_⟩⟩
  ·rw[List.append_assoc,qg hc3]
  ·rw[ta hc3]
  ·rw[show k=(at' b.nodes (i:Int)).links.length by omega,en]
 ·rw[show i=b.nodes.length by omega];refine aI.mS b.inner.length (fun i out=>out=jD b l i) [] (by simp[jD]) ?_;rintro i out K hi rfl IH;have hle:=pR b l i;dsimp only;refine⟨fun hc=>?_,fun hc=>by rw[show i=b.inner.length by omega,pG];rfl⟩;have hi1:i<b.inner.length:=by omega
  rw[cK hi1];refine⟨by omega,fun hc3=>⟨by omega,by simp only[bh];omega,IH hi1 _ ?_⟩,fun hc3=>⟨by simp only[bh];omega,IH hi1 _ ?_⟩⟩
  ·rw[kn l hi1,if_pos hc3]
  ·rw[kn l hi1,if_neg hc3,List.append_nil]
abbrev pF (b:aG) (_:Int):Prop:=lT b
abbrev nZ (b:aG) (l:Int):Bool:=decide ((bF b l).length=0) && decide ((uC b l).length=0)
def oD (b:aG) (link:Int) (Z:Bool->Prop):Prop:=
 dI (fun (J4:Bool->Prop)=>(fP b link)/\∀ r11:List (Int × Int),r11=hC b link->∀ ej:Int,ej=(r11.length:Int)->∀ c14:Bool,c14=decide (ej=0)->((c14=true->(pL b link)/\∀ r17:List a6,r17=BQ b link->∀ len18:Int,len18=(r17.length:Int)->∀ c20:Bool,c20=decide (len18=0)->J4 (c20))/\(c14=false->J4 (false)))) (fun b7=>Z b7)
theorem Em (b:aG) (l:Int) (h:pF b l):oD b l (fun y=>y=nZ b l):=by
 unfold oD;refine⟨fun x=>x=nZ b l,?_,fun x h=>h⟩;simp only[forall_eq,decide_eq_true_eq,decide_eq_false_iff_not,nZ];refine⟨h,fun h1=>⟨h,?_⟩,fun h1=>?_⟩
 ·simp only[hC] at h1;simp[show (bF b l).length=0 by omega]
 ·simp only[hC] at h1;simp[show ¬ (bF b l).length=0 by omega]
abbrev pD (b:aG) (_:Int):Prop:=lT b
abbrev mM (b:aG) (l:Int):Bool:=nZ b l
def oU (b:aG) (link:Int) (Z:Bool->Prop):Prop:=
 (ga b link)/\∀ r5:(List (Int × Int)) × (List a6),r5=jS b link->∀ dd:Int,dd=(r5.1.length:Int)->∀ len8:Int,len8=(r5.2.length:Int)->(bh (dd+len8))/\∀ v11:Int,v11=dd+len8->∀ c13:Bool,c13=decide (v11=0)->Z c13
theorem FN (b:aG) (l:Int) (h:pD b l):oU b l (fun y=>y=mM b l):=by
 unfold oU;have h1:(bF b l).length<=1024 * 1024:=Nat.le_trans (fW h.2.1 l _ (Nat.le_refl _)) (by have:=h.1;omega);have h2:(uC b l).length<=1048576:=by rw[<- pG];have:=pR b l b.inner.length;have:=h.2.2;omega
 simp only[forall_eq];refine⟨h,by simp only[bh];omega,?_⟩;rw[mM,nZ,Bool.eq_iff_iff];simp only[decide_eq_true_eq,Bool.and_eq_true];omega
abbrev fR (b:aG):Bool:=decide (b.sites.length=0) && decide (b.inner.length=0)
abbrev kL (b:aG):Prop:=b.sites.length<=1048576/\b.inner.length<=1048576
def je (b:aG) (Z:Bool->Prop):Prop:=
 dI (fun (J4:Bool->Prop)=>∀ fX:Int,fX=(b.sites.length:Int)->∀ c12:Bool,c12=decide (fX=0)->((c12=true->∀ len14:Int,len14=(b.inner.length:Int)->∀ c16:Bool,c16=decide (len14=0)->J4 (c16))/\(c12=false->J4 (false)))) (fun b7=>Z b7)
theorem yy (b:aG) (h:kL b):je b (fun y=>y=fR b):=by
 unfold je;refine⟨fun x=>x=fR b,?_,fun x h=>h⟩;simp only[forall_eq,decide_eq_true_eq,decide_eq_false_iff_not,fR];refine⟨fun h1=>?_,fun h1=>?_⟩
 ·simp[show b.sites.length=0 by omega]
 ·simp[show ¬ b.sites.length=0 by omega]
def gA (sig:cP) (b:aG):Bool:=fQ sig b && fR b
abbrev pQ (sig:cP) (b:aG):Prop:=cv sig b
def oK (sig:List Control) (b:aG) (Z:Bool->Prop):Prop:=
 dI (fun (J4:Bool->Prop)=>(cv sig b)/\∀ r11:Bool,r11=fQ sig b->((r11=true->(kL b)/\∀ r13:Bool,r13=fR b->J4 (r13))/\(r11=false->J4 (false)))) (fun b7=>Z b7)
theorem Ec (sig:cP) (b:aG) (h:pQ sig b):oK sig b (fun y=>y=gA sig b):=by
 unfold oK;refine⟨fun x=>x=gA sig b,?_,fun x h=>h⟩;simp only[forall_eq];refine⟨h,fun h1=>⟨⟨h.sitesLen,h.innerLen⟩,by rw[gA,h1];rfl⟩,fun h1=>by rw[gA,h1];rfl⟩
abbrev wX (sig:cP) (b:aG):Bool:=gA sig b
abbrev nD (sig:cP) (b:aG):Prop:=cv sig b
def lP (sig:List Control) (b:aG) (Z:Bool->Prop):Prop:=
 dI (fun (J4:Bool->Prop)=>(cv sig b)/\∀ r11:Bool,r11=fQ sig b->((r11=true->∀ ej:Int,ej=(b.sites.length:Int)->∀ c14:Bool,c14=decide (ej=0)->((c14=true->∀ len16:Int,len16=(b.inner.length:Int)->∀ c18:Bool,c18=decide (len16=0)->J4 (c18))/\(c14=false->J4 (false))))/\(r11=false->J4 (false)))) (fun b7=>Z b7)
theorem C2 (sig:cP) (b:aG) (h:nD sig b):lP sig b (fun y=>y=wX sig b):=by
 unfold lP;refine⟨fun x=>x=gA sig b,?_,fun x h=>h⟩;simp only[forall_eq,decide_eq_true_eq,decide_eq_false_iff_not];refine⟨h,fun h1=>⟨fun h2=>?_,fun h2=>?_⟩,fun h1=>by rw[gA,h1];rfl⟩
 ·rw[gA,h1,fR];simp[show b.sites.length=0 by omega]
 ·rw[gA,h1,fR];simp[show ¬ b.sites.length=0 by omega]
def ko (b:aG) (p:Int):Prop:=¬ ((p<0/\((jG b p).length=0\/0<(j0 b p).length))\/1<(j0 b p).length)
def rz (b:aG):Prop:=b.inner.length=0/\b.roots ≠ 0/\(∀ p,-b.roots<=p->p<b.nodes.length->ko b p)/\∀ l,0<=l->l<b.edges+b.outer.length->mM b l=false
open Classical in
noncomputable def iA (b:aG):Bool:=decide (rz b)
theorem p9 {b:aG}:iA b=true↔rz b:=by simp[iA]
theorem gM {b:aG} (h:¬ rz b):iA b=false:=by simp[iA,h]
abbrev il (b:aG):Prop:=lT b/\b.sites.length<=1048576/\0<=b.roots/\b.roots<=1024/\0<=b.edges/\b.edges<=1024/\b.outer.length<=1024
noncomputable abbrev xY (b:aG):Bool:=iA b
def mE (b:aG) (Z:Bool->Prop):Prop:=
 dI (fun (J4:Bool->Prop)=>∀ len71:Int,len71=(b.inner.length:Int)->∀ c73:Bool,c73=decide (0<len71)->((c73=true->J4 (true))/\(c73=false->∀ c75:Bool,c75=decide (b.roots=0)->J4 (c75)))) (fun b7=>((b7=true->Z false)/\(b7=false->(bh (-b.roots))/\∀ v11:Int,v11 = -b.roots->aI (σ:=Int) (fun placeV15 K18=>∀ len19:Int,len19=(b.nodes.length:Int)->∀ c21:Bool,c21=decide (placeV15<len19)->((c21=true->(cg b placeV15)/\∀ r24:(List Int) × (List Int),r24=eX b placeV15->dI (fun (J25:Bool->Prop)=>∀ c34:Bool,c34=decide (placeV15<0)->((c34=true->∀ len36:Int,len36=(r24.1.length:Int)->∀ c38:Bool,c38=decide (len36=0)->((c38=true->J25 (true))/\(c38=false->∀ len40:Int,len40=(r24.2.length:Int)->∀ c42:Bool,c42=decide (0<len40)->((c42=true->J25 (true))/\(c42=false->∀ len44:Int,len44=(r24.2.length:Int)->∀ c47:Bool,c47=decide (1<len40)->J25 (c47))))))/\(c34=false->∀ len49:Int,len49=(r24.2.length:Int)->∀ c51:Bool,c51=decide (1<len49)->J25 (c51)))) (fun b28=>((b28=true->Z false)/\(b28=false->(bh (placeV15+1))/\∀ v32:Int,v32=placeV15+1->K18 (v32)))))/\(c21=false->∀ len53:Int,len53=(b.outer.length:Int)->(bh (b.edges+len53))/\∀ v56:Int,v56=b.edges+len53->aI (σ:=Int) (fun v60 K63=>∀ c64:Bool,c64=decide (v60<v56)->((c64=true->(pD b v60)/\∀ r67:Bool,r67=mM b v60->((r67=true->Z false)/\(r67=false->(bh (v60+1))/\∀ v69:Int,v69=v60+1->K63 (v69))))/\(c64=false->Z true))) (0)))) (v11))))
theorem Ca (b:aG) (h:il b):mE b (fun y=>y=xY b):=by
 unfold mE;obtain⟨hL,hs,hr0,hr1,he0,he1,ho⟩:=h;have hch:cg b 0:=⟨by have:=hL.1;omega,hs⟩
 have hL1:=hL.1;simp only[forall_eq,decide_eq_true_eq,decide_eq_false_iff_not];refine⟨fun c=>c=true↔¬ (b.inner.length=0/\b.roots ≠ 0),⟨fun h1=>iff_of_true rfl (by omega),fun h1=>by simp only[decide_eq_true_eq];omega⟩,fun c hc=>⟨fun h1=>(gM fun hR=>hc.1 h1 ⟨hR.1,hR.2.1⟩).symm,fun h1=>?_⟩⟩;have hc0:b.inner.length=0/\b.roots ≠ 0:=Classical.not_not.1 fun h=>by rw[hc.2 h] at h1;cases h1
 refine⟨by simp only[bh];omega,?_⟩;refine aI.byM (fun place => -b.roots<=place/\place<=b.nodes.length/\∀ p,-b.roots<=p->p<place->ko b p) (fun place=>(b.nodes.length - place).toNat) ⟨by omega,by omega,fun p h1 h2=>by omega⟩ ?_;rintro place ⟨hp1,hp2,hp3⟩;refine⟨fun h2=>⟨hch,fun c=>c=true↔¬ ko b place,?_,fun c hc=>⟨fun h3=>(gM fun hR=>hc.1 h3 (hR.2.2.1 place hp1 h2)).symm,fun h3=>⟨by simp only[bh];omega,⟨by omega,by omega,fun p h4 h5=>?_⟩,by omega⟩⟩⟩,fun h2=>?_⟩
 ·simp only[ko];refine⟨fun h3=>⟨fun h4=>?_,fun h4=>⟨fun h5=>?_,fun h5=>?_⟩⟩,fun h3=>?_⟩<;>simp only[decide_eq_true_eq,true_iff]<;>omega
 ·have hok:ko b place:=Classical.not_not.1 fun h=>by rw[hc.2 h] at h3;cases h3
  rcases Int.lt_or_le p place with h6 | h6
  ·exact hp3 p h4 h6
  ·rw[show p=place by omega];exact hok
 ·have hN:((b.edges+b.outer.length).toNat:Int)=b.edges+b.outer.length:=by omega
  refine⟨by simp only[bh];omega,aI.Bi (b.edges+b.outer.length).toNat (fun k=>∀ l,0<=l->l<(k:Int)->mM b l=false) (fun l h1 h2=>by omega) ?_⟩;rintro k K hk hI IH;refine⟨fun h3=>⟨hL,fun h4=>(gM fun hR=>?_).symm,fun h4=>⟨by simp only[bh];omega,IH (by omega) fun l h5 h6=>?_⟩⟩,fun h3=>?_⟩
  ·have:=hR.2.2.2 k (by omega) h3;rw[h4] at this;cases this
  ·rcases Int.lt_or_le l k with h7 | h7
   ·exact hI l h5 h7
   ·rw[show l=k by omega];exact h4
  ·exact (p9.2 ⟨hc0.1,hc0.2,fun p h4 h5=>hp3 p h4 (by omega),fun l h4 h5=>hI l h4 (by omega)⟩).symm
abbrev nv (b:aG):Prop:=il b
noncomputable abbrev xZ (b:aG):Bool:=iA b
def ml (b:aG) (Z:Bool->Prop):Prop:=
 dI (fun (J4:Bool->Prop)=>∀ len83:Int,len83=(b.inner.length:Int)->∀ c85:Bool,c85=decide (0<len83)->((c85=true->J4 (true))/\(c85=false->∀ c87:Bool,c87=decide (b.roots=0)->J4 (c87)))) (fun b7=>((b7=true->Z false)/\(b7=false->aI (σ:=Int) (fun r12 K15=>∀ c16:Bool,c16=decide (r12<b.roots)->((c16=true->dI (fun (J18:Bool->Prop)=>(bh ((-1) - r12))/\∀ v28:Int,v28=(-1) - r12->(eS b v28)/\∀ r31:List Int,r31=rF b v28->∀ len32:Int,len32=(r31.length:Int)->∀ c34:Bool,c34=decide (len32=0)->((c34=true->J18 (true))/\(c34=false->(bh ((-1) - r12))/\∀ v37:Int,v37=(-1) - r12->(eV b v28)/\∀ r41:List Int,r41=l8 b v28->∀ len42:Int,len42=(r41.length:Int)->∀ c44:Bool,c44=decide (0<len42)->J18 (c44)))) (fun b21=>((b21=true->Z false)/\(b21=false->(bh (r12+1))/\∀ v25:Int,v25=r12+1->K15 (v25)))))/\(c16=false->aI (σ:=Int) (fun i48 K51=>∀ len52:Int,len52=(b.nodes.length:Int)->∀ c54:Bool,c54=decide (i48<len52)->((c54=true->(eV b i48)/\∀ r57:List Int,r57=l8 b i48->∀ len58:Int,len58=(r57.length:Int)->∀ c60:Bool,c60=decide (1<len58)->((c60=true->Z false)/\(c60=false->(bh (i48+1))/\∀ v63:Int,v63=i48+1->K51 (v63))))/\(c54=false->aI (σ:=Int) (fun link67 K70=>∀ len71:Int,len71=(b.outer.length:Int)->(bh (b.edges+len71))/\∀ v74:Int,v74=b.edges+len71->∀ c76:Bool,c76=decide (link67<v74)->((c76=true->(pF b link67)/\∀ r79:Bool,r79=nZ b link67->((r79=true->Z false)/\(r79=false->(bh (link67+1))/\∀ v81:Int,v81=link67+1->K70 (v81))))/\(c76=false->Z true))) (0)))) (0)))) (0))))
theorem BF (b:aG) (h:nv b):ml b (fun y=>y=xZ b):=by
 unfold ml;obtain⟨hL,hs,hr0,hr1,he0,he1,ho⟩:=h;have hL1:=hL.1;have hk1:eS b 0:=by simp only[eS];omega
 simp only[forall_eq,decide_eq_true_eq,decide_eq_false_iff_not,rF,l8];refine⟨fun c=>c=true↔¬ (b.inner.length=0/\b.roots ≠ 0),⟨fun h1=>iff_of_true rfl (by omega),fun h1=>by simp only[decide_eq_true_eq];omega⟩,fun c hc=>⟨fun h1=>(gM fun hR=>hc.1 h1 ⟨hR.1,hR.2.1⟩).symm,fun h1=>?_⟩⟩;have hc0:b.inner.length=0/\b.roots ≠ 0:=Classical.not_not.1 fun h=>by rw[hc.2 h] at h1;cases h1
 have hR0:(b.roots.toNat:Int)=b.roots:=by omega
 refine aI.Bi b.roots.toNat (fun k=>∀ r,0<=r->r<(k:Int)->(jG b (-1 - r)).length ≠ 0/\(j0 b (-1 - r)).length=0) (fun l h1 h2=>by omega) ?_;rintro k K hk hI IH;refine⟨fun h2=>⟨fun c=>c=true↔¬ ((jG b (-1 - (k:Int))).length ≠ 0/\(j0 b (-1 - (k:Int))).length=0),⟨by simp only[bh];omega,hk1,fun h3=>iff_of_true rfl (by omega),fun h3=>⟨by simp only[bh];omega,hs,by simp only[decide_eq_true_eq];omega⟩⟩,fun c hc=>⟨fun h3=>(gM fun hR=>?_).symm,fun h3=>⟨by simp only[bh];omega,IH (by omega) fun r h4 h5=>?_⟩⟩⟩,fun h2=>?_⟩
 ·have:=hR.2.2.1 (-1 - (k:Int)) (by omega) (by omega);have h4:=hc.1 h3;simp only[ko] at this;omega
 ·rcases Int.lt_or_le r k with h6 | h6
  ·exact hI r h4 h6
  ·rw[show r=k by omega];exact Classical.not_not.1 fun h=>by rw[hc.2 h] at h3;cases h3
 refine aI.Bi b.nodes.length (fun k=>∀ i,0<=i->i<(k:Int)->¬ 1<(j0 b i).length) (fun l h1 h2=>by omega) ?_;rintro q K2 hq hI2 IH2;refine⟨fun h3=>⟨hs,fun h4=>(gM fun hR=>?_).symm,fun h4=>⟨by simp only[bh];omega,IH2 (by omega) fun i h5 h6=>?_⟩⟩,fun h3=>?_⟩
 ·have:=hR.2.2.1 q (by omega) h3;simp only[ko] at this;omega
 ·rcases Int.lt_or_le i q with h7 | h7
  ·exact hI2 i h5 h7
  ·rw[show i=q by omega];omega
 have hN:((b.edges+b.outer.length).toNat:Int)=b.edges+b.outer.length:=by omega
 refine aI.Bi (b.edges+b.outer.length).toNat (fun k=>∀ l,0<=l->l<(k:Int)->mM b l=false) (fun l h1 h2=>by omega) ?_;rintro z K3 hz hI3 IH3;refine⟨by simp only[bh];omega,fun h4=>⟨hL,fun h5=>(gM fun hR=>?_).symm,fun h5=>⟨by simp only[bh];omega,IH3 (by omega) fun l h6 h7=>?_⟩⟩,fun h4=>?_⟩
 ·have:=hR.2.2.2 z (by omega) h4;simp only[mM] at this;rw[h5] at this;cases this
 ·rcases Int.lt_or_le l z with h8 | h8
  ·exact hI3 l h6 h8
  ·rw[show l=z by omega];exact h5
 ·refine (p9.2 ⟨hc0.1,hc0.2,fun p h5 h6=>?_,fun l h5 h6=>hI3 l h5 (by omega)⟩).symm;simp only[ko];rcases Int.lt_or_le p 0 with h7 | h7
  ·have:=hI (-1 - p) (by omega) (by omega);rw[show -1 - (-1 - p)=p by omega] at this;omega
  ·have:=hI2 p h7 (by omega);omega
end Go.Ab.Vg
namespace Go.Ab
section
variable {P:Program} {N:Nat} {Ty:Types} {O:Env} {H:ax} {n:Nat}
variable {d:Option Tmp} {ty:TypeId} {pos:String} {af:Array Edge} {gu:Option (Nat × Bool)}
theorem wh {a:Act} {w w':World} {s x:Operand} {t t':TypeId} {u:Value} (h:(Builtin.copy_ #[t,t'] ty #[a.eval s,a.eval x]).run P w = .ok u w') :
  (execOp a.eval ⟨d,.call ⟨.builtin .copy,#[s,x],#[t,t']⟩,ty,pos,af,gu⟩).run P w = .ok (.value u) w':=by
 simp only[execOp,resolve,invoke,builtin,Sem.run_bind,Sem.run_pure,Result.andThen_ok,List.map_toArray,List.map_cons,List.map_nil,h]
def copied (es new:List (List au)) (off len:Nat):List (List au):=es.take off++new.take (min new.length len)++es.drop (off+min new.length len)
theorem tN {es new:List (List au)} {off len:Nat} (h:off+len<=es.length):(copied es new off len).length=es.length:=by simp[copied];omega
theorem aW.IZ (hT:bg P Ty) {t t':TypeId} {dst src:Operand} {j:TI} {id:Id} {g0 off len:Nat} {o:Ob} {els:List (List au)} (hk:kd Ty t = .slice j) (hj:j.size=1) (hd:O.ev dst = .arr id g0 off len) (hl:live H id g0=some o) (ho:o.size=1)
  (hs:cb H (O.ev src)=some els) (hes:els.all (·.length == 1)=true) (h1:els.all (fun e=>e.all aH)=true) :
  aW P N ⟨d,.call ⟨.builtin .copy,#[dst,src],#[t,t']⟩,ty,pos,af,gu⟩ O H n fun v1 H1 U=>v1=int (min els.length len:Nat)/\H1=H.set id ⟨1,copied o.els els off len⟩/\U=n:=by
 refine aW.ft fun c a hH hn g r=>?_
 subst hH;obtain⟨i,e,hi,hde,hje⟩:=dL hk;obtain⟨hu,_⟩:=hT t i hi;rw[hde] at hu;obtain⟨_,info,zv,hinfo,his,_,_,_⟩:=hT e j hje;have hs1:(P.info? e).map (·.size)=some 1:=by rw[hinfo];simp[his,hj]
 have rs:=r.ev dst;rw[hd] at rs;obtain⟨l1,l2⟩:=eb hl;have rx:=nL g (r.ev src) hs hes;generalize hsv:a.eval dst=sv at rs;generalize hxv:a.eval src=xv at rx;cases rs with
 | arr _ _ _ _ _ hone hn0 hg hp=>
 obtain⟨p1,ad,cap,rfl,hab,hsp,hlc,dE,hcl⟩:=hp o l1 l2;obtain⟨ab,ao,asp⟩:=ad;simp only at hab hsp dE;subst hab hsp;obtain⟨hB,cl,el,E,hsz,hel⟩:=g.obj id o l1;rw[ho] at hsz dE;have hsame:min els.length len=0->c.H.set id ⟨1,copied o.els els off len⟩=c.H:=fun h0=>by
  funext q
  by_cases hq:q=id
  ·subst hq;rw[ax.bS,l1];have:copied o.els els off len=o.els:=by simp[copied,h0]
   rw[this,<- ho]
  ·exact ax.aY _ _ hq
 by_cases hm:min els.length len=0
 ·have hrun:(Builtin.copy_ #[t,t'] ty #[a.eval dst,a.eval src]).run P c.w = .ok (goInt 0) c.w:=by
   rw[hsv,hxv];rcases rx with ⟨rfl,rfl⟩ | ⟨a2,cap2,news,rfl,_⟩
   ·exact run_copy_nil P c.w t t' ty e _ len cap hu (by rw[hs1];rfl)
   ·exact run_copy_none c.w t t' ty e _ _ len cap els.length cap2 hu hs1 hm
  exact⟨_,_,c,wh hrun,⟨by rw[hm];rfl,(hsame hm).symm,hn⟩,.v _,g,bG.refl c⟩
 ·rcases rx with ⟨rfl,rfl⟩ | ⟨a2,cap2,news,rfl,hnl,hnc,hnr⟩
  ·simp at hm
  have hao:ao=off:=by
   rcases dE with h | h
   ·omega
   ·omega
  subst hao;have hog:o.els.length=g0:=l2;have hml:(news.take (min els.length len)).length=min els.length len:=by rw[List.length_take,hnl];omega
  have hone':∀ v ∈ news.take (min els.length len),v.oneCell'=true:=fun v hv=>GQ h1 hnl hnr v (List.mem_of_mem_take hv)
  have hfit:ao+(news.take (min els.length len)).length<=cl.size:=by rw[hml];omega
  have hrun:(Builtin.copy_ #[t,t'] ty #[a.eval dst,a.eval src]).run P c.w = .ok (goInt (news.take (min els.length len)).length) (c.w.setRow (c.β id) (cl.toList.take ao++news.take (min els.length len)++cl.toList.drop (ao+(news.take (min els.length len)).length)).toArray):=by
   rw[hsv,hxv];exact run_copy_row P c.w t t' ty e (c.β id) ao len cap a2 els.length cap2 cl el _ hu hs1 E hml (fun j v hj=>hnc j v (by
    rw[List.getElem?_take] at hj
    split at hj
    ·exact hj
    ·cases hj)) hfit hone'
  have hov:(cl.toList.take ao++news.take (min els.length len)++cl.toList.drop (ao+(news.take (min els.length len)).length)).toArray=over cl ao (news.take (min els.length len)):=rfl;rw[hov] at hrun;have hup:=lz g l1 ⟨1,copied o.els els ao len⟩ (c.w.setRow (c.β id) (over cl ao (news.take (min els.length len)))) cl (over cl ao (news.take (min els.length len))) el el ⟨rfl,rfl,rfl⟩ (by simp[World.setRow]) E (fun k hk=>setRow_other c.w _ k _ hk) (setRow_heap c.w _ cl _ el _ E)
   (by rw[jn hfit];exact Nat.le_refl _) ho (by rw[tN (by omega)];exact Nat.le_refl _) ⟨?_,?_⟩
  ·exact⟨int (min els.length len:Nat),goInt (news.take (min els.length len)).length,{ c with H:=c.H.set id ⟨1,copied o.els els ao len⟩,w:=c.w.setRow (c.β id) (over cl ao (news.take (min els.length len))) },wh hrun,⟨rfl,rfl,hn⟩,by rw[hml];exact .v _,hup.2,hup.1⟩
  ·rw[jn hfit,tN (by omega)];simpa using hsz
  ·intro q e' he;simp only[copied] at he;have hcell:∀ (x:List au),o.els[q]?=some x->¬ (ao<=q/\q<ao+min els.length len)->x.length=1/\∀ (j:Nat) (y:au),x[j]?=some y->∃ z,(over cl ao (news.take (min els.length len)))[q * 1+j]?=some z/\cn c y z:=fun x hx hnot=>by
    obtain⟨h2,h3⟩:=hel q x hx;rw[ho] at h2 h3;refine⟨h2,fun j y hy=>?_⟩;have hj0:j=0:=by have:=(List.getElem?_eq_some_iff.1 hy).1;omega
    subst hj0;have h4:=h3 0 y hy
    rwa [la hfit,hml,if_neg (by omega)]
   by_cases c1:q<ao
   ·rw[List.append_assoc,List.getElem?_append_left (by simp;omega),List.getElem?_take,if_pos c1] at he;exact hcell e' he (by omega)
   ·by_cases c2:q<ao+min els.length len
    ·rw[List.append_assoc,List.getElem?_append_right (by simp;omega),List.getElem?_append_left (by simp;omega),List.getElem?_take] at he;have hmin:min ao o.els.length=ao:=by omega
     simp only[List.length_take,hmin] at he;rw[if_pos (by omega)] at he;obtain⟨h2,h3⟩:=hnr _ e' he;refine⟨h2,fun j y hy=>?_⟩;have hj0:j=0:=by have:=(List.getElem?_eq_some_iff.1 hy).1;omega
     subst hj0;obtain⟨z,hz,hrep⟩:=h3 0 y hy;refine⟨z,?_,hrep⟩;show (over cl ao (news.take (min els.length len)))[q * 1+0]?=some z;rw[la hfit,hml,if_pos (by omega),List.getElem?_take,if_pos (by omega)];rw[<- hz];congr 1;omega
    ·rw[List.getElem?_append_right (by simp;omega)] at he;have hmin:min ao o.els.length=ao:=by omega
     have hmin2:min (min els.length len) els.length=min els.length len:=by omega
     simp only[List.length_append,List.length_take,hmin,hmin2,List.getElem?_drop] at he;rw[show ao+min els.length len+(q - (ao+min els.length len))=q by omega] at he;exact hcell e' he (by omega)
theorem aW.copy1' (hT:bg P Ty) {t t':TypeId} {dst src:Operand} {j:TI} {id:Id} {g0 off len m:Nat} {o:Ob} {els es':List (List au)} (hk:kd Ty t = .slice j) (hj:j.size=1) (hd:O.ev dst = .arr id g0 off len) (hl:live H id g0=some o) (ho:o.size=1)
  (hs:cb H (O.ev src)=some els) (hes:els.all (·.length == 1)=true) (h1:els.all (fun e=>e.all aH)=true) (hm:min els.length len=m) (he:copied o.els els off len=es') :
  aW P N ⟨d,.call ⟨.builtin .copy,#[dst,src],#[t,t']⟩,ty,pos,af,gu⟩ O H n (xm (int m) (H.set id ⟨1,es'⟩) n):=by
 subst hm he;exact aW.IZ hT hk hj hd hl ho hs hes h1
end
end Go.Ab
namespace Go.Ab.Vg
open Go.Proofs
theorem rep_vs (c:Ctx) (vs:List Value):cn c (.tup (vs.map au.v)) (.tuple vs.toArray):=.tup _ _ (by simp) fun i a x ha hx=>by
 rw[List.getElem?_map] at ha;rw[hx] at ha;simp only[Option.map_some,Option.some.injEq] at ha;exact ha ▸ .v x
theorem e194:a8 prog 194:=a8.of func194 (by kernel_rfl) rfl
theorem e154:a8 prog 154:=a8.of func154 (by kernel_rfl) rfl
theorem Bj (x y:Nat) (hx:x<18446744073709551616) (hy:y<18446744073709551616):aF prog 194 [.v (.int .u64 x),.v (.int .u64 y)] (fun r=>r = .tup [.v (.int .u64 ((x * y / 18446744073709551616:Nat):Int)),.v (.int .u64 ((x * y % 18446744073709551616:Nat):Int))]):=by
 refine aF.AZ fun c xs _ r=>?_
 obtain⟨a,b,rfl,ha,hb⟩:=r.two2;rw[ha.cd,hb.cd];refine (Tryz.bits_Mul x y hx hy c.w).mono ?_;rintro e w' ⟨he,rfl⟩;exact⟨_,_,he,rfl,.tup _ (by simp),fun c'=>rep_vs c' [.int .u64 ((x * y / 18446744073709551616:Nat):Int),.int .u64 ((x * y % 18446744073709551616:Nat):Int)],Go.RowKit.Below.refl _ _⟩
def tf (l:List Int) (n:Int):List Int:=List.replicate n.toNat (l.headD 0)
abbrev sA (l:List Int) (n:Int):Prop:=l.length=1/\0<=n/\n<=1048576
theorem Cq {v:Int} {N m:Nat} (hm:m<=N):copied ((List.replicate m v++List.replicate (N - m) (0:Int)).map aA) ((List.replicate m v).map aA) m (N - m)=(List.replicate (m+min m (N - m)) v++List.replicate (N - (m+min m (N - m))) (0:Int)).map aA:=by
 simp only[copied,List.length_map,List.length_replicate,<- List.map_take,<- List.map_drop,<- List.map_append]
 congr 1
 refine List.ext_getElem (by simp;omega) fun i h1 h2=>?_
 simp only[List.getElem_append,List.getElem_take,List.getElem_drop,List.getElem_replicate,List.length_append,List.length_take,List.length_replicate]
 repeat' split
 all_goals first | rfl | omega
theorem D0 (v n:Int) (h:0<=n/\n<=1048576):bn prog 154 [.list false ([v].map aA),int n] (.s [.c]) (fun r=>r = .list true ((List.replicate n.toNat v).map aA)):=by
 obtain⟨N,rfl⟩:∃ N:Nat,n=N:=⟨n.toNat,by omega⟩
 refine bn.of func154 rfl ntmps154 (by simp) fun Q hQ=>?_
 refine zE fun _ V=>?_
 simp;apply V;refine zS fun _ V=>?_
 simp;apply V;refine J.ite rfl (fun hc1=>?_) (fun hc1=>?_)
 ·simp at hc1;omega
 clear hc1 V;apply J.skip;refine zE fun _ V=>?_
 simp;have hw:IntKind.u64.wrap (N:Int)=N:=by simp[IntKind.wrap,IntKind.bits,IntKind.signed];omega
 have hw1:IntKind.u64.wrap 1=1:=by simp[IntKind.wrap,IntKind.bits,IntKind.signed]
 have hwi:IntKind.i64.wrap (N:Int)=N:=wrap64 (by omega) (by omega);refine zA (Bj 1 N (by omega) (by omega)) e194 (.cons (.v _ _ _) (.cons (.v _ _ _) .nil)) (by simp[hw,hw1]) ?_;rintro _ rfl;have hd:(N:Int) / 18446744073709551616=0:=by omega
 have hm:(N:Int) % 18446744073709551616=N:=by omega
 simp[hd,hm];apply V;refine zS fun _ V=>?_
 simp;apply V;refine J.ite rfl (fun hc1=>?_) (fun hc1=>?_)
 ·simp at hc1;omega
 clear hc1 V hw1 hd hm;apply J.skip;refine zE fun _ V=>?_
 simp[hwi,show (N:Int)<=1073741824 by omega];apply V;refine J.cut (fun O H n=>O 0 = .list false [aA v]/\O 7 = .arr (0,30) N 0 N/\H (0,30)=some ⟨1,(List.replicate N (0:Int)).map aA⟩/\n=1) (by simp[aA]) ?_;clear V hw hwi;rintro O H _ ⟨h0,h7,hH,rfl⟩;refine zE fun _ V=>?_
 simp[h0,h7];refine bX.op aB (by decide) (by decide) rfl (aW.IZ (id:=(0,30)) (g0:=N) (off:=0) (len:=N) (o:=⟨1,(List.replicate N (0:Int)).map aA⟩) (els:=[v].map aA) aB aV rfl (by simp[h7]) (by simp[live,hH]) rfl (by simp[cb,h0]) (by simp[aA]) (by simp[aA])) ?_;rintro _ H' n' ⟨rfl,rfl,rfl⟩;simp;apply V;refine J.cut (fun O H n=>∃ m:Nat,O 7 = .arr (0,30) N 0 N/\O 8=int m/\m<=N/\(m=0->N=0)/\H (0,30)=some ⟨1,(List.replicate m v++List.replicate (N - m) (0:Int)).map aA⟩/\n=1) ⟨min 1 N,by simp[h7],by simp,by omega,by omega,?_,rfl⟩ ?_
 ·have hc:copied (List.replicate N (aA 0)) [aA v] 0 N=(List.replicate (min 1 N) v++List.replicate (N - min 1 N) (0:Int)).map aA:=by
   rcases Nat.eq_zero_or_pos N with h1 | h1
   ·subst h1;simp[copied]
   ·rw[show min 1 N=1 by omega];simp[copied,show min 1 N=1 by omega]
  simp[hc]
 clear V h0 h7 hH;rintro O H _ ⟨m,h7,h8,hm,hm0,hH,rfl⟩;apply J.seq;refine J.block (J.GY (fun q O H n=>∃ m:Nat,q=N - m/\O 7 = .arr (0,30) N 0 N/\O 8=int m/\m<=N/\(m=0->N=0)/\H (0,30)=some ⟨1,(List.replicate m v++List.replicate (N - m) (0:Int)).map aA⟩/\n=1) (N - m) ⟨m,rfl,h7,h8,hm,hm0,hH,rfl⟩ ?_);clear h7 h8 hm hm0 hH;rintro q O H _ ⟨m,rfl,h7,h8,hm,hm0,hH,rfl⟩ IH;refine zS fun _ V=>?_
 have hlen:((List.replicate m v++List.replicate (N - m) (0:Int)).map aA).length=N:=by simp;omega
 generalize hels:(List.replicate m v++List.replicate (N - m) (0:Int)).map aA=els at hH hlen;simp[h7,h8,live,hH,hlen];apply V;refine J.ite rfl (fun hc1=>?_) (fun hc1=>?_)
 ·have hc1:m<N:=by simpa using hc1
  apply J.skip;apply J.block;refine J.pZ aB aP bZ (by decide) (by kernel_rfl) fun _ V=>?_
  simp[h7,h8,live,hH,hlen,hm];have hmm:((m:Int)+(min m (N - m):Nat))=((m+min m (N - m):Nat):Int):=by omega
  refine bN.op aB aP (v:=int (min m (N - m):Nat)) (H':=H.set (0,30) ⟨1,(List.replicate (m+min m (N - m)) v++List.replicate (N - (m+min m (N - m))) (0:Int)).map aA⟩) (n':=1) rfl (by decide) (fun h=>by cases h) ?_ ?_
  ·have e2:=Cq (v:=v) (N:=N) (m:=m) hm;rw[hels] at e2;exact aW.copy1' (id:=(0,30)) (g0:=N) (off:=m) (len:=N - m) (o:=⟨1,els⟩) (els:=(List.replicate m v).map aA) aB aV rfl (by rw[fL (by simp[Op.operands,Call.operands])];simp) (by simp[live,hH,hlen]) rfl
    (by rw[fL (by simp[Op.operands,Call.operands])];simp[cb,live,hH,<- hels,List.take_append,show m+(N - m)=N by omega]) (by simp[aA]) (by simp[aA]) (by simp) e2
  have hwr:IntKind.i64.wrap ((m:Int)+(min m (N - m):Nat))=((m+min m (N - m):Nat):Int):=by rw[hmm];exact wrap64 (by omega) (by omega)
  have hz1:0<min m (N - m):=by omega
  have hz2:m+min m (N - m)<=N:=by omega
  generalize hq:m+min m (N - m)=q at hwr hz2;generalize min m (N - m)=z at hq hwr hz1;simp[hwr];apply V;apply J.inBlock;exact IH (N - q) _ _ _ (by omega) ⟨q,rfl,by simp[h7],by simp,hz2,by omega,by simp,rfl⟩
 ·have hc1:¬ m<N:=by simpa using hc1
  refine J.exit rfl ?_;refine zE fun _ V=>?_
  simp[h7];apply V;have hmN:m=N:=by omega
  subst hmN;simp at hels;exact J.bj (v:=.arr (0,30) m 0 m) func154 results154 (by simp) (hQ _ _ _ _ (Sep.ofArr (els:=els) (by simp) hH hlen (by simp) (by simp) (by simp[<- hels,aA]) (by simp)) (by simp[<- hels]))
theorem CK (l:List Int) (n:Int) (h:sA l n):bn prog 154 [.list false (l.map aA),int n] (.s [.c]) (fun r=>r = .list true ((tf l n).map aA)):=by
 obtain⟨h1,h2⟩:=h
 match l,h1 with
 | [v],_=>exact D0 v n h2
end Go.Ab.Vg
namespace Go.Ab.Vg
def lg (l:List Int) (x:Int):Bool:=l.any fun y=>x == y
theorem fB {l:List Int} {x:Int}:lg l x=true↔x ∈ l:=by simp[lg]
theorem qf {l:List Int} {x:Int}:lg l x=false↔x ∉ l:=by rw[<- fB];simp
def iH (b:aG) (nodes:List Int):Nat->Int->Bool
 | 0,_=>false
 | m+1,p=>if p<0 then false else if p ∈ nodes then true else iH b nodes m (at' b.nodes p).parent
def cZ (b:aG) (nodes:List Int) (p:Int):Bool:=iH b nodes (p+1).toNat p
theorem sb {b:aG} (hd:∀ i:Int,0<=i->i<b.nodes.length->(at' b.nodes i).parent<i) (nodes:List Int):∀ (m m':Nat) (p:Int),p<b.nodes.length->p+1<=m->p+1<=m'->iH b nodes m p=iH b nodes m' p
 | 0,0,_,_,_,_=>rfl
 | 0,m'+1,p,_,h,_=>by rw[iH,iH,if_pos (by omega)]
 | m+1,0,p,_,_,h=>by rw[iH,iH,if_pos (by omega)]
 | m+1,m'+1,p,h,h1,h2=>by
  rw[iH,iH]
  split
  ·rfl
  ·split
   ·rfl
   ·have:=hd p (by omega) h;exact sb hd nodes m m' _ (by omega) (by omega) (by omega)
theorem tP {b:aG} {nodes:List Int} {p:Int} (h:p<0):cZ b nodes p=false:=by
 rw[cZ,show (p+1).toNat=0 by omega];rfl
theorem rD {b:aG} {nodes:List Int} {p:Int} (h:0<=p) (hm:p ∈ nodes):cZ b nodes p=true:=by
 rw[cZ,show (p+1).toNat=p.toNat+1 by omega,iH,if_neg (by omega),if_pos hm]
theorem q7 {b:aG} (hd:∀ i:Int,0<=i->i<b.nodes.length->(at' b.nodes i).parent<i) {nodes:List Int} {p:Int} (h:0<=p) (hl:p<b.nodes.length) (hm:p ∉ nodes):cZ b nodes p=cZ b nodes (at' b.nodes p).parent:=by
 have:=hd p h hl;rw[cZ,show (p+1).toNat=p.toNat+1 by omega,iH,if_neg (by omega),if_neg hm,cZ];exact sb hd nodes _ _ _ (by omega) (by omega) (by omega)
abbrev pj (b:aG):Prop:=b.nodes.length<=1048576/\∀ i:Int,0<=i->i<b.nodes.length->(at' b.nodes i).parent<i
theorem cM.qR {sig:cP} {b:aG} (h:cM sig b):pj b:=⟨by have:=h.len;omega,fun i h0 h1=>(h.zQ ⟨h0,h1⟩).2⟩
abbrev iv (b:aG) (p:Int) (nodes:List Int):Prop:=pj b/\p<b.nodes.length/\nodes.length<=1048576
abbrev lV (b:aG) (p:Int) (nodes:List Int):Bool:=cZ b nodes p
def mz (b:aG) (place:Int) (nodes:List Int) (Z:Bool->Prop):Prop:=
 aI (σ:=Int) (fun placeV6 K9=>∀ c10:Bool,c10=decide (0<=placeV6)->((c10=true->(nodes.length<=1048576)/\∀ r13:Bool,r13=lg nodes placeV6->((r13=true->Z true)/\(r13=false->(0<=placeV6/\placeV6<b.nodes.length)/\∀ x15:ay,x15=at' b.nodes placeV6->K9 (x15.parent))))/\(c10=false->Z false))) (place)
theorem Ct (b:aG) (p:Int) (nodes:List Int) (h:iv b p nodes):mz b p nodes (fun y=>y=lV b p nodes):=by
 unfold mz;obtain⟨⟨hn,hd⟩,hp,hl⟩:=h;simp only[forall_eq,decide_eq_true_eq,decide_eq_false_iff_not];refine aI.byM (fun q=>q<b.nodes.length/\cZ b nodes q=cZ b nodes p) (fun q=>(q+1).toNat) ⟨hp,rfl⟩ ?_;rintro q ⟨h1,h2⟩;refine⟨fun h3=>⟨hl,fun h4=>?_,fun h4=>⟨⟨h3,h1⟩,⟨?_,?_⟩,?_⟩⟩,fun h3=>?_⟩
 ·rw[lV,<- h2,rD h3 (fB.1 h4)]
 ·have:=hd q h3 h1;omega
 ·rw[<- h2,q7 hd h3 h1 (qf.1 h4)]
 ·have:=hd q h3 h1;omega
 ·rw[lV,<- h2,tP (by omega)]
abbrev gh (b:aG) (m:Match) (p:Int):Prop:=pj b/\p<b.nodes.length/\m.nodes.length<=1048576
abbrev fE (b:aG) (m:Match) (p:Int):Bool:=cZ b m.nodes p
def ka (I:aG) (m:Match) (place:Int) (Z:Bool->Prop):Prop:=
 aI (σ:=Int) (fun placeV7 K10=>∀ c11:Bool,c11=decide (0<=placeV7)->((c11=true->(m.nodes.length<=1048576)/\∀ r14:Bool,r14=lg m.nodes placeV7->((r14=true->Z true)/\(r14=false->(0<=placeV7/\placeV7<I.nodes.length)/\∀ x16:ay,x16=at' I.nodes placeV7->K10 (x16.parent))))/\(c11=false->Z false))) (place)
theorem Ar (b:aG) (m:Match) (p:Int) (h:gh b m p):ka b m p (fun y=>y=fE b m p):=by
 unfold ka;obtain⟨⟨hn,hd⟩,hp,hl⟩:=h;simp only[forall_eq,decide_eq_true_eq,decide_eq_false_iff_not];refine aI.byM (fun q=>q<b.nodes.length/\cZ b m.nodes q=cZ b m.nodes p) (fun q=>(q+1).toNat) ⟨hp,rfl⟩ ?_;rintro q ⟨h1,h2⟩;refine⟨fun h3=>⟨hl,fun h4=>?_,fun h4=>⟨⟨h3,h1⟩,⟨?_,?_⟩,?_⟩⟩,fun h3=>?_⟩
 ·rw[fE,<- h2,rD h3 (fB.1 h4)]
 ·have:=hd q h3 h1;omega
 ·rw[<- h2,q7 hd h3 h1 (qf.1 h4)]
 ·have:=hd q h3 h1;omega
 ·rw[fE,<- h2,tP (by omega)]
def iJ (I:aG) (nodes:List Int) (p:Int × Int):Int:=at' (at' I.nodes (at' nodes p.1)).links p.2
def dM (I:aG) (nodes:List Int) (l:List (Int × Int)):Int:=match l with | [] => -1 | p::_=>iJ I nodes p
abbrev dR (ar I:aG) (nodes:List Int) (l:Int):Int:=dM I nodes (bF ar l)
def uJ (ar I:aG) (nodes:List Int) (l:Int):Prop:=(∀ p ∈ bF ar l,iJ I nodes p=dR ar I nodes l)/\(l<ar.edges->dR ar I nodes l<I.edges/\(bF I (dR ar I nodes l)).length=(bF ar l).length)
def nw (ar I:aG) (nodes:List Int):Prop:=∀ l:Int,0<=l->l<ar.edges+ar.outer.length->uJ ar I nodes l
open Classical in
noncomputable def gB (ar I:aG) (nodes:List Int):List Int × Bool:=
 if nw ar I nodes then ((List.range (ar.edges+ar.outer.length).toNat).map fun l:Nat=>dR ar I nodes (l:Int),true) else ([],false)
def dC (ar:aG) (m:Match) (k:Int):Int:=if 0<=(at' ar.nodes k).parent then at' m.nodes (at' ar.nodes k).parent else at' m.roots (-1 - (at' ar.nodes k).parent)
def zd (ar I:aG) (m:Match) (k:Int):Prop:=
 (at' I.nodes (at' m.nodes k)).control=(at' ar.nodes k).control/\(at' I.nodes (at' m.nodes k)).parent=dC ar m k/\((j0 ar k).length=0->∀ c ∈ jG I (at' m.nodes k),c ∈ m.nodes)
def xp (ar I:aG) (nodes:List Int):Prop:=nodes.length=ar.nodes.length/\∀ i:Nat,i<nodes.length->ez I (at' nodes (i:Int))=true/\at' nodes (i:Int) ∉ nodes.take i
def iX (ar I:aG) (m:Match):Prop:=(m.roots.length:Int)=ar.roots/\∀ p ∈ m.roots,-I.roots<=p/\p<I.nodes.length/\cZ I m.nodes p=false
def iD (ar I:aG) (m:Match):Prop:=xp ar I m.nodes/\iX ar I m/\(∀ k:Nat,k<ar.nodes.length->zd ar I m (k:Int))/\nw ar I m.nodes
open Classical in
noncomputable def eP (ar I:aG) (m:Match):Bool:=decide (iD ar I m)
theorem jz {ar I:aG} {m:Match}:eP ar I m=true↔iD ar I m:=by simp[eP]
theorem gK {ar I:aG} {m:Match} (h:¬ iD ar I m):eP ar I m=false:=by simp[eP,h]
abbrev IQ (m:Match):Prop:=m.nodes.length<=1048576/\m.roots.length<=1048576
structure rG (sig:cP) (ar I:aG):Prop where
 r:cM sig ar
 a:cM sig I
 red:rz ar
def gV (c:Int) (v_:Match) (Z:Bool->Prop):Prop:=
 (v_.nodes.length<=1048576)/\∀ r3:Bool,r3=lg v_.nodes c->Z (!r3)
abbrev dS (c:Int) (m:Match):Bool := !(lg m.nodes c)
abbrev ea (c:Int) (m:Match):Prop:=m.nodes.length<=1048576
theorem vP (c:Int) (m:Match) (h:ea c m):gV c m (fun y=>y=dS c m):=by
 unfold gV;exact⟨h,by rintro _ rfl;rfl⟩
def yd (ar I:aG) (m:Match):Prop:=∀ k:Nat,k<ar.nodes.length->zd ar I m (k:Int)
open Classical in
noncomputable def fe (ar I:aG) (m:Match):Bool:=decide (yd ar I m)
theorem jg {ar I:aG} {m:Match} (h:¬ yd ar I m):fe ar I m=false:=by simp[fe,h]
theorem vr {ar I:aG} {m:Match} (h:yd ar I m):fe ar I m=true:=by simp[fe,h]
theorem o8 {ar I:aG} {m:Match}:fe ar I m=true↔yd ar I m:=by simp[fe]
abbrev qE (I:aG) (nodes:List Int) (n:Nat):Prop:=nodes.length=n/\∀ i:Nat,i<nodes.length->0<=at' nodes (i:Int)/\at' nodes (i:Int)<I.nodes.length
abbrev kU (ar I:aG) (m:Match):Prop:=(∃ sig,rG sig ar I)/\qE I m.nodes ar.nodes.length/\(m.roots.length:Int)=ar.roots
def jk (ar:aG) (I:aG) (m:Match) (Z:Bool->Prop):Prop:=
 ∀ dd:Int,dd=(ar.nodes.length:Int)->aI (σ:=Int) (fun v10 K13=>∀ c14:Bool,c14=decide (v10<dd)->((c14=true->(0<=v10/\v10<ar.nodes.length)/\∀ x17:ay,x17=at' ar.nodes v10->(0<=v10/\v10<m.nodes.length)/\∀ x22:Int,x22=at' m.nodes v10->(0<=x22/\x22<I.nodes.length)/\∀ x25:ay,x25=at' I.nodes x22->∀ c29:Bool,c29=decide (0<=x17.parent)->((c29=true->(0<=x17.parent/\x17.parent<m.nodes.length)/\∀ x32:Int,x32=at' m.nodes x17.parent->dI (fun (J34:Bool->Prop)=>∀ c60:Bool,c60=decide (x25.control ≠ x17.control)->((c60=true->J34 (true))/\(c60=false->∀ c62:Bool,c62=decide (x25.parent ≠ x32)->J34 (c62)))) (fun b37=>((b37=true->Z false)/\(b37=false->(cg ar v10)/\∀ r41:(List Int) × (List Int),r41=eX ar v10->∀ len42:Int,len42=(r41.2.length:Int)->∀ c44:Bool,c44=decide (0<len42)->((c44=true->(bh (v10+1))/\∀ v47:Int,v47=v10+1->K13 (v47))/\(c44=false->(0<=v10/\v10<m.nodes.length)/\∀ x50:Int,x50=at' m.nodes v10->(cg I x50)/\∀ r53:(List Int) × (List Int),r53=eX I x50->(r53.1.length<=1048576/\∀ z ∈ r53.1,ea z m)/\∀ r56:Bool,r56=r53.1.any (fun z=>dS z m)->((r56=true->Z false)/\(r56=false->(bh (v10+1))/\∀ v58:Int,v58=v10+1->K13 (v58)))))))))/\(c29=false->(bh ((-1) - x17.parent))/\∀ v65:Int,v65=(-1) - x17.parent->(0<=v65/\v65<m.roots.length)/\∀ x68:Int,x68=at' m.roots v65->dI (fun (J70:Bool->Prop)=>∀ c96:Bool,c96=decide (x25.control ≠ x17.control)->((c96=true->J70 (true))/\(c96=false->∀ c98:Bool,c98=decide (x25.parent ≠ x68)->J70 (c98)))) (fun b73=>((b73=true->Z false)/\(b73=false->(cg ar v10)/\∀ r77:(List Int) × (List Int),r77=eX ar v10->∀ len78:Int,len78=(r77.2.length:Int)->∀ c80:Bool,c80=decide (0<len78)->((c80=true->(bh (v10+1))/\∀ v83:Int,v83=v10+1->K13 (v83))/\(c80=false->(0<=v10/\v10<m.nodes.length)/\∀ x86:Int,x86=at' m.nodes v10->(cg I x86)/\∀ r89:(List Int) × (List Int),r89=eX I x86->(r89.1.length<=1048576/\∀ z ∈ r89.1,ea z m)/\∀ r92:Bool,r92=r89.1.any (fun z=>dS z m)->((r92=true->Z false)/\(r92=false->(bh (v10+1))/\∀ v94:Int,v94=v10+1->K13 (v94)))))))))))/\(c14=false->Z true))) (0)
theorem xd (ar I:aG) (m:Match) (h:kU ar I m):jk ar I m (fun y=>y=fe ar I m):=by
 unfold jk;obtain⟨⟨sig,hP⟩,⟨hlen,hin⟩,hroots⟩:=h;have hr8:=hP.r.len;have ha8:=hP.a.len;have hrr:=hP.r.roots;have hcr:cg ar 0:=⟨by omega,by have:=hP.r.slen;omega⟩
 have hca:cg I 0:=⟨by omega,by have:=hP.a.slen;omega⟩
 simp only[forall_eq,decide_eq_true_eq,decide_eq_false_iff_not];refine aI.Bi ar.nodes.length (fun k=>∀ j:Nat,j<k->zd ar I m j) (fun j hj=>by omega) ?_;rintro k K hk hI IH;refine⟨fun hc=>?_,fun hc=>(vr fun j hj=>hI j (by omega)).symm⟩;have hk1:k<ar.nodes.length:=by omega
 have hpar:=hP.r.zQ (i:=k) ⟨by omega,by omega⟩;have him:=hin k (by omega);have hkl:(jG I (at' m.nodes (k:Int))).length<=I.nodes.length:=jw _ _ _;have hnext:zd ar I m k->∀ j:Nat,j<k+1->zd ar I m j:=fun h j hj=>by
  rcases Nat.lt_or_ge j k with h1 | h1
  ·exact hI j h1
  ·rw[show j=k by omega];exact h
 refine⟨by omega,by omega,him,fun h1=>⟨by omega,?_⟩,fun h1=>⟨by simp only[bh];omega,by omega,?_⟩⟩
 ·have hx:at' m.nodes (at' ar.nodes (k:Int)).parent=dC ar m k:=by rw[dC,if_pos h1]
  generalize at' m.nodes (at' ar.nodes (k:Int)).parent=x at hx ⊢;refine⟨fun c=>c=true↔¬ ((at' I.nodes (at' m.nodes (k:Int))).control=(at' ar.nodes (k:Int)).control/\(at' I.nodes (at' m.nodes (k:Int))).parent=x),⟨fun h2=>iff_of_true rfl (fun h3=>h2 h3.1),fun h2=>by simp only[decide_eq_true_eq];exact⟨fun h3 h4=>h3 h4.2,fun h3 h4=>h3 ⟨Classical.not_not.1 h2,h4⟩⟩⟩,fun c hc=>⟨fun h3=>(jg fun hA=>?_).symm,fun h3=>?_⟩⟩
  ·have:=hA k hk1;exact hc.1 h3 ⟨this.1,by rw[hx];exact this.2.1⟩
  have hcp:=Classical.not_not.1 (fun h=>by rw[hc.2 h] at h3;cases h3);refine⟨hcr,fun h4=>⟨by simp only[bh];omega,IH hk1 fun j hj=>hnext ⟨hcp.1,by rw[<- hx];exact hcp.2,fun h0=>by omega⟩ j hj⟩,fun h4=>⟨by omega,hca,⟨by omega,fun z _=>by simp only[ea];omega⟩,fun h5=>(jg fun hA=>?_).symm,fun h5=>⟨by simp only[bh];omega,IH hk1 fun j hj=>hnext ⟨hcp.1,by rw[<- hx];exact hcp.2,fun _ c hcm=>?_⟩ j hj⟩⟩⟩
  ·obtain⟨z,hz,hz2⟩:=List.any_eq_true.1 h5;have:=(hA k hk1).2.2 (by omega) z hz;rw[dS,fB.2 this] at hz2;cases hz2
  ·have:=List.any_eq_false.1 h5 c hcm;rw[dS] at this;simpa using fB.1 (by simpa using this)
 ·have hx:at' m.roots (-1 - (at' ar.nodes (k:Int)).parent)=dC ar m k:=by rw[dC,if_neg h1]
  generalize at' m.roots (-1 - (at' ar.nodes (k:Int)).parent)=x at hx ⊢;refine⟨fun c=>c=true↔¬ ((at' I.nodes (at' m.nodes (k:Int))).control=(at' ar.nodes (k:Int)).control/\(at' I.nodes (at' m.nodes (k:Int))).parent=x),⟨fun h2=>iff_of_true rfl (fun h3=>h2 h3.1),fun h2=>by simp only[decide_eq_true_eq];exact⟨fun h3 h4=>h3 h4.2,fun h3 h4=>h3 ⟨Classical.not_not.1 h2,h4⟩⟩⟩,fun c hc=>⟨fun h3=>(jg fun hA=>?_).symm,fun h3=>?_⟩⟩
  ·have:=hA k hk1;exact hc.1 h3 ⟨this.1,by rw[hx];exact this.2.1⟩
  have hcp:=Classical.not_not.1 (fun h=>by rw[hc.2 h] at h3;cases h3);refine⟨hcr,fun h4=>⟨by simp only[bh];omega,IH hk1 fun j hj=>hnext ⟨hcp.1,by rw[<- hx];exact hcp.2,fun h0=>by omega⟩ j hj⟩,fun h4=>⟨by omega,hca,⟨by omega,fun z _=>by simp only[ea];omega⟩,fun h5=>(jg fun hA=>?_).symm,fun h5=>⟨by simp only[bh];omega,IH hk1 fun j hj=>hnext ⟨hcp.1,by rw[<- hx];exact hcp.2,fun _ c hcm=>?_⟩ j hj⟩⟩⟩
  ·obtain⟨z,hz,hz2⟩:=List.any_eq_true.1 h5;have:=(hA k hk1).2.2 (by omega) z hz;rw[dS,fB.2 this] at hz2;cases hz2
  ·have:=List.any_eq_false.1 h5 c hcm;rw[dS] at this;simpa using fB.1 (by simpa using this)
theorem AN {α:Type} [Inhabited α] (l:List α) (p:α->Bool) {k k':Nat} (h:k<=k'):idxs l p k <+: idxs l p k':=by
 induction h with
 | refl=>exact List.prefix_refl _
 | @step q _ ih=>
  apply ih.trans;rcases Bool.eq_false_or_eq_true (p (at' l (q:Int))) with h | h
  ·rw[lh _ _ h];exact List.prefix_append _ _
  ·rw[oR _ _ h];exact List.prefix_refl _
theorem zU (b:aG) (l:Int) (i:Nat) {k k':Nat} (h:k<=k'):mq b l i k <+: mq b l i k':=List.IsPrefix.map _ (AN _ _ h)
theorem tE (b:aG) (l:Int) {i i':Nat} (h:i<=i'):dx b l i <+: dx b l i':=by
 induction h with
 | refl=>exact List.prefix_refl _
 | step _ ih=>exact ih.trans (by rw[en];exact List.prefix_append _ _)
def eR (b:aG) (l:Int) (i k:Nat):List (Int × Int):=dx b l i++mq b l i k
theorem sc {b:aG} (l:Int) {i k:Nat} (hi:i<b.nodes.length) (hk:k<=(at' b.nodes (i:Int)).links.length):eR b l i k <+: bF b l:=by
 have h1:eR b l i k <+: dx b l (i+1):=by
  rw[eR,en];exact (List.prefix_append_right_inj _).2 (zU _ _ _ hk)
 exact h1.trans (tE _ _ (by omega))
theorem uQ {I:aG} {nodes:List Int} {P Q:List (Int × Int)} (h:P <+: Q) (hne:P ≠ []):dM I nodes P=dM I nodes Q:=by
 obtain⟨t,rfl⟩:=h;cases P with
 | nil=>exact absurd rfl hne
 | cons a P=>rfl
theorem qJ {I:aG} {nodes:List Int} (P:List (Int × Int)) (p:Int × Int):dM I nodes (P++[p])=if P=[] then iJ I nodes p else dM I nodes P:=by
 cases P<;>simp[dM]
theorem lf {ar I:aG} {nodes:List Int} (h:¬ nw ar I nodes):gB ar I nodes=([],false):=by rw[gB,if_neg h]
theorem jX {ar I:aG} {nodes:List Int} (h:nw ar I nodes):gB ar I nodes=((List.range (ar.edges+ar.outer.length).toNat).map fun l:Nat=>dR ar I nodes (l:Int),true):=by rw[gB,if_pos h]
def iK (ar I:aG) (nodes:List Int) (i k:Nat):List Int:=(List.range (ar.edges+ar.outer.length).toNat).map fun l:Nat=>dM I nodes (eR ar (l:Int) i k)
theorem Ay {ar I:aG} {nodes:List Int} {i k:Nat} {l:Int} (h0:0<=l) (h:l<ar.edges+ar.outer.length):at' (iK ar I nodes i k) l=dM I nodes (eR ar l i k):=by
 obtain⟨q,rfl⟩:∃ q:Nat,l=q:=⟨l.toNat,by omega⟩
 rw[cK (by simp[iK];omega)];simp[iK]
theorem wR (ar I:aG) (nodes:List Int) (i k:Nat):(iK ar I nodes i k).length=(ar.edges+ar.outer.length).toNat:=by simp[iK]
theorem F0 {ar I:aG} {nodes:List Int} {i k:Nat} {l:Int} (h0:0<=l) (hl:at' (at' ar.nodes (i:Int)).links (k:Int)=l) (hx:eR ar l i k=[]\/iJ I nodes ((i:Int),(k:Int))=dM I nodes (eR ar l i k)) :
  (iK ar I nodes i k).set l.toNat (iJ I nodes ((i:Int),(k:Int)))=iK ar I nodes i (k+1):=by
 refine List.ext_getElem (by simp[iK]) fun q h1 h2=>?_
 simp only[iK,List.getElem_set,List.getElem_map,List.getElem_range]
 split
 ·rename_i hq
  have hq2:((q:Nat):Int)=l:=by omega
  rw[hq2,eR,qg hl,<- List.append_assoc,qJ]
  split
  ·rfl
  ·rename_i hne
   exact hx.resolve_left hne
 ·rename_i hq
  rw[eR,eR,ta (by rw[hl];omega)]
theorem wu (b:aG) (l:Int) (i:Nat):eR b l i (at' b.nodes (i:Int)).links.length=eR b l (i+1) 0:=by simp[eR,en,ln]
theorem u5 (b:aG) (l:Int):eR b l b.nodes.length 0=bF b l:=by simp[eR,bF,ln]
theorem wV (b:aG) (l:Int):eR b l 0 0=[]:=by simp[eR,dx,ln]
abbrev dh (ar I:aG) (nodes:List Int):Prop:=(∃ sig,rG sig ar I)/\qE I nodes ar.nodes.length/\∀ k:Nat,k<ar.nodes.length->(at' I.nodes (at' nodes (k:Int))).control=(at' ar.nodes (k:Int)).control
theorem nc {ar I:aG} {nodes:List Int} (h:dh ar I nodes) {l:Int} {p:Int × Int} (hp:p ∈ bF ar l) :
  (0<=p.1/\p.1<nodes.length)/\(0<=at' nodes p.1/\at' nodes p.1<I.nodes.length)/\(0<=p.2/\p.2<(at' I.nodes (at' nodes p.1)).links.length)/\0<=iJ I nodes p:=by
 obtain⟨⟨sig,hP⟩,⟨hlen,hin⟩,hctl⟩:=h;obtain⟨j,hj,h1,h2,h3,_⟩:=eY.1 hp;have hi:=hin j (by omega);have e1:=hP.r.xW (i:=j) ⟨by omega,by omega⟩;have e2:=hP.a.xW hi;rw[hctl j hj] at e2;have h4:p.2<(at' I.nodes (at' nodes p.1)).links.length:=by rw[h1];omega
 rw[<- h1] at hi;exact⟨by omega,hi,⟨h2,h4⟩,(hP.a.iT hi _ (at_mem ⟨h2,h4⟩)).1⟩
noncomputable abbrev ek (ar I:aG) (nodes:List Int):=gB ar I nodes
def ij (ar:aG) (I:aG) (nodes:List Int) (Z:((List Int) × Bool)->Prop):Prop:=
 ∀ yv:Int,yv=(ar.outer.length:Int)->(bh (ar.edges+yv))/\∀ v8:Int,v8=ar.edges+yv->(sA [(-1)] v8)/\∀ r11:List Int,r11=tf [(-1)] v8->∀ len21:Int,len21=(ar.nodes.length:Int)->aI (σ:=Int × (List Int)) (fun (v30,l31) K35=>∀ c36:Bool,c36=decide (v30<len21)->((c36=true->(0<=v30/\v30<ar.nodes.length)/\∀ x39:ay,x39=at' ar.nodes v30->∀ len44:Int,len44=(x39.links.length:Int)->aI (σ:=Int × (List Int)) (fun (v53,l54) K58=>∀ c59:Bool,c59=decide (v53<len44)->((c59=true->(0<=v53/\v53<x39.links.length)/\∀ x62:Int,x62=at' x39.links v53->(0<=v30/\v30<nodes.length)/\∀ x65:Int,x65=at' nodes v30->(0<=x65/\x65<I.nodes.length)/\∀ x68:ay,x68=at' I.nodes x65->(0<=v53/\v53<x68.links.length)/\∀ x71:Int,x71=at' x68.links v53->dI (fun (J75:Bool->Prop)=>(0<=x62/\x62<l54.length)/\∀ x106:Int,x106=at' l54 x62->∀ c109:Bool,c109=decide (0<=x106)->((c109=true->(0<=x62/\x62<l54.length)/\∀ x112:Int,x112=at' l54 x62->∀ c116:Bool,c116=decide (x106 ≠ x71)->J75 (c116))/\(c109=false->J75 (false)))) (fun b78=>((b78=true->Z ([],false))/\(b78=false->(0<=x62/\x62<l54.length)/\∀ x89:Int,x89=at' l54 x62->∀ l92:List Int,l92=l54.set x62.toNat x71->(bh (v53+1))/\∀ v99:Int,v99=v53+1->K58 (v99,l92)))))/\(c59=false->(bh (v30+1))/\∀ v119:Int,v119=v30+1->K35 (v119,l54)))) (0,l31))/\(c36=false->aI (σ:=Int) (fun v124 K128=>∀ c129:Bool,c129=decide (v124<ar.edges)->((c129=true->(ga ar v124)/\∀ r132:(List (Int × Int)) × (List a6),r132=jS ar v124->(0<=v124/\v124<l31.length)/\∀ x153:Int,x153=at' l31 v124->(ga I x153)/\∀ r157:(List (Int × Int)) × (List a6),r157=jS I x153->dI (fun (J158:Bool->Prop)=>(0<=v124/\v124<l31.length)/\∀ x171:Int,x171=at' l31 v124->∀ c175:Bool,c175=decide (I.edges<=x153)->((c175=true->J158 (true))/\(c175=false->∀ len177:Int,len177=(r157.1.length:Int)->∀ len179:Int,len179=(r132.1.length:Int)->∀ c181:Bool,c181=decide (len177 ≠ len179)->J158 (c181)))) (fun b161=>((b161=true->Z ([],false))/\(b161=false->(bh (v124+1))/\∀ v168:Int,v168=v124+1->K128 (v168)))))/\(c129=false->Z (l31,true)))) (0)))) (0,r11)
theorem vD (ar I:aG) (nodes:List Int) (h:dh ar I nodes):ij ar I nodes (fun y=>y=ek ar I nodes):=by
 unfold ij;have hpre:=h;obtain⟨⟨sig,hP⟩,⟨hlen,hin⟩,hctl⟩:=h;have hE:=hP.r.edges;have hO:=hP.r.outer;have hr8:=hP.r.len;have hLr:=hP.r.qa;have hLa:=hP.a.qa;simp only[forall_eq,decide_eq_true_eq,decide_eq_false_iff_not,jS];have h0:tf [(-1)] (ar.edges+ar.outer.length)=iK ar I nodes 0 0:=by
  simp only[tf,iK,wV,dM,List.headD_cons];refine List.ext_getElem (by simp) fun q h1 h2=>by simp
 rw[h0];refine⟨by simp only[bh];omega,⟨rfl,by omega,by omega⟩,?_⟩;refine aI.mS ar.nodes.length (fun i out=>out=iK ar I nodes i 0/\∀ l,∀ p ∈ eR ar l i 0,iJ I nodes p=dM I nodes (eR ar l i 0)) _ ⟨rfl,fun l p hp=>by rw[wV] at hp;cases hp⟩ ?_;rintro i out K hi ⟨rfl,hg⟩ IH;dsimp only;refine⟨fun hc=>?_,fun hc=>?_⟩
 ·have hi1:i<ar.nodes.length:=by omega
  refine⟨by omega,aI.mS (at' ar.nodes (i:Int)).links.length (fun k out=>out=iK ar I nodes i k/\∀ l,∀ p ∈ eR ar l i k,iJ I nodes p=dM I nodes (eR ar l i k)) _ ⟨rfl,hg⟩ ?_⟩;rintro k out K2 hk ⟨rfl,hg2⟩ IH2;dsimp only;have hll:=hLr.2.1 i hi1;refine⟨fun hc2=>?_,fun hc2=>⟨by simp only[bh];omega,IH hi1 _ ⟨?_,?_⟩⟩⟩
  ·have hk1:k<(at' ar.nodes (i:Int)).links.length:=by omega
   obtain⟨l0,hl0⟩:∃ l0,at' (at' ar.nodes (i:Int)).links (k:Int)=l0:=⟨_,rfl⟩
   have hl:=hP.r.iT (i:=i) ⟨by omega,by omega⟩ _ (at_mem (l:=(at' ar.nodes (i:Int)).links) (i:=(k:Int)) ⟨by omega,by omega⟩);rw[hl0] at hl ⊢;have hpf:=sc (b:=ar) l0 hi1 (k:=k+1) (by omega);have hsn:eR ar l0 i (k+1)=eR ar l0 i k++[((i:Int),(k:Int))]:=by rw[eR,qg hl0,<- List.append_assoc];rfl
   have hmem:((i:Int),(k:Int)) ∈ bF ar l0:=hpf.subset (by rw[hsn];simp);obtain⟨q1,q2,q3,q4⟩:=nc hpre hmem;have hpk:=sc (b:=ar) l0 hi1 (k:=k) (by omega);have hown:at' (at' I.nodes (at' nodes (i:Int))).links (k:Int)=iJ I nodes ((i:Int),(k:Int)):=rfl;rw[hown];have hol:=wR ar I nodes i k;refine⟨by omega,q1,q2,q3,fun c=>c=true↔(0<=dM I nodes (eR ar l0 i k)/\dM I nodes (eR ar l0 i k) ≠ iJ I nodes ((i:Int),(k:Int))),?_,fun c hJ=>⟨fun h1=>?_,fun h1=>⟨by omega,by simp only[bh];omega,?_⟩⟩⟩
   ·rw[Ay hl.1 hl.2];refine⟨by omega,fun h1=>⟨by omega,by simp only[decide_eq_true_eq];exact⟨fun h2=>⟨h1,h2⟩,fun h2=>h2.2⟩⟩,fun h1=>iff_of_false (by simp) fun h2=>h1 h2.1⟩
   ·obtain⟨h2,h3⟩:=hJ.1 h1;refine (lf fun hL=>?_).symm;have hne:eR ar l0 i k ≠ []:=fun h=>by rw[h] at h2;simp[dM] at h2
    rw[uQ hpk hne] at h3;exact h3 ((hL l0 hl.1 hl.2).1 _ hmem).symm
   ·have hx:eR ar l0 i k=[]\/iJ I nodes ((i:Int),(k:Int))=dM I nodes (eR ar l0 i k):=by
     by_cases hne:eR ar l0 i k=[]
     ·exact .inl hne
     ·refine .inr (Classical.byContradiction fun h2=>?_);have:0<=dM I nodes (eR ar l0 i k):=by
       cases hq:eR ar l0 i k with
       | nil=>exact absurd hq hne
       | cons a P=>exact (nc hpre (hpk.subset (by rw[hq];simp):a ∈ bF ar l0)).2.2.2
      rw[hJ.2 ⟨this,fun h=>h2 h.symm⟩] at h1;cases h1
    rw[F0 hl.1 hl0 hx];refine IH2 hk1 _ ⟨rfl,fun l p hp=>?_⟩
    by_cases hll0:l=l0
    ·subst hll0;rw[hsn] at hp ⊢;rw[qJ];rcases List.mem_append.1 hp with hp | hp
     ·rw[if_neg (fun h=>by rw[h] at hp;cases hp)];exact hg2 _ p hp
     ·simp only[List.mem_singleton] at hp;subst hp
      split
      ·rfl
      ·rename_i hne
       exact hx.resolve_left hne
    ·have hno:eR ar l i (k+1)=eR ar l i k:=by rw[eR,ta (by rw[hl0];exact fun h=>hll0 h.symm)];rfl
     rw[hno] at hp ⊢;exact hg2 l p hp
  ·rw[show k=(at' ar.nodes (i:Int)).links.length by omega];simp only[iK,wu]
  ·rw[show k=(at' ar.nodes (i:Int)).links.length by omega] at hg2;simp only[wu] at hg2;exact hg2
 ·have hie:i=ar.nodes.length:=by omega
  subst hie;simp only[u5] at hg;have hol:=wR ar I nodes ar.nodes.length 0;have hfl:∀ l,0<=l->l<ar.edges+ar.outer.length->at' (iK ar I nodes ar.nodes.length 0) l=dR ar I nodes l:=fun l h1 h2=>by rw[Ay h1 h2,u5]
  refine aI.Bi ar.edges.toNat (fun q=>∀ l,0<=l->l<(q:Int)->dR ar I nodes l<I.edges/\(bF I (dR ar I nodes l)).length=(bF ar l).length) (fun l h1 h2=>by omega) ?_;rintro q K3 hq hI IH3;refine⟨fun h1=>?_,fun h1=>?_⟩
  ·rw[hfl q (by omega) (by omega)];refine⟨hLr,by omega,hLa,fun c=>c=true↔¬ (dR ar I nodes q<I.edges/\(bF I (dR ar I nodes q)).length=(bF ar q).length),⟨by omega,fun h2=>iff_of_true rfl (by omega),fun h2=>by simp only[decide_eq_true_eq];omega⟩,fun c hJ=>⟨fun h2=>(lf fun hL=>hJ.1 h2 ((hL q (by omega) (by omega)).2 h1)).symm,fun h2=>⟨by simp only[bh];omega,IH3 (by omega) fun l h3 h4=>?_⟩⟩⟩;rcases Int.lt_or_le l q with h5 | h5
   ·exact hI l h3 h5
   ·rw[show l=q by omega];exact Classical.not_not.1 fun h=>by rw[hJ.2 h] at h2;cases h2
  ·have hL:nw ar I nodes:=fun l h2 h3=>⟨fun p hp=>hg l p hp,fun h4=>hI l h2 (by omega)⟩
   rw[ek,jX hL];simp only[iK,u5]
def kb (p:Int) (v_:aG) (v_':Match) (Z:Bool->Prop):Prop:=
 dI (fun (J2:Bool->Prop)=>(bh (-v_.roots))/\∀ v9:Int,v9 = -v_.roots->∀ zy:Int,zy=(v_.nodes.length:Int)->(bh (zy - 1))/\∀ v14:Int,v14=zy - 1->∀ r16:Bool,r16=within p v9 v14->((r16=true->(iv v_ p v_'.nodes)/\∀ r18:Bool,r18=lV v_ p v_'.nodes->J2 (r18))/\(r16=false->J2 (true)))) (fun b5=>Z b5)
abbrev gb (p:Int) (I:aG) (m:Match):Bool := !(within p (-I.roots) (I.nodes.length - 1)) || cZ I m.nodes p
abbrev mh (p:Int) (I:aG) (m:Match):Prop:=pj I/\m.nodes.length<=1048576/\bh (-I.roots)
theorem zk (p:Int) (I:aG) (m:Match) (h:mh p I m):kb p I m (fun y=>y=gb p I m):=by
 unfold kb;obtain⟨hd,hm,hr⟩:=h;simp only[forall_eq];refine⟨fun c=>c=gb p I m,⟨hr,by have:=hd.1;simp only[bh];omega,fun h1=>⟨?_,?_⟩,fun h1=>?_⟩,fun c h=>h⟩
 ·simp only[within,Bool.and_eq_true,decide_eq_true_eq] at h1;exact⟨hd,by omega,hm⟩
 ·rw[gb,h1];rfl
 ·rw[gb,h1];rfl
noncomputable abbrev isMatch (ar I:aG) (m:Match):Bool:=eP ar I m
abbrev kr (ar I:aG) (m:Match):Prop:=(∃ sig,rG sig ar I)/\IQ m
def mF (ar:aG) (I:aG) (m:Match) (Z:Bool->Prop):Prop:=
 dI (fun (J6:Bool->Prop)=>∀ len48:Int,len48=(m.nodes.length:Int)->∀ len50:Int,len50=(ar.nodes.length:Int)->∀ c52:Bool,c52=decide (len48 ≠ len50)->((c52=true->J6 (true))/\(c52=false->∀ len54:Int,len54=(m.roots.length:Int)->∀ c56:Bool,c56=decide (len54 ≠ ar.roots)->J6 (c56)))) (fun b9=>((b9=true->Z false)/\(b9=false->∀ ej:Int,ej=(m.nodes.length:Int)->aI (σ:=Int) (fun v16 K19=>∀ c20:Bool,c20=decide (v16<ej)->((c20=true->(0<=v16/\v16<m.nodes.length)/\∀ x23:Int,x23=at' m.nodes v16->dI (fun (J25:Bool->Prop)=>(I.nodes.length<=1048576)/\∀ r35:Bool,r35=ez I x23->((r35=true->((0:Int)<=0/\(0:Int)<=v16/\v16<=m.nodes.length)/\∀ l37:List Int,l37=(m.nodes.take v16.toNat).drop 0->(l37.length<=1048576)/\∀ r40:Bool,r40=lg l37 x23->J25 (r40))/\(r35=false->J25 (true)))) (fun b28=>((b28=true->Z false)/\(b28=false->(bh (v16+1))/\∀ v32:Int,v32=v16+1->K19 (v32)))))/\(c20=false->(m.roots.length<=1048576/\∀ z ∈ m.roots,mh z I m)/\∀ r42:Bool,r42=m.roots.any (fun z=>gb z I m)->((r42=true->Z false)/\(r42=false->(kU ar I m)/\∀ r44:Bool,r44=fe ar I m->((r44=true->(dh ar I m.nodes)/\∀ r46:(List Int) × Bool,r46=ek ar I m.nodes->Z r46.2)/\(r44=false->Z false))))))) (0))))
theorem Cv (ar I:aG) (m:Match) (h:kr ar I m):mF ar I m (fun y=>y=isMatch ar I m):=by
 unfold mF;obtain⟨⟨sig,hP⟩,hm1,hm2⟩:=h;have ha8:=hP.a.len;have har:=hP.a.roots;simp only[forall_eq,decide_eq_true_eq,decide_eq_false_iff_not,List.drop_zero];refine⟨fun c=>c=true↔¬ (m.nodes.length=ar.nodes.length/\(m.roots.length:Int)=ar.roots),⟨fun h1=>iff_of_true rfl (by omega),fun h1=>by simp only[decide_eq_true_eq];omega⟩,fun c hJ=>⟨fun h1=>(gK fun hM=>hJ.1 h1 ⟨hM.1.1,hM.2.1.1⟩).symm,fun h1=>?_⟩⟩;have hlr:=Classical.not_not.1 fun h=>by rw[hJ.2 h] at h1;cases h1
 refine aI.Bi m.nodes.length (fun k=>∀ i:Nat,i<k->ez I (at' m.nodes (i:Int))=true/\at' m.nodes (i:Int) ∉ m.nodes.take i) (fun i hi=>by omega) ?_;rintro k K hk hI IH;refine⟨fun h2=>⟨by omega,fun c=>c=true↔¬ (ez I (at' m.nodes (k:Int))=true/\at' m.nodes (k:Int) ∉ m.nodes.take k),⟨by omega,fun h3=>⟨by omega,by simp;omega,?_⟩,fun h3=>iff_of_true rfl (by rw[h3];simp)⟩,fun c hJ2=>⟨fun h3=>(gK fun hM=>hJ2.1 h3 (hM.1.2 k (by omega))).symm,fun h3=>⟨by simp only[bh];omega,IH (by omega) fun i hi=>?_⟩⟩⟩,fun h2=>?_⟩
 ·rw[Int.toNat_natCast];dsimp only;rw[fB];exact⟨fun h4 h5=>h5.2 h4,fun h4=>Classical.not_not.1 fun h5=>h4 ⟨h3,h5⟩⟩
 ·rcases Nat.lt_or_ge i k with h5 | h5
  ·exact hI i h5
  ·rw[show i=k by omega];exact Classical.not_not.1 fun h=>by rw[hJ2.2 h] at h3;cases h3
 ·have hN:xp ar I m.nodes:=⟨hlr.1,fun i hi=>hI i (by omega)⟩
  have hnode:∀ x,ez I x=true->0<=x/\x<I.nodes.length:=fun x hx=>by
   simp only[ez,within,Bool.and_eq_true,decide_eq_true_eq] at hx;omega
  have hin:qE I m.nodes ar.nodes.length:=⟨hlr.1,fun i hi=>hnode _ (hN.2 i hi).1⟩
  refine⟨⟨hm2,fun z _=>⟨hP.a.qR,hm1,by simp only[bh];omega⟩⟩,fun h3=>(gK fun hM=>?_).symm,fun h3=>?_⟩
  ·obtain⟨z,hz,hz2⟩:=List.any_eq_true.1 h3;obtain⟨q1,q2,q3⟩:=hM.2.1.2 z hz;rw[gb,q3,Bool.or_false,Bool.not_eq_true'] at hz2;simp only[within,Bool.and_eq_false_iff,decide_eq_false_iff_not] at hz2;omega
  ·have hR:iX ar I m:=⟨hlr.2,fun p hp=>by
    have:=List.any_eq_false.1 h3 p hp;simp only[gb,Bool.or_eq_true,Bool.not_eq_true',not_or,Bool.not_eq_false] at this;obtain⟨t1,t2⟩:=this;simp only[within,Bool.and_eq_true,decide_eq_true_eq] at t1;exact⟨by omega,by omega,by simpa using t2⟩⟩
   refine⟨⟨⟨sig,hP⟩,hin,hlr.2⟩,fun h4=>?_,fun h4=>(gK fun hM=>?_).symm⟩
   ·have hI2:=o8.1 h4;refine⟨⟨⟨sig,hP⟩,hin,fun k hk=>(hI2 k hk).1⟩,?_⟩
    by_cases hL:nw ar I m.nodes
    ·rw[ek,jX hL];exact (jz.2 ⟨hN,hR,hI2,hL⟩).symm
    ·rw[ek,lf hL];exact (gK fun hM=>hL hM.2.2.2).symm
   ·rw[o8.2 hM.2.2.1] at h4;cases h4
theorem cM.Hg {sig:cP} {b:aG} (hV:cM sig b):il b:=by
 have h2:=hV.slen;have h3:=hV.roots;have h4:=hV.edges;have h5:=hV.outer;exact⟨hV.qa,by omega,by omega,by omega,by omega,by omega,by omega⟩
noncomputable def bW (sig:cP) (ar I:aG):Bool:=fQ sig ar && iA ar && gA sig I
abbrev jO (sig:cP) (ar I:aG):Prop:=cv sig ar/\cv sig I
noncomputable abbrev pH (sig:cP) (ar I:aG):Bool:=bW sig ar I
def gZ (sig:List Control) (ar:aG) (I:aG) (Z:Bool->Prop):Prop:=
 dI (fun (J5:Bool->Prop)=>(cv sig ar)/\∀ r12:Bool,r12=fQ sig ar->((r12=true->(il ar)/\∀ r14:Bool,r14=xY ar->((r14=true->(pQ sig I)/\∀ r16:Bool,r16=gA sig I->J5 (r16))/\(r14=false->J5 (false))))/\(r12=false->J5 (false)))) (fun b8=>Z b8)
theorem vR (sig:cP) (ar I:aG) (h:jO sig ar I):gZ sig ar I (fun y=>y=pH sig ar I):=by
 unfold gZ;simp only[forall_eq];refine⟨fun c=>c=bW sig ar I,⟨h.1,fun h1=>⟨?_,fun h2=>⟨h.2,by rw[bW,h1,show iA ar=true from h2];rfl⟩,fun h2=>by rw[bW,h1,show iA ar=false from h2];rfl⟩,fun h1=>by rw[bW,h1];rfl⟩,fun c h=>h⟩;have hV:=fV h1;have h2:=hV.slen;have h3:=hV.roots;have h4:=hV.edges;have h5:=hV.outer;exact⟨hV.qa,by omega,by omega,by omega,by omega,by omega,by omega⟩
theorem fu {sig:cP} {ar I:aG} (h:bW sig ar I=true):rG sig ar I:=by
 simp only[bW,gA,Bool.and_eq_true] at h;exact⟨fV h.1.1,fV h.2.1,p9.1 h.1.2⟩
noncomputable def IsMatch (sig:cP) (ar I:aG) (m:Match):Bool × Bool:=if bW sig ar I then (eP ar I m,true) else (false,false)
abbrev eO (sig:cP) (ar I:aG) (m:Match):Prop:=cv sig ar/\cv sig I/\IQ m
noncomputable abbrev jr (sig:cP) (ar I:aG) (m:Match):Bool:=bW sig ar I && eP ar I m
abbrev kS (sig:cP) (ar I:aG) (m:Match):Prop:=eO sig ar I m
def iV (sig:List Control) (ar:aG) (I:aG) (m:Match) (Z:Bool->Prop):Prop:=
 dI (fun (J6:Bool->Prop)=>(jO sig ar I)/\∀ r13:Bool,r13=pH sig ar I->((r13=true->(kr ar I m)/\∀ r15:Bool,r15=isMatch ar I m->J6 (r15))/\(r13=false->J6 (false)))) (fun b9=>Z b9)
theorem xI (sig:cP) (ar I:aG) (m:Match) (h:kS sig ar I m):iV sig ar I m (fun y=>y=jr sig ar I m):=by
 unfold iV;simp only[forall_eq];refine⟨fun c=>c=jr sig ar I m,⟨⟨h.1,h.2.1⟩,fun h1=>⟨⟨⟨sig,fu h1⟩,h.2.2⟩,?_⟩,fun h1=>?_⟩,fun c h=>h⟩
 ·rw[jr,show bW sig ar I=true from h1];rfl
 ·rw[jr,show bW sig ar I=false from h1];rfl
end Go.Ab.Vg
