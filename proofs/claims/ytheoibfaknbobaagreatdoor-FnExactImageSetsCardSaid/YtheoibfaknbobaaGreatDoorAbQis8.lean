/- Merged texts (8 of 16) of the proof that ends in Isy: Gh Gi Gj Gk Gl Gx L2k Ma Sc Re Mb. -/
import Derived.Test.YtheoibfaknbobaaGreatDoorAbQis7
import Derived.Laws.CopyRow
import Derived.Laws.IdiomCopy
open Go.Proofs.Tryz
set_option linter.unusedSimpArgs false
set_option linter.unusedVariables false
namespace Go.Ab
open Go.Proofs
theorem e68:aW prog 68:=aW.of func68 (by kernel_rfl) rfl
theorem e105:aW prog 105:=aW.of func105 (by kernel_rfl) rfl
theorem e107:aW prog 107:=aW.of func107 (by kernel_rfl) rfl
theorem e109:aW prog 109:=aW.of func109 (by kernel_rfl) rfl
structure cQ (sig:dE) (b:aD):Prop where
 sigLen:sig.length<=1048576
 sigNames:∀ c ∈ sig,c.name.length<=1048576
 nodesLen:b.nodes.length<=1048576
 sitesLen:b.sites.length<=1048576
 outerLen:b.outer.length<=1048576
 innerLen:b.inner.length<=1048576
 outerNames:∀ s ∈ b.outer,s.length<=1048576
 innerNames:∀ w ∈ b.inner,w.name.length<=1048576
 linksLen:∀ x ∈ b.nodes,x.links.length<=1048576
 parents:∀ x ∈ b.nodes,bp x.parent
 sites64:∀ p ∈ b.sites,bp p
theorem clos76 {H:az} {n:Nat} {X:Id} (b:aD) (he:0<=b.edges/\b.edges<=8) (ho:b.outer.length<=1048576) (hX:H X=some ⟨6,[b.cells false]⟩) (l:Int):fL prog H n (.fn (.func 105) [] [.ptr X 1 0 0]) [int l] (fun r=>r=bool (!dm b l)):=by
 refine⟨105,[],[.ptr X 1 0 0],rfl,e105,?_⟩;have hX':=hX;simp only[aD.cells] at hX';refine cJ.of func105 rfl ntmps105 (by simp) fun Q hB hQ=>?_
 refine zE fun _ V=>?_
 simp;apply V;refine zE fun _ V=>?_
 simp [hX'];refine zA (tY b l he ho) e106 (.cons (aM.cw false b) (.cons (.v _ _ _) .nil)) (by simp[cw,aD.cells]) ?_;rintro _ rfl;simp;apply V;exact J.ret func105 (aN.one results105) (hQ _ _ _ _ (.pN (.v _)) (Frame.refl _ _) (by simp))
theorem clos80 {H:az} {n:Nat} {X:Id} (b:aD) (he:0<=b.edges/\b.edges<=8) (ho:b.outer.length<=1048576) (hX:H X=some ⟨6,[b.cells false]⟩) (w:aQ):fL prog H n (.fn (.func 109) [] [.ptr X 1 0 0]) [.agg w.cells] (fun r=>r=bool (!dm b w.link)):=by
 refine⟨109,[],[.ptr X 1 0 0],rfl,e109,?_⟩;have hX':=hX;simp only[aD.cells] at hX';refine cJ.of func109 rfl ntmps109 (by simp) fun Q hB hQ=>?_
 have hXn:=(hB X _ hX).1;have hX2:¬ X=(n,2):=by rintro rfl;simp at hXn
 refine zE fun _ V=>?_
 simp [aQ.cells];apply V;refine zE fun _ V=>?_
 simp [hX2, hX'];refine zA (tY b w.link he ho) e106 (.cons (aM.cw false b) (.cons (.v _ _ _) .nil)) (by simp[cw,aD.cells]) ?_;rintro _ rfl;simp;apply V;exact J.ret func109 (aN.one results109) (hQ _ _ _ _ (.pN (.v _)) (Frame.set (by simp) (Frame.refl _ _)) (by simp))
theorem clos78 {H:az} {n:Nat} {X ak:Id} (sig:dE) (b:aD) (hr:0<=b.roots/\b.roots<=4) (hc:qe sig b b.nodes.length) (hX:H X=some ⟨6,[b.cells false]⟩) (hY:H ak=some ⟨1,[[bj false sig]]⟩) (p:Int) :
  fL prog H n (.fn (.func 107) [] [.ptr X 1 0 0,.ptr ak 1 0 0]) [int p] (fun r=>r=bool (!bM sig b p b.nodes.length)):=by
 refine⟨107,[],[.ptr X 1 0 0,.ptr ak 1 0 0],rfl,e107,?_⟩;have hX':=hX;simp only[aD.cells,bP] at hX';have hY':=hY;simp only[bj] at hY';refine cJ.of func107 rfl ntmps107 (by simp) fun Q hB hQ=>?_
 refine zE fun _ V=>?_
 simp;apply V;refine zE fun _ V=>?_
 simp [hX', hY'];refine zA (pS sig b p b.nodes.length hr (Nat.le_refl _) hc) e103 (.cons (aM.cw false b) (.cons (aM.bj false sig) (.cons (.v _ _ _) (.cons (.v _ _ _) .nil)))) (by simp[cw,aD.cells,bP,bj]) ?_;rintro _ rfl;simp;apply V;exact J.ret func107 (aN.one results107) (hQ _ _ _ _ (.pN (.v _)) (Frame.refl _ _) (by simp))
theorem xt {sig:dE} {b:aD} {k:Nat} (h:cg sig b k=true) (hk:qe sig b k):qe sig b (k+1):=by
 intro i hi;rcases Nat.lt_or_ge i k with h1 | h1
 ·exact hk i h1
 ·have:i=k:=by omega
  subst this;simp only[cg,within,Bool.and_eq_true,decide_eq_true_eq] at h;omega
def dL (sig:dE) (b:aD):Bool:=
 gx sig && within b.roots 0 4 && decide (b.nodes.length<=8) && decide (b.sites.length<=4) && within b.edges 0 8 && cT b.outer && cT (names b)
theorem eM (sig:dE) (b:aD):iC sig b=(dL sig b && (List.range b.nodes.length).all (cg sig b) && b.sites.all (fun p=>bM sig b p b.nodes.length) && b.inner.all (fun w=>dm b w.link)):=rfl
theorem vw {α:Type} (l:List α) (p:α->Bool):(l.any fun x => !p x) = !l.all p:=by
 induction l with
 | nil=>rfl
 | cons a l ih=>simp[ih]
theorem ou (sig:dE) (b:aD) (hs:cQ sig b):aB prog 68 [bj false sig,cw false b] (fun r=>r=bool (iC sig b)):=by
 obtain⟨s1,s2,s3,s4,s5,s6,s7,s8,s9,_,_⟩:=hs;have hnl:(names b).length<=1048576:=by simpa[names] using s6
 have hnn:∀ s ∈ names b,s.length<=1048576:=by
  intro s hs;obtain⟨w,hw,rfl⟩:=List.mem_map.1 hs;exact s8 w hw
 refine aB.of func68 rfl ntmps68 (by simp) fun Q hQ=>?_
 refine zE fun k' V=>?_
 simp [bj, cw, aD.cells];apply V;refine J.cut (fun O H n=>O 2 = .ptr (0,2) 1 0 0/\O 3 = .ptr (1,3) 1 0 0/\H (0,2)=some ⟨1,[[bj false sig]]⟩/\H (1,3)=some ⟨6,[b.cells false]⟩) ⟨by simp,by simp,by simp[bj],by simp[aD.cells]⟩ ?_;clear V;rintro O H n ⟨h2,h3,hm2,hm3⟩;have hm2':=hm2;simp only[bj] at hm2';have hm3':=hm3;simp only[aD.cells,bP,encI,encS,bX] at hm3';refine zS fun k' V=>?_
 have fin:∀ O:Env,O 2 = .ptr (0,2) 1 0 0->O 3 = .ptr (1,3) 1 0 0->O 45=bool (!dL sig b)->J prog 68 101 k' O H n Q:=by
  intro O h2 h3 h45;apply V;refine J.ite h45 (fun hc1 => ?_) (fun hc1 => ?_)
  ·have hb:dL sig b=false:=by simpa using hc1
   refine zE fun k' V=>?_
   simp;apply V;exact J.ret func68 (aN.one results68) (hQ _ _ _ _ (.v _ _ _) (by rw[eM,hb];rfl))
  ·have hb:dL sig b=true:=by simpa using hc1
   have hb':=hb;simp only[dL,within,Bool.and_eq_true,decide_eq_true_eq] at hb';obtain⟨⟨⟨⟨⟨⟨_,hr⟩,hn8⟩,_⟩,hed⟩,_⟩,_⟩:=hb';apply J.skip;refine zS fun k' V=>?_
   simp [h3, hm3'];apply V;refine J.block (J.bV b.nodes.length (fun k O H n=>O 2 = .ptr (0,2) 1 0 0/\O 3 = .ptr (1,3) 1 0 0/\O 47 = .list false (b.nodes.map (aA.cells false))/\O 48=int b.nodes.length/\O 49=int k /\
    H (0,2)=some ⟨1,[[bj false sig]]⟩/\H (1,3)=some ⟨6,[b.cells false]⟩/\qe sig b k/\(∀ i,i<k->cg sig b i=true)) ?_ ?_)
   ·exact⟨by simp[h2],by simp[h3],by simp,by simp,by simp,hm2,hm3,fun i hi=>by omega,fun i hi=>by omega⟩
   ·clear h2 h3 hm2' hm3';rintro k O H n hk ⟨h2,h3,h47,h48,h49,hm2,hm3,hctl,bu⟩ IH;have hm2':=hm2;simp only[bj] at hm2';have hm3':=hm3;simp only[aD.cells,bP,encI,encS,bX] at hm3';refine zE fun k' V=>?_
    simp [h48, h49];apply V;apply J.seq;refine J.ite rfl (fun hc2 => ?_) (fun hc2 => ?_)
    ·have hc2:k<b.nodes.length:=by simpa using hc2
     have hgk:b.nodes.getD k default=b.nodes[k]:=by simp[hc2]
     apply zK;apply J.block;refine zE fun k' V=>?_
     simp [h47, h49, hc2, aA.cells];apply V;refine J.cut (fun O H m=>O 2 = .ptr (0,2) 1 0 0/\O 3 = .ptr (1,3) 1 0 0/\O 47 = .list false (b.nodes.map (aA.cells false))/\O 48=int b.nodes.length/\O 49=int k/\O 5=int k/\O 6 = .ptr (n,6) 1 0 0 /\
      H (0,2)=some ⟨1,[[bj false sig]]⟩/\H (1,3)=some ⟨6,[b.cells false]⟩/\H (n,6)=some ⟨3,[b.nodes[k].cells false]⟩/\m=n+1) ?_ ?_
     ·exact⟨by simp[h2],by simp[h3],by simp[h47],by simp[h48],by simp[h49],by simp,by simp,by simp[hm2],by simp[hm3],by simp[aA.cells],rfl⟩
     clear V h2 h3 h47 h48 h49 hm2 hm3 hm2' hm3';rintro O H m ⟨h2,h3,h47,h48,h49,h5,h6,hm2,hm3,hm6,rfl⟩;have hm2':=hm2;simp only[bj] at hm2';have hm3':=hm3;simp only[aD.cells,bP,encI,encS,bX] at hm3';have hm6':=hm6;simp only[aA.cells] at hm6';refine J.ed aH aF bN (by decide) (by kernel_rfl) fun k' V=>?_
     have fin:∀ O:Env,O 2 = .ptr (0,2) 1 0 0->O 3 = .ptr (1,3) 1 0 0->O 47 = .list false (b.nodes.map (aA.cells false))->O 48=int b.nodes.length->O 49=int k->O 87=bool (!cg sig b k)->J prog 68 101 k' O H (n+1) Q:=by
      intro O h2 h3 h47 h48 h49 h87;apply V;refine J.ite h87 (fun hc3 => ?_) (fun hc3 => ?_)
      ·have hb:cg sig b k=false:=by simpa using hc3
       refine zE fun k' V=>?_
       simp;apply V;exact J.ret func68 (aN.one results68) (hQ _ _ _ _ (.v _ _ _) (by rw[eM,dS hc2 hb,Bool.and_false];rfl))
      ·have hb:cg sig b k=true:=by simpa using hc3
       apply J.skip;refine zI fun k' V=>?_
       simp [h49, ba (show k < 4611686018427387904 by omega)];apply V;refine IH hc2 _ _ _ ⟨by simp[h2],by simp[h3],by simp[h47],by simp[h48],by simp,hm2,hm3,xt hb hctl,fun i hi=>?_⟩;rcases Nat.lt_or_ge i k with h | h
       ·exact bu i h
       ·rw[show i=k by omega];exact hb
     have hw:IntKind.i64.wrap ((sig.length:Int) - 1)=(sig.length:Int) - 1:=by rw[wrap64]<;>omega
     simp [h2, h6, hm2', hm6', hw];refine bw.cd aH aF (dT b.nodes[k].control 0 ((sig.length:Int) - 1)) te (.cons (.v _ _ _) (.cons (.v _ _ _) (.cons (.v _ _ _) .nil))) (by decide) rfl (by simp) ?_;cases q1:within b.nodes[k].control 0 ((sig.length:Int) - 1)
     ·simp[guardOf];exact fin _ (by simp[h2]) (by simp[h3]) (by simp[h47]) (by simp[h48]) (by simp[h49]) (by simp only[cg,hgk,q1];simp)
     simp[h2,h3,h5,h6,hm2',hm3',hm6',guardOf];refine bw.cd aH aF (pS sig b b.nodes[k].parent k hr (by omega) hctl) e103 (.cons (aM.cw false b) (.cons (aM.bj false sig) (.cons (.v _ _ _) (.cons (.v _ _ _) .nil)))) (by decide) rfl (by simp[cw,aD.cells,bP,encI,encS,bX,bj]) ?_;cases q2:bM sig b b.nodes[k].parent k
     ·simp[guardOf];exact fin _ (by simp[h2]) (by simp[h3]) (by simp[h47]) (by simp[h48]) (by simp[h49]) (by simp only[cg,hgk,q2];simp)
     have q1':=q1;simp only[within,Bool.and_eq_true,decide_eq_true_eq] at q1';obtain⟨c,hc⟩:∃ c:Nat,b.nodes[k].control=c:=⟨b.nodes[k].control.toNat,by omega⟩
     have hcl:c<sig.length:=by omega
     have q1c:=q1;rw[hc] at q1c;have hgc:sig.getD c default=sig[c]:=by simp[hcl]
     by_cases q3:(b.nodes[k].links.length:Int)=sig[c].ports
     ·have q3':((b.nodes[k].links.length:Int) != sig[c].ports)=false:=by simpa using q3
      simp[h2,h3,h6,hm2',hm6',hc,hcl,q3',Control.cells,guardOf];refine bw.lH aH aF (dz false b.nodes[k].links (fun l => !dm b l) (s9 _ (List.getElem_mem hc2)) (fun l _=>clos76 b hed s5 hm3 l)) Dt (by decide) rfl (by simp) ?_;simp;refine fin _ (by simp[h2]) (by simp[h3]) (by simp[h47]) (by simp[h48]) (by simp[h49]) ?_;simp only[cg,hgk,q1c,q2,hc,Int.toNat_natCast,hgc,q3,vw];simp
     ·have q3':((b.nodes[k].links.length:Int) != sig[c].ports)=true:=by simpa using q3
      simp[h2,h3,h6,hm2',hm6',hc,hcl,q3',Control.cells,guardOf];exact fin _ (by simp[h2]) (by simp[h3]) (by simp[h47]) (by simp[h48]) (by simp[h49]) (by simp only[cg,hgk,q1c,q2,hc,Int.toNat_natCast,hgc,q3];simp)
    ·have hc2:¬ k<b.nodes.length:=by simpa using hc2
     have hke:k=b.nodes.length:=by omega
     subst hke;have hnodes:=dR bu;refine J.exit rfl ?_;refine zE fun k' V=>?_
     simp [h2, h3, hm3'];refine bE.lH aH (dz false b.sites (fun p => !bM sig b p b.nodes.length) s4 (fun p _=>clos78 sig b hr hctl hm3 hm2 p)) Dt (by decide) (by decide) rfl (by simp) ?_;rintro _ rfl;rw[vw];cases r1:b.sites.all (fun p=>bM sig b p b.nodes.length)
     ·simp[guardOf];apply V;exact J.ret func68 (aN.one results68) (hQ _ _ _ _ (.v _ _ _) (by rw[eM,r1];simp))
     ·simp[h3,hm3',guardOf];refine bE.lH aH (pJ false b.inner (fun w => !dm b w.link) s6 (fun w _=>clos80 b hed s5 hm3 w)) e108 (by decide) (by decide) rfl (by simp) ?_;rintro _ rfl;rw[vw];simp;apply V;exact J.ret func68 (aN.one results68) (hQ _ _ _ _ (.v _ _ _) (by rw[eM,hb,hnodes,r1];simp))
 simp [h2, hm2'];refine zA (rG sig s1 s2) e99 (.cons (aM.bj false sig) .nil) (by simp[bj]) ?_;rintro _ rfl;cases p1:gx sig
 ·simp[guardOf];exact fin _ (by simp[h2]) (by simp[h3]) (by simp only[dL,p1];simp)
 simp[h3,hm3',guardOf];refine zA (dT b.roots 0 4) te (.cons (.v _ _ _) (.cons (.v _ _ _) (.cons (.v _ _ _) .nil))) (by simp) ?_;rintro _ rfl;cases p2:within b.roots 0 4
 ·simp[guardOf];exact fin _ (by simp[h2]) (by simp[h3]) (by simp only[dL,p2];simp)
 by_cases p3:(8:Int)<b.nodes.length
 ·simp[h3,hm3',p3,guardOf];exact fin _ (by simp[h2]) (by simp[h3]) (by simp only[dL,show ¬ b.nodes.length<=8 by omega];simp)
 by_cases p4:(4:Int)<b.sites.length
 ·simp[h3,hm3',p3,p4,guardOf];exact fin _ (by simp[h2]) (by simp[h3]) (by simp only[dL,show ¬ b.sites.length<=4 by omega];simp)
 simp[h3,hm3',p3,p4,guardOf];refine zA (dT b.edges 0 8) te (.cons (.v _ _ _) (.cons (.v _ _ _) (.cons (.v _ _ _) .nil))) (by simp) ?_;rintro _ rfl;cases p5:within b.edges 0 8
 ·simp[guardOf];exact fin _ (by simp[h2]) (by simp[h3]) (by simp only[dL,p5];simp)
 simp[h3,hm3',guardOf];refine zA (pT b.outer s5 s7) e101 (.cons (aM.encS false b.outer) .nil) (by simp[encS]) ?_;rintro _ rfl;cases p6:cT b.outer
 ·simp[guardOf];exact fin _ (by simp[h2]) (by simp[h3]) (by simp only[dL,p6];simp)
 simp[h3,hm3',guardOf];refine zA (tz b s6) e102 (.cons (aM.cw false b) .nil) (by simp[cw,aD.cells,bP,encI,encS,bX]) ?_;rintro _ rfl;simp;refine zA (pT (names b) hnl hnn) e101 (.cons (aM.encS true (names b)) .nil) (by simp[encS]) ?_;rintro _ rfl;simp;exact fin _ (by simp[h2]) (by simp[h3]) (by simp only[dL,p1,p2,p5,p6,show b.nodes.length<=8 by omega,show b.sites.length<=4 by omega];simp)
end Go.Ab
namespace Go.Ab
open Go.Proofs
theorem e93:aW prog 93:=aW.of func93 (by kernel_rfl) rfl
theorem e129:aW prog 129:=aW.of func129 (by kernel_rfl) rfl
theorem vt {α:Type} {l:List α} {p:α->Bool} {k:Nat} (hk:k<l.length) (h:p l[k]=false):l.all p=false:=by
 rw[List.all_eq_false];exact⟨l[k],List.getElem_mem hk,by simp[h]⟩
theorem uI {α:Type} {l:List α} {p:α->Bool} (h:∀ i (hi:i<l.length),p l[i]=true):l.all p=true:=by
 rw[List.all_eq_true];intro x hx;obtain⟨i,hi,rfl⟩:=List.getElem_of_mem hx;exact h i hi
theorem Cr (sig:dE) (b:aD) (hs:cQ sig b) (k:Nat) (hk:k<b.nodes.length) (hr:0<=b.roots/\b.roots<=4) (he:0<=b.edges/\b.edges<=8) (hctl:qe sig b k) :
  aB prog 129 [bj false sig,cw false b,int k] (fun r=>r=bool (cg sig b k)):=by
 have hgk:b.nodes.getD k default=b.nodes[k]:=by simp[hk]
 have hll:=hs.linksLen _ (List.getElem_mem hk);have hpar:=hs.parents _ (List.getElem_mem hk);have hol:=hs.outerLen;have hsl:=hs.sigLen;refine aB.of func129 rfl ntmps129 (by simp) fun Q hQ=>?_
 refine zE fun k' V=>?_
 simp [bj, cw, aD.cells];apply V;refine zE fun k' V=>?_
 simp [bP, hk, aA.cells];apply V;refine J.cut (fun O H n=>O 0 = .list false (sig.map Control.cells)/\O 2=int k/\O 4 = .ptr (0,4) 1 0 0/\O 7 = .ptr (1,7) 1 0 0/\H (0,4)=some ⟨6,[b.cells false]⟩/\H (1,7)=some ⟨3,[b.nodes[k].cells false]⟩) ⟨by simp,by simp,by simp,by simp,by simp[aD.cells,bP,aA.cells],by simp[aA.cells]⟩ ?_;clear V;rintro O H n ⟨h0,h2,h4,h7,hm4,hm7⟩;have hm4':=hm4;simp only[aD.cells,bP,encI,encS,bX] at hm4';have hm7':=hm7;simp only[aA.cells] at hm7';apply J.seq;refine J.ed aH aF bN (by decide) (by kernel_rfl) fun k' V=>?_
 have fin:∀ (O:Env) (pre:Bool),O 4 = .ptr (0,4) 1 0 0->O 7 = .ptr (1,7) 1 0 0->O 41=bool (!pre)->cg sig b k=(pre && b.nodes[k].links.all (dm b))->J prog 129 57 k' O H n Q:=by
  intro O pre h4 h7 h41 hpre;apply V;refine J.ite h41 (fun hc1 => ?_) (fun hc1 => ?_)
  ·have hb:pre=false:=by simpa using hc1
   refine zE fun k' V=>?_
   simp;apply V;exact J.ret func129 (aN.one results129) (hQ _ _ _ _ (.v _ _ _) (by rw[hpre,hb];rfl))
  ·have hb:pre=true:=by simpa using hc1
   rw[hb,Bool.true_and] at hpre;apply J.skip;refine zS fun k' V=>?_
   simp;apply V;refine J.block (J.bV b.nodes[k].links.length (fun j ρ' H' n'=>ρ' 4 = .ptr (0,4) 1 0 0/\ρ' 7 = .ptr (1,7) 1 0 0/\ρ' 8=int j/\H'=H/\n'=n/\∀ i (hi:i<b.nodes[k].links.length),i<j->dm b b.nodes[k].links[i]=true) ?_ ?_)
   ·exact⟨by simp[h4],by simp[h7],by simp,rfl,rfl,fun i hi h=>by omega⟩
   ·clear h4 h7;rintro j O H' n' hj ⟨h4,h7,h8,rfl,rfl,bu⟩ IH;refine zS fun k' V=>?_
    simp [h7, h8, hm7'];apply V;refine J.ite rfl (fun hc2 => ?_) (fun hc2 => ?_)
    ·have hc2:j<b.nodes[k].links.length:=by simpa using hc2
     apply zK;apply J.block;refine J.ed aH aF bN (by decide) (by kernel_rfl) fun k' V=>?_
     simp [h4, h7, h8, hm4', hm7', hc2, ay];refine bw.cd aH aF (tS b b.nodes[k].links[j] he hol) e131 (.cons (aM.cw false b) (.cons (.v _ _ _) .nil)) (by decide) rfl (by simp[cw,aD.cells,bP,encI,encS,bX,ay]) ?_;simp;apply V;refine J.ite rfl (fun hc3 => ?_) (fun hc3 => ?_)
     ·have hb3:dm b b.nodes[k].links[j]=false:=by simpa using hc3
      refine zE fun k' V=>?_
      simp;apply V;exact J.ret func129 (aN.one results129) (hQ _ _ _ _ (.v _ _ _) (by rw[hpre,vt hc2 hb3]))
     ·have hb3:dm b b.nodes[k].links[j]=true:=by simpa using hc3
      apply J.skip;refine zI fun k' V=>?_
      simp [h8, ba (show j < 4611686018427387904 by omega)];apply V;refine IH hc2 _ _ _ ⟨by simp[h4],by simp[h7],by simp,rfl,rfl,fun i hi hij=>?_⟩;rcases Nat.lt_or_ge i j with h | h
      ·exact bu i hi h
      ·have:i=j:=by omega
       subst this;exact hb3
    ·have hc2:¬ j<b.nodes[k].links.length:=by simpa using hc2
     have hje:j=b.nodes[k].links.length:=by omega
     subst hje;refine J.exit rfl ?_;refine zE fun k' V=>?_
     simp;apply V;exact J.ret func129 (aN.one results129) (hQ _ _ _ _ (.v _ _ _) (by rw[hpre,uI fun i hi=>bu i hi hi]))
 have hw:IntKind.i64.wrap ((sig.length:Int) - 1)=(sig.length:Int) - 1:=by rw[wrap64]<;>omega
 simp [h0, h7, hm7', hw];refine bw.cd aH aF (fB b.nodes[k].control 0 ((sig.length:Int) - 1)) sk (.cons (.v _ _ _) (.cons (.v _ _ _) (.cons (.v _ _ _) .nil))) (by decide) rfl (by simp) ?_;cases q1:within b.nodes[k].control 0 ((sig.length:Int) - 1)
 ·simp[guardOf];exact fin _ false (by simp[h4]) (by simp[h7]) (by simp) (by simp only[cg,hgk,q1];simp)
 simp[h0,h2,h4,h7,hm4',hm7',guardOf];refine bw.cd aH aF (rK sig b b.nodes[k].parent k hpar hr (by omega) hctl) e130 (.cons (aM.bj false sig) (.cons (aM.cw false b) (.cons (.v _ _ _) (.cons (.v _ _ _) .nil)))) (by decide) rfl (by simp[cw,aD.cells,bP,encI,encS,bX,bj]) ?_;cases q2:bM sig b b.nodes[k].parent k
 ·simp[guardOf];exact fin _ false (by simp[h4]) (by simp[h7]) (by simp) (by simp only[cg,hgk,q2];simp)
 have q1':=q1;simp only[within,Bool.and_eq_true,decide_eq_true_eq] at q1';obtain⟨c,hc⟩:∃ c:Nat,b.nodes[k].control=c:=⟨b.nodes[k].control.toNat,by omega⟩
 have hcl:c<sig.length:=by omega
 have q1c:=q1;rw[hc] at q1c;have hgc:sig.getD c default=sig[c]:=by simp[hcl]
 by_cases q3:(b.nodes[k].links.length:Int)=sig[c].ports
 ·have q3':((b.nodes[k].links.length:Int) != sig[c].ports)=false:=by simpa using q3
  simp[h0,h7,hm7',hc,hcl,q3',Control.cells,guardOf];exact fin _ true (by simp[h4]) (by simp[h7]) (by simp) (by simp only[cg,hgk,q1c,q2,hc,Int.toNat_natCast,hgc,q3];simp)
 ·have q3':((b.nodes[k].links.length:Int) != sig[c].ports)=true:=by simpa using q3
  simp[h0,h7,hm7',hc,hcl,q3',Control.cells,guardOf];exact fin _ false (by simp[h4]) (by simp[h7]) (by simp) (by simp only[cg,hgk,q1c,q2,hc,Int.toNat_natCast,hgc,q3];simp)
end Go.Ab
namespace Go.Ab
open Go.Proofs
theorem AJ {sig:dE} {b:aD} {k:Nat} (h:∀ i,i<k->cg sig b i=true):qe sig b k:=by
 induction k with
 | zero=>intro i hi;omega
 | succ k ih=>exact xt (h k (by omega)) (ih fun i hi=>h i (by omega))
def sl (sig:dE) (b:aD):Bool:=gx sig && within b.roots 0 4 && decide (b.nodes.length<=8) && decide (b.sites.length<=4) && within b.edges 0 8
def xk (b:aD):Bool:=cT b.outer && cT (names b)
theorem nZ (sig:dE) (b:aD):dL sig b=(sl sig b && xk b):=by
 simp only[dL,sl,xk,Bool.and_assoc]
theorem tP (sig:dE) (b:aD) (hs:cQ sig b):aB prog 93 [bj false sig,cw false b] (fun r=>r=bool (iC sig b)):=by
 obtain⟨s1,s2,s3,s4,s5,s6,s7,s8,s9,s10,s11⟩:=id hs;have hnl:(names b).length<=1048576:=by simpa[names] using s6
 have hnn:∀ s ∈ names b,s.length<=1048576:=by
  intro s hs;obtain⟨w,hw,rfl⟩:=List.mem_map.1 hs;exact s8 w hw
 refine aB.of func93 rfl ntmps93 (by simp) fun Q hQ=>?_
 have no:iC sig b=false->∀ H n,Q (bool false) H n:=fun h H n=>hQ _ _ _ _ (.v _ _ _) (by rw[h])
 refine zE fun k' V=>?_
 simp [bj, cw, aD.cells];apply V;refine J.cut (fun O H n=>O 0 = .list false (sig.map Control.cells)/\O 3 = .ptr (0,3) 1 0 0/\H (0,3)=some ⟨6,[b.cells false]⟩) ⟨by simp,by simp,by simp[aD.cells]⟩ ?_;clear V;rintro O H n ⟨h0,h3,hm3⟩;have hm3':=hm3;simp only[aD.cells,bP,encI,encS,bX] at hm3';refine zS fun k' V=>?_
 have fin:∀ O:Env,O 0 = .list false (sig.map Control.cells)->O 3 = .ptr (0,3) 1 0 0->O 34=bool (!sl sig b)->J prog 93 98 k' O H n Q:=by
  clear h0 h3;intro O h0 h3 h34;apply V;refine J.ite h34 (fun hc1 => ?_) (fun hc1 => ?_)
  ·have hb:sl sig b=false:=by simpa using hc1
   refine zE fun k' V=>?_
   simp;apply V;exact J.ret func93 (aN.one results93) (no (by rw[eM,nZ,hb];rfl) _ _)
  ·have hb1:sl sig b=true:=by simpa using hc1
   have hb':=hb1;simp only[sl,within,Bool.and_eq_true,decide_eq_true_eq] at hb';obtain⟨⟨⟨⟨_,hr⟩,hn8⟩,_⟩,hed⟩:=hb';apply J.skip;refine zS fun k' V=>?_
   have fin2:∀ O:Env,O 0 = .list false (sig.map Control.cells)->O 3 = .ptr (0,3) 1 0 0->O 50=bool (!xk b)->J prog 93 98 k' O H n Q:=by
    clear h0 h3;intro O h0 h3 h50;apply V;refine J.ite h50 (fun hc1 => ?_) (fun hc1 => ?_)
    ·have hb:xk b=false:=by simpa using hc1
     refine zE fun k' V=>?_
     simp;apply V;exact J.ret func93 (aN.one results93) (no (by rw[eM,nZ,hb,Bool.and_false];rfl) _ _)
    ·have hb2:xk b=true:=by simpa using hc1
     have hpre:dL sig b=true:=by rw[nZ,hb1,hb2];rfl
     apply J.skip;refine zS fun k' V=>?_
     simp;apply V;refine J.block (J.bV b.nodes.length (fun k ρ' H' n'=>ρ' 0 = .list false (sig.map Control.cells)/\ρ' 3 = .ptr (0,3) 1 0 0/\ρ' 5=int k/\H'=H/\n'=n/\∀ i,i<k->cg sig b i=true) ?_ ?_)
     ·exact⟨by simp[h0],by simp[h3],by simp,rfl,rfl,fun i hi=>by omega⟩
     ·clear h0 h3;rintro k O H' n' hk ⟨h0,h3,h5,rfl,rfl,bu⟩ IH;refine zS fun k' V=>?_
      simp [h3, h5, hm3'];apply V;refine J.ite rfl (fun hc2 => ?_) (fun hc2 => ?_)
      ·have hc2:k<b.nodes.length:=by simpa using hc2
       apply zK;apply J.block;refine zE fun k' V=>?_
       simp [h0, h3, h5, hm3'];refine zA (Cr sig b hs k hc2 hr hed (AJ bu)) e129 (.cons (aM.bj false sig) (.cons (aM.cw false b) (.cons (.v _ _ _) .nil))) (by simp[h0,h5,bj,cw,aD.cells,bP,encI,encS,bX]) ?_;rintro _ rfl;simp;apply V;refine J.ite rfl (fun hc3 => ?_) (fun hc3 => ?_)
       ·have hb3:cg sig b k=false:=by simpa using hc3
        refine zE fun k' V=>?_
        simp;apply V;exact J.ret func93 (aN.one results93) (no (by rw[eM,dS hc2 hb3,Bool.and_false];rfl) _ _)
       ·have hb3:cg sig b k=true:=by simpa using hc3
        apply J.skip;refine zI fun k' V=>?_
        simp [h5, ba (show k < 4611686018427387904 by omega)];apply V;refine IH hc2 _ _ _ ⟨by simp[h0],by simp[h3],by simp,rfl,rfl,fun i hi=>?_⟩;rcases Nat.lt_or_ge i k with h | h
        ·exact bu i h
        ·rw[show i=k by omega];exact hb3
      ·have hc2:¬ k<b.nodes.length:=by simpa using hc2
       have hke:k=b.nodes.length:=by omega
       subst hke;have hnodes:=dR bu;have hctl:=AJ bu;refine J.exit rfl ?_;refine zS fun k' V=>?_
       simp;apply V;clear IH bu h5;refine J.block (J.bV b.sites.length (fun k ρ' H2 n2=>ρ' 0 = .list false (sig.map Control.cells)/\ρ' 3 = .ptr (0,3) 1 0 0/\ρ' 6=int k/\H2=H'/\n2=n'/\∀ i (hi:i<b.sites.length),i<k->bM sig b b.sites[i] b.nodes.length=true) ?_ ?_)
       ·exact⟨by simp[h0],by simp[h3],by simp,rfl,rfl,fun i hi h=>by omega⟩
       ·clear h0 h3;rintro k O H2 n2 hk2 ⟨h0,h3,h6,rfl,rfl,bu⟩ IH;refine zS fun k' V=>?_
        simp [h3, h6, hm3'];apply V;refine J.ite rfl (fun hc4 => ?_) (fun hc4 => ?_)
        ·have hc4:k<b.sites.length:=by simpa using hc4
         apply zK;apply J.block;refine J.ed aH aF bN (by decide) (by kernel_rfl) fun k' V=>?_
         simp [h0, h3, h6, hm3', hc4, ay];refine bw.cd aH aF (rK sig b b.sites[k] b.nodes.length (s11 _ (List.getElem_mem hc4)) hr (Nat.le_refl _) hctl) e130 (.cons (aM.bj false sig) (.cons (aM.cw false b) (.cons (.v _ _ _) (.cons (.v _ _ _) .nil)))) (by decide) rfl (by simp[h0,bj,cw,aD.cells,bP,encI,encS,bX,ay]) ?_;simp;apply V;refine J.ite rfl (fun hc5 => ?_) (fun hc5 => ?_)
         ·have hb3:bM sig b b.sites[k] b.nodes.length=false:=by simpa using hc5
          refine zE fun k' V=>?_
          simp;apply V;exact J.ret func93 (aN.one results93) (no (by rw[eM,vt hc4 hb3,Bool.and_false];rfl) _ _)
         ·have hb3:bM sig b b.sites[k] b.nodes.length=true:=by simpa using hc5
          apply J.skip;refine zI fun k' V=>?_
          simp [h6, ba (show k < 4611686018427387904 by omega)];apply V;refine IH hc4 _ _ _ ⟨by simp[h0],by simp[h3],by simp,rfl,rfl,fun i hi hij=>?_⟩;rcases Nat.lt_or_ge i k with h | h
          ·exact bu i hi h
          ·have:i=k:=by omega
           subst this;exact hb3
        ·have hc4:¬ k<b.sites.length:=by simpa using hc4
         have hke:k=b.sites.length:=by omega
         subst hke;have hsites:=uI (l:=b.sites) (p:=fun p=>bM sig b p b.nodes.length) fun i hi=>bu i hi hi
         refine J.exit rfl ?_;refine zS fun k' V=>?_
         simp;apply V;clear IH bu h6;refine J.block (J.bV b.inner.length (fun k ρ' H3 n3=>ρ' 3 = .ptr (0,3) 1 0 0/\ρ' 7=int k/\H3=H2/\n3=n2/\∀ i (hi:i<b.inner.length),i<k->dm b b.inner[i].link=true) ?_ ?_)
         ·exact⟨by simp[h3],by simp,rfl,rfl,fun i hi h=>by omega⟩
         ·clear h0 h3;rintro k O H3 n3 hk3 ⟨h3,h7,rfl,rfl,bu⟩ IH;refine zS fun k' V=>?_
          simp [h3, h7, hm3'];apply V;refine J.ite rfl (fun hc6 => ?_) (fun hc6 => ?_)
          ·have hc6:k<b.inner.length:=by simpa using hc6
           apply zK;apply J.block;refine J.ed aH aF bN (by decide) (by kernel_rfl) fun k' V=>?_
           simp [h3, h7, hm3', hc6, aQ.cells];refine bw.cd aH aF (tS b b.inner[k].link hed s5) e131 (.cons (aM.cw false b) (.cons (.v _ _ _) .nil)) (by decide) rfl (by simp[cw,aD.cells,bP,encI,encS,bX,aQ.cells]) ?_;simp;apply V;refine J.ite rfl (fun hc7 => ?_) (fun hc7 => ?_)
           ·have hb3:dm b b.inner[k].link=false:=by simpa using hc7
            refine zE fun k' V=>?_
            simp;apply V;exact J.ret func93 (aN.one results93) (no (by rw[eM,vt (l:=b.inner) (p:=fun w=>dm b w.link) hc6 hb3,Bool.and_false]) _ _)
           ·have hb3:dm b b.inner[k].link=true:=by simpa using hc7
            apply J.skip;refine zI fun k' V=>?_
            simp [h7, ba (show k < 4611686018427387904 by omega)];apply V;refine IH hc6 _ _ _ ⟨by simp[h3],by simp,rfl,rfl,fun i hi hij=>?_⟩;rcases Nat.lt_or_ge i k with h | h
            ·exact bu i hi h
            ·have:i=k:=by omega
             subst this;exact hb3
          ·have hc6:¬ k<b.inner.length:=by simpa using hc6
           have hke:k=b.inner.length:=by omega
           subst hke;have hinner:=uI (l:=b.inner) (p:=fun w=>dm b w.link) fun i hi=>bu i hi hi
           refine J.exit rfl ?_;refine zE fun k' V=>?_
           simp;apply V;exact J.ret func93 (aN.one results93) (hQ _ _ _ _ (.v _ _ _) (by rw[eM,hpre,hnodes,hsites,hinner];rfl))
   simp [h3, hm3'];refine zA (rD b.outer s5 s7) e127 (.cons (aM.encS false b.outer) .nil) (by simp[encS]) ?_;rintro _ rfl;cases p6:cT b.outer
   ·simp[guardOf];exact fin2 _ (by simp[h0]) (by simp[h3]) (by simp only[xk,p6];simp)
   by_cases p7:(16:Int)<b.inner.length
   ·simp[h3,hm3',p7,guardOf];refine fin2 _ (by simp[h0]) (by simp[h3]) ?_;have:cT (names b)=false:=by
     rw[fC,show decide ((names b).length<=16)=false by simp[names];omega,Bool.false_and]
    simp only[xk,this];simp
   simp[h3,hm3',p7,guardOf];refine zA (Au b s6) e128 (.cons (aM.cw false b) .nil) (by simp[cw,aD.cells,bP,encI,encS,bX]) ?_;rintro _ rfl;simp;refine zA (rD (names b) hnl hnn) e127 (.cons (aM.encS true (names b)) .nil) (by simp[encS]) ?_;rintro _ rfl;simp;exact fin2 _ (by simp[h0]) (by simp[h3]) (by simp only[xk,p6];simp)
 simp [h0];refine zA (Ei sig s1 s2) e125 (.cons (aM.bj false sig) .nil) (by simp[bj,h0]) ?_;rintro _ rfl;cases p1:gx sig
 ·simp[guardOf];exact fin _ (by simp[h0]) (by simp[h3]) (by simp only[sl,p1];simp)
 simp[h3,hm3',guardOf];refine zA (fB b.roots 0 4) sk (.cons (.v _ _ _) (.cons (.v _ _ _) (.cons (.v _ _ _) .nil))) (by simp) ?_;rintro _ rfl;cases p2:within b.roots 0 4
 ·simp[guardOf];exact fin _ (by simp[h0]) (by simp[h3]) (by simp only[sl,p2];simp)
 by_cases p3:(8:Int)<b.nodes.length
 ·simp[h3,hm3',p3,guardOf];exact fin _ (by simp[h0]) (by simp[h3]) (by simp only[sl,show ¬ b.nodes.length<=8 by omega];simp)
 by_cases p4:(4:Int)<b.sites.length
 ·simp[h3,hm3',p3,p4,guardOf];exact fin _ (by simp[h0]) (by simp[h3]) (by simp only[sl,show ¬ b.sites.length<=4 by omega];simp)
 simp[h3,hm3',p3,p4,guardOf];refine zA (fB b.edges 0 8) sk (.cons (.v _ _ _) (.cons (.v _ _ _) (.cons (.v _ _ _) .nil))) (by simp) ?_;rintro _ rfl;simp;exact fin _ (by simp[h0]) (by simp[h3]) (by simp only[sl,p1,p2,show b.nodes.length<=8 by omega,show b.sites.length<=4 by omega];simp)
end Go.Ab
namespace Go.Ab
open Go.Proofs
theorem e152:aW prog 152:=aW.of func152 (by kernel_rfl) rfl
theorem EZ:aW prog 115:=aW.of func115 (by kernel_rfl) rfl
theorem Fm:aW prog 140:=aW.of func140 (by kernel_rfl) rfl
theorem Dz (t:Bool) (l:List Int) (x:Int) (hl:l.length<=1048576):aB prog 152 [encI t l,int x] (fun r=>r=int (tn l (fun y=>x == y))):=by
 refine aB.of func152 rfl ntmps152 (by simp) fun Q hQ=>?_
 refine zE fun _ V=>?_
 simp [encI];apply V;refine zS fun _ V=>?_
 simp;apply V;refine J.block (J.bV l.length (fun k O H' n'=>O 0 = .list t (l.map ay)/\O 1=int x/\O 7=int l.length/\O 8=int k/\∀ i (h:i<l.length),i<k->(x == l[i])=false) ?_ ?_)
 ·simp
 ·rintro k O H' n' hk ⟨h0,h1,h7,h8,hno⟩ IH;refine zE fun _ V=>?_
  simp [h7, h8];apply V;apply J.seq;refine J.ite rfl (fun hc1 => ?_) (fun hc1 => ?_)
  ·have hc1:k<l.length:=by simpa using hc1
   apply zK;apply J.block;refine zE fun _ V=>?_
   simp [h8];apply V;refine zE fun _ V=>?_
   simp [h0, h1, hc1, ay];apply V;refine J.ite rfl (fun hc2 => ?_) (fun hc2 => ?_)
   ·have hc2:(x == l[k])=true:=by simpa using hc2
    refine zE fun _ V=>?_
    simp;apply V;refine J.ret func152 (aN.one results152) (hQ _ _ _ _ (.v _ _ _) ?_);simp[qy (p:=fun y=>x == y) hc1 hc2 hno]
   ·have hc2:(x == l[k])=false:=by simpa using hc2
    apply J.skip;refine zI fun _ V=>?_
    simp [h8, ba (show k < 4611686018427387904 by omega)];apply V;refine IH hc1 _ _ _ ⟨by simp[h0,ay],by simp[h1],by simp[h7],by simp,fun i h hi=>?_⟩;rcases Nat.lt_or_ge i k with hik | hik
    ·exact hno i h hik
    ·have:i=k:=by omega
     subst this;exact hc2
  ·have hc1:¬ k<l.length:=by simpa using hc1
   have hke:k=l.length:=by omega
   subst hke;refine J.exit rfl ?_;refine zE fun _ V=>?_
   simp;apply V;refine J.ret func152 (aN.one results152) (hQ _ _ _ _ (.v _ _ _) ?_);simp[qI (p:=fun y=>x == y) fun i h=>hno i h h]
theorem xP (l:List Int) (x:Int) (hl:l.length<=1048576):aB prog 115 [encI false l,int x] (fun r=>r=bool (l.any (fun y=>x == y))):=by
 refine aB.of func115 rfl ntmps115 (by simp) fun Q hQ=>?_
 refine zE fun _ V=>?_
 simp [encI];apply V;refine zE fun _ V=>?_
 simp;refine zA (Dz false l x hl) e152 (.cons (aM.encI false l) (.cons (.v _ _ _) .nil)) (by simp[encI]) ?_;rintro _ rfl;simp;apply V;refine J.ret func115 (aN.one results115) (hQ _ _ _ _ (.v _ _ _) ?_);have:=o6 l (fun y=>x == y);simp only[Env.put];simp[this]
theorem Dl (l:List Int) (x:Int) (hl:l.length<=1048576):aB prog 140 [encI false l,int x] (fun r=>r=bool (l.any (fun y=>x == y))):=by
 refine aB.of func140 rfl ntmps140 (by simp) fun Q hQ=>?_
 refine zE fun _ V=>?_
 simp [encI];apply V;refine zS fun _ V=>?_
 simp;apply V;refine J.block (J.bV l.length (fun k O H' n'=>O 0 = .list false (l.map ay)/\O 1=int x/\O 5=int k/\∀ i (h:i<l.length),i<k->¬ l[i]=x) ?_ ?_)
 ·simp
 ·rintro k O H' n' hk ⟨h0,h1,h5,hno⟩ IH;refine zS fun _ V=>?_
  simp [h0, h5];apply V;refine J.ite rfl (fun hc1 => ?_) (fun hc1 => ?_)
  ·have hc1:k<l.length:=by simpa using hc1
   apply zK;apply J.block;refine zE fun _ V=>?_
   simp [h0, h1, h5, hc1, ay];apply V;refine J.ite rfl (fun hc2 => ?_) (fun hc2 => ?_)
   ·have hc2:l[k]=x:=by simpa using hc2
    refine zE fun _ V=>?_
    simp;apply V;refine J.ret func140 (aN.one results140) (hQ _ _ _ _ (.v _ _ _) ?_);have:l.any (fun y=>x == y)=true:=by
     rw[List.any_eq_true];exact⟨l[k],List.getElem_mem hc1,by simp[hc2]⟩
    rw[this];try rfl
   ·have hc2:¬ l[k]=x:=by simpa using hc2
    apply J.skip;refine zI fun _ V=>?_
    simp [h5, ba (show k < 4611686018427387904 by omega)];apply V;refine IH hc1 _ _ _ ⟨by simp[h0,ay],by simp[h1],by simp,fun i h hi=>?_⟩;rcases Nat.lt_or_ge i k with hik | hik
    ·exact hno i h hik
    ·have:i=k:=by omega
     subst this;exact hc2
  ·have hc1:¬ k<l.length:=by simpa using hc1
   have hke:k=l.length:=by omega
   subst hke;refine J.exit rfl ?_;refine zE fun _ V=>?_
   simp;apply V;refine J.ret func140 (aN.one results140) (hQ _ _ _ _ (.v _ _ _) ?_);have:l.any (fun y=>x == y)=false:=by
    rw[List.any_eq_false];intro y hy;obtain⟨i,hi,rfl⟩:=List.getElem_of_mem hy;have:=hno i hi hi;simpa using fun h=>this h.symm
   rw[this];try rfl
end Go.Ab
namespace Go.Ab
open Go.Proofs
end Go.Ab
namespace Go.Ab.Vg
structure D4 (sig:dE):Prop where
 len:1<=sig.length/\sig.length<=6
 ports:∀ c ∈ sig,0<=c.ports/\c.ports<=3
 kind:∀ c ∈ sig,0<=c.kind/\c.kind<=2
structure dI (sig:dE) (b:aD):Prop where
 sg:D4 sig
 roots:0<=b.roots/\b.roots<=4
 len:b.nodes.length<=8
 slen:b.sites.length<=4
 edges:0<=b.edges/\b.edges<=8
 outer:b.outer.length<=16
 inner:b.inner.length<=16
 ctl:∀ i (h:i<b.nodes.length),0<=b.nodes[i].control/\b.nodes[i].control<sig.length
 par:∀ i (h:i<b.nodes.length),-b.roots<=b.nodes[i].parent/\b.nodes[i].parent<i
 ports:∀ i (h:i<b.nodes.length),(b.nodes[i].links.length:Int)=(sig.getD b.nodes[i].control.toNat default).ports
 links:∀ i (h:i<b.nodes.length),∀ l ∈ b.nodes[i].links,0<=l/\l<b.edges+b.outer.length
 sites:∀ p ∈ b.sites,-b.roots<=p/\p<b.nodes.length
 wires:∀ w ∈ b.inner,0<=w.link/\w.link<b.edges+b.outer.length
theorem sN {sig:dE} (h:gx sig=true):D4 sig:=by
 simp only[gx,within,cR,Bool.and_eq_true,decide_eq_true_eq,List.all_eq_true,List.mem_range] at h;obtain⟨h1,h2⟩:=h;refine⟨by omega,fun c hc=>?_,fun c hc=>?_⟩<;>obtain⟨i,hi,rfl⟩:=List.getElem_of_mem hc<;>have:=h2 i hi<;>simp only[List.getD_eq_getElem?_getD,List.getElem?_eq_getElem hi,Option.getD_some] at this
 ·exact this.1.1.2
 ·exact this.1.2
theorem jj {sig:dE} {b:aD} (h:iC sig b=true):dI sig b:=by
 simp only[iC,Bool.and_eq_true,decide_eq_true_eq,List.all_eq_true,List.mem_range] at h;obtain⟨⟨⟨⟨⟨⟨⟨⟨⟨hs,hr⟩,hn⟩,hst⟩,he⟩,ho⟩,hi⟩,hno⟩,hsi⟩,hw⟩:=h;have hV:=sN hs;simp only[within,Bool.and_eq_true,decide_eq_true_eq] at hr he;simp only[cT,Bool.and_eq_true,decide_eq_true_eq,List.length_map] at ho hi;have hno2:∀ i (h:i<b.nodes.length),(0<=b.nodes[i].control/\b.nodes[i].control<=(sig.length:Int) - 1)/\bM sig b b.nodes[i].parent i=true/\(b.nodes[i].links.length:Int)=(sig.getD b.nodes[i].control.toNat default).ports/\∀ l ∈ b.nodes[i].links,dm b l=true:=fun i h=>by
  have:=hno i h;simp only[cg,within,Bool.and_eq_true,decide_eq_true_eq,List.all_eq_true,List.getD_eq_getElem?_getD,List.getElem?_eq_getElem h,Option.getD_some] at this;exact⟨this.1.1.1,this.1.1.2,by simpa using this.1.2,this.2⟩
 have hp:∀ p (m:Nat),bM sig b p m=true -> -b.roots<=p/\p<m:=fun p m h=>by
  simp only[bM] at h
  split at h
  ·simp only[decide_eq_true_eq] at h;omega
  ·simp only[Bool.and_eq_true,decide_eq_true_eq] at h;omega
 have hl:∀ l,dm b l=true->0<=l/\l<b.edges+b.outer.length:=fun l h=>by
  simp only[dm,within,Bool.and_eq_true,decide_eq_true_eq] at h;omega
 exact⟨hV,hr,hn,hst,he,ho.1,hi.1,fun i h=>by have:=(hno2 i h).1;omega,fun i h=>hp _ _ (hno2 i h).2.1,fun i h=>(hno2 i h).2.2.1,fun i h l hm=>hl l ((hno2 i h).2.2.2 l hm),fun p hm=>hp _ _ (hsi p hm),fun w hm=>hl _ (hw w hm)⟩
theorem at_mem {α:Type} [Inhabited α] {l:List α} {i:Int} (h:0<=i/\i<l.length):at' l i ∈ l:=by
 obtain⟨h1,h2⟩:=pg h rfl;exact h2 ▸ List.getElem_mem h1
theorem AL {α:Type} [Inhabited α] {l:List α} {i:Int} (h:0<=i/\i<l.length):∃ h':i.toNat<l.length,at' l i=l[i.toNat]:=by
 obtain⟨h1,h2⟩:=pg h rfl;exact⟨h1,h2.symm⟩
theorem dI.ctlAt {sig:dE} {b:aD} (h:dI sig b) {i:Int} (hi:0<=i/\i<b.nodes.length):0<=(at' b.nodes i).control/\(at' b.nodes i).control<sig.length:=by
 obtain⟨h1,h2⟩:=AL hi;rw[h2];exact h.ctl _ h1
theorem dI.xO {sig:dE} {b:aD} (h:dI sig b) {i:Int} (hi:0<=i/\i<b.nodes.length) : -b.roots<=(at' b.nodes i).parent/\(at' b.nodes i).parent<i:=by
 obtain⟨h1,h2⟩:=AL hi;rw[h2];have:=h.par _ h1;omega
theorem dI.u4 {sig:dE} {b:aD} (h:dI sig b) {i:Int} (hi:0<=i/\i<b.nodes.length):((at' b.nodes i).links.length:Int)=(at' sig (at' b.nodes i).control).ports:=by
 obtain⟨h1,h2⟩:=AL hi;have h3:=h.ports _ h1;have h4:=h.ctl _ h1;rw[h2,h3];simp[at']
theorem dI.AD {sig:dE} {b:aD} (h:dI sig b) {i:Int} (hi:0<=i/\i<b.nodes.length):∀ l ∈ (at' b.nodes i).links,0<=l/\l<b.edges+b.outer.length:=by
 obtain⟨h1,h2⟩:=AL hi;rw[h2];exact h.links _ h1
theorem dI.E8 {sig:dE} {b:aD} (h:dI sig b) {i:Int} (hi:0<=i/\i<b.nodes.length):(at' b.nodes i).links.length<=3:=by
 have h1:=h.u4 hi;have h2:=h.ctlAt hi;have h3:=h.sg.ports _ (at_mem (l:=sig) h2);omega
end Go.Ab.Vg
namespace Go.Ab.Vg
def dG (b:aD) (p:Int):List Int:=idxs b.nodes (fun x=>decide (x.parent=p)) b.nodes.length
def iE (b:aD) (p:Int):List Int:=idxs b.sites (fun x=>decide (x=p)) b.sites.length
abbrev kR (b:aD) (p:Int):=dG b p
abbrev dn (b:aD) (_:Int):Prop:=b.nodes.length<=1048576
def mw (b:aD) (parent:Int) (Z:(List Int)->Prop):Prop:=
 aG (σ:=Int × (List Int)) (fun (i14,l15) K19=>∀ len20:Int,len20=(b.nodes.length:Int)->∀ c22:Bool,c22=decide (i14<len20)->((c22=true->(0<=i14/\i14<b.nodes.length)/\∀ x25:aA,x25=at' b.nodes i14->∀ c27:Bool,c27=decide (x25.parent=parent)->((c27=true->(l15.length+1<=1073741824)/\∀ l30:List Int,l30=l15++[i14]->(bp (i14+1))/\∀ v40:Int,v40=i14+1->K19 (v40,l30))/\(c27=false->(bp (i14+1))/\∀ v43:Int,v43=i14+1->K19 (v43,l15))))/\(c22=false->Z l15))) (0,([]:List Int))
theorem Cg (b:aD) (p:Int) (h:dn b p):mw b p (fun y=>y=kR b p):=by
 unfold mw;refine aG.sE b.nodes.length (fun k out=>out=idxs b.nodes (fun x=>decide (x.parent=p)) k) [] rfl ?_;rintro k out K hk rfl IH;have hl:=iW b.nodes (fun x=>decide (x.parent=p)) k;simp only[dn] at h;simp only[forall_eq,decide_eq_true_eq,decide_eq_false_iff_not,bp];refine⟨fun h1=>⟨by omega,fun h2=>⟨by omega,by omega,?_⟩,fun h2=>⟨by omega,?_⟩⟩,fun h1=>?_⟩
 ·exact IH (by omega) _ (j3 _ _ (by simpa using h2)).symm
 ·exact IH (by omega) _ (mI _ _ (by simpa using h2)).symm
 ·rw[show k=b.nodes.length by omega];rfl
abbrev k8 (b:aD) (p:Int):=iE b p
abbrev ee (b:aD) (_:Int):Prop:=b.sites.length<=1048576
def kY (b:aD) (parent:Int) (Z:(List Int)->Prop):Prop:=
 aG (σ:=Int × (List Int)) (fun (i14,l15) K19=>∀ len20:Int,len20=(b.sites.length:Int)->∀ c22:Bool,c22=decide (i14<len20)->((c22=true->(0<=i14/\i14<b.sites.length)/\∀ x25:Int,x25=at' b.sites i14->∀ c27:Bool,c27=decide (x25=parent)->((c27=true->(l15.length+1<=1073741824)/\∀ l30:List Int,l30=l15++[i14]->(bp (i14+1))/\∀ v40:Int,v40=i14+1->K19 (v40,l30))/\(c27=false->(bp (i14+1))/\∀ v43:Int,v43=i14+1->K19 (v43,l15))))/\(c22=false->Z l15))) (0,([]:List Int))
theorem yn (b:aD) (p:Int) (h:ee b p):kY b p (fun y=>y=k8 b p):=by
 unfold kY;refine aG.sE b.sites.length (fun k out=>out=idxs b.sites (fun x=>decide (x=p)) k) [] rfl ?_;rintro k out K hk rfl IH;have hl:=iW b.sites (fun x=>decide (x=p)) k;simp only[ee] at h;simp only[forall_eq,decide_eq_true_eq,decide_eq_false_iff_not,bp];refine⟨fun h1=>⟨by omega,fun h2=>⟨by omega,by omega,?_⟩,fun h2=>⟨by omega,?_⟩⟩,fun h1=>?_⟩
 ·exact IH (by omega) _ (j3 _ _ (by simpa using h2)).symm
 ·exact IH (by omega) _ (mI _ _ (by simpa using h2)).symm
 ·rw[show k=b.sites.length by omega];rfl
abbrev dJ (b:aD) (p:Int):=(dG b p,iE b p)
abbrev bH (b:aD) (_:Int):Prop:=b.nodes.length<=1048576/\b.sites.length<=1048576
def fZ (b:aD) (parent:Int) (Z:((List Int) × (List Int))->Prop):Prop:=
 ∀ iJ:Int,iJ=(b.nodes.length:Int)->aG (σ:=Int × (List Int)) (fun (v20,l21) K26=>∀ c27:Bool,c27=decide (v20<iJ)->((c27=true->(0<=v20/\v20<b.nodes.length)/\∀ x30:aA,x30=at' b.nodes v20->∀ c36:Bool,c36=decide (x30.parent=parent)->((c36=true->(l21.length+1<=1073741824)/\∀ l39:List Int,l39=l21++[v20]->(bp (v20+1))/\∀ v50:Int,v50=v20+1->K26 (v50,l39))/\(c36=false->(bp (v20+1))/\∀ v53:Int,v53=v20+1->K26 (v53,l21))))/\(c27=false->∀ len55:Int,len55=(b.sites.length:Int)->aG (σ:=Int × (List Int)) (fun (v66,l67) K72=>∀ c73:Bool,c73=decide (v66<len55)->((c73=true->(0<=v66/\v66<b.sites.length)/\∀ x76:Int,x76=at' b.sites v66->∀ c78:Bool,c78=decide (x76=parent)->((c78=true->(l67.length+1<=1073741824)/\∀ l81:List Int,l81=l67++[v66]->(bp (v66+1))/\∀ v92:Int,v92=v66+1->K72 (v92,l81))/\(c78=false->(bp (v66+1))/\∀ v95:Int,v95=v66+1->K72 (v95,l67))))/\(c73=false->Z (l21,l67)))) (0,([]:List Int))))) (0,([]:List Int))
theorem tc (b:aD) (p:Int) (h:bH b p):fZ b p (fun y=>y=dJ b p):=by
 unfold fZ;rintro _ rfl;simp only[bH] at h;refine aG.sE b.nodes.length (fun k out=>out=idxs b.nodes (fun x=>decide (x.parent=p)) k) [] rfl ?_;rintro k out K hk rfl IH;have hl:=iW b.nodes (fun x=>decide (x.parent=p)) k;simp only[forall_eq,decide_eq_true_eq,decide_eq_false_iff_not,bp];refine⟨fun h1=>⟨by omega,fun h2=>⟨by omega,by omega,?_⟩,fun h2=>⟨by omega,?_⟩⟩,fun h1=>?_⟩
 ·exact IH (by omega) _ (j3 _ _ (by simpa using h2)).symm
 ·exact IH (by omega) _ (mI _ _ (by simpa using h2)).symm
 rw[show k=b.nodes.length by omega];clear hl hk IH K h1;refine aG.sE b.sites.length (fun k out=>out=idxs b.sites (fun x=>decide (x=p)) k) [] rfl ?_;rintro k out K hk rfl IH;have hl:=iW b.sites (fun x=>decide (x=p)) k;dsimp only;refine⟨fun h1=>⟨by omega,fun h2=>⟨by omega,by omega,?_⟩,fun h2=>⟨by omega,?_⟩⟩,fun h1=>?_⟩
 ·exact IH (by omega) _ (j3 _ _ (by simpa using h2)).symm
 ·exact IH (by omega) _ (mI _ _ (by simpa using h2)).symm
 ·rw[show k=b.sites.length by omega];rfl
end Go.Ab.Vg
namespace Go.Ab.Vg
def lP (b:aD) (l:Int) (i k:Nat):List (Int × Int):=(idxs (at' b.nodes (i:Int)).links (fun x=>decide (x=l)) k).map fun z=>((i:Int),z)
def de (b:aD) (l:Int) (i:Nat):List (Int × Int):=((List.range i).map fun j=>lP b l j (at' b.nodes (j:Int)).links.length).flatten
def cn (b:aD) (l:Int):List (Int × Int):=de b l b.nodes.length
def iR (b:aD) (l:Int) (i:Nat):List cB:=((b.inner.take i).filter fun w=>decide (w.link=l)).map (·.name)
def sn (b:aD) (l:Int):List cB:=(b.inner.filter fun w=>decide (w.link=l)).map (·.name)
theorem ew (b:aD) (l:Int) (i:Nat):de b l (i+1)=de b l i++lP b l i (at' b.nodes (i:Int)).links.length:=by simp[de,List.range_succ]
theorem j7 (b:aD) (l:Int) (i:Nat):lP b l i 0=[]:=rfl
theorem oQ {b:aD} {l:Int} {i k:Nat} (h:at' (at' b.nodes (i:Int)).links (k:Int)=l):lP b l i (k+1)=lP b l i k++[((i:Int),(k:Int))]:=by
 rw[lP,j3 _ _ (by simpa using h),List.map_append];rfl
theorem qL {b:aD} {l:Int} {i k:Nat} (h:¬ at' (at' b.nodes (i:Int)).links (k:Int)=l):lP b l i (k+1)=lP b l i k:=by
 rw[lP,mI _ _ (by simpa using h)];rfl
theorem rm (b:aD) (l:Int) (i k:Nat):(lP b l i k).length<=k:=by rw[lP,List.length_map];exact iW _ _ _
theorem gA {b:aD} {m:Nat} (h:∀ i,i<b.nodes.length->(at' b.nodes (i:Int)).links.length<=m) (l:Int):∀ i,i<=b.nodes.length->(de b l i).length<=m * i
 | 0,_=>by simp[de]
 | i+1,hi=>by
  rw[ew,List.length_append];have h1:=gA h l i (by omega);have h2:=rm b l i (at' b.nodes (i:Int)).links.length;have h3:=h i (by omega);rw[Nat.mul_succ];omega
theorem xX {b:aD} {l:Int} {i:Nat} {p:Int × Int}:p ∈ de b l i↔∃ j:Nat,j<i/\p.1=j/\0<=p.2/\p.2<(at' b.nodes (j:Int)).links.length/\at' (at' b.nodes (j:Int)).links p.2=l:=by
 simp only[de,List.mem_flatten,List.mem_map,List.mem_range,lP]
 constructor
 ·rintro⟨_,⟨j,hj,rfl⟩,hp⟩;obtain⟨z,hz,rfl⟩:=List.mem_map.1 hp;have:=(rb _ _).1 hz;exact⟨j,hj,rfl,this.1,this.2.1,by simpa using this.2.2⟩
 ·rintro⟨j,hj,h1,h2,h3,h4⟩;refine⟨_,⟨j,hj,rfl⟩,List.mem_map.2 ⟨p.2,(rb _ _).2 ⟨h2,h3,by simpa using h4⟩,?_⟩⟩;exact Prod.ext h1.symm rfl
theorem jv {b:aD} (l:Int) {i:Nat} (h:i<b.inner.length):iR b l (i+1)=iR b l i++if b.inner[i].link=l then [b.inner[i].name] else []:=by
 rw[iR,List.take_succ_eq_append_getElem h,List.filter_append,List.map_append]
 congr 1
 by_cases hc:b.inner[i].link=l<;>simp[hc]
theorem nL (b:aD) (l:Int) (i:Nat):(iR b l i).length<=i:=by
 rw[iR,List.length_map];exact Nat.le_trans (List.length_filter_le _ _) (by simp;omega)
theorem nE (b:aD) (l:Int):iR b l b.inner.length=sn b l:=by simp[iR,sn]
abbrev nx (b:aD):Prop:=b.nodes.length<=1024/\(∀ i,i<b.nodes.length->(at' b.nodes (i:Int)).links.length<=1024)/\b.inner.length<=1048576
theorem dI.pL {sig:dE} {b:aD} (h:dI sig b):nx b:=by
 have h1:=h.len;have h2:=h.inner;exact⟨by omega,fun i hi=>by have:=h.E8 (i:=i) (by omega);omega,by omega⟩
abbrev gD (b:aD) (_:Int):Prop:=nx b
abbrev jI (b:aD) (l:Int):=cn b l
def kU (b:aD) (link:Int) (Z:(List (Int × Int))->Prop):Prop:=
 aG (σ:=Int × (List (Int × Int))) (fun (i14,l15) K19=>∀ len20:Int,len20=(b.nodes.length:Int)->∀ c22:Bool,c22=decide (i14<len20)->((c22=true->aG (σ:=Int × (List (Int × Int))) (fun (k31,l32) K36=>(0<=i14/\i14<b.nodes.length)/\∀ x38:aA,x38=at' b.nodes i14->∀ len40:Int,len40=(x38.links.length:Int)->∀ c42:Bool,c42=decide (k31<len40)->((c42=true->(0<=i14/\i14<b.nodes.length)/\∀ x45:aA,x45=at' b.nodes i14->(0<=k31/\k31<x38.links.length)/\∀ x49:Int,x49=at' x38.links k31->∀ c51:Bool,c51=decide (x49=link)->((c51=true->(l32.length+1<=1073741824)/\∀ l56:List (Int × Int),l56=l32++[(i14,k31)]->(bp (k31+1))/\∀ v66:Int,v66=k31+1->K36 (v66,l56))/\(c51=false->(bp (k31+1))/\∀ v69:Int,v69=k31+1->K36 (v69,l32))))/\(c42=false->(bp (i14+1))/\∀ v72:Int,v72=i14+1->K19 (v72,l32)))) (0,l15))/\(c22=false->Z l15))) (0,([]:List (Int × Int)))
theorem zi (b:aD) (l:Int) (h:gD b l):kU b l (fun y=>y=jI b l):=by
 unfold kU;obtain⟨h1,h2,h3⟩:=h;refine aG.sE b.nodes.length (fun i out=>out=de b l i) [] rfl ?_;rintro i out K hi rfl IH;simp only[forall_eq,decide_eq_true_eq,decide_eq_false_iff_not];refine⟨fun hc=>?_,fun hc=>by rw[show i=b.nodes.length by omega];rfl⟩;have hi1:i<b.nodes.length:=by omega
 have hpl:=gA h2 l i (by omega);have hli:=h2 i hi1;refine aG.sE (at' b.nodes (i:Int)).links.length (fun k out=>out=de b l i++lP b l i k) _ (by simp[j7]) ?_;rintro k out K2 hk rfl IH2;have hrl:=rm b l i k;dsimp only;refine⟨by omega,fun hc2=>⟨by omega,by omega,fun hc3=>⟨by simp;omega,by simp only[bp];omega,IH2 (by omega) _ ?_⟩,fun hc3=>⟨by simp only[bp];omega,IH2 (by omega) _ ?_⟩⟩,fun hc2=>⟨by simp only[bp];omega,IH hi1 _ ?_⟩⟩
 ·rw[List.append_assoc,oQ hc3]
 ·rw[qL hc3]
 ·rw[show k=(at' b.nodes (i:Int)).links.length by omega,ew]
abbrev nA (b:aD) (_:Int):Prop:=nx b
abbrev z7 (b:aD) (l:Int):=sn b l
def mr (b:aD) (link:Int) (Z:(List cB)->Prop):Prop:=
 aG (σ:=Int × (List cB)) (fun (i14,l15) K19=>∀ len20:Int,len20=(b.inner.length:Int)->∀ c22:Bool,c22=decide (i14<len20)->((c22=true->(0<=i14/\i14<b.inner.length)/\∀ x25:aQ,x25=at' b.inner i14->∀ c27:Bool,c27=decide (x25.link=link)->((c27=true->(0<=i14/\i14<b.inner.length)/\∀ x30:aQ,x30=at' b.inner i14->(l15.length+1<=1073741824)/\∀ l34:List cB,l34=l15++[x25.name]->(bp (i14+1))/\∀ v44:Int,v44=i14+1->K19 (v44,l34))/\(c27=false->(bp (i14+1))/\∀ v47:Int,v47=i14+1->K19 (v47,l15))))/\(c22=false->Z l15))) (0,([]:List cB))
theorem Bp (b:aD) (l:Int) (h:nA b l):mr b l (fun y=>y=z7 b l):=by
 unfold mr;obtain⟨h1,h2,h3⟩:=h;refine aG.sE b.inner.length (fun i out=>out=iR b l i) [] (by simp[iR]) ?_;rintro i out K hi rfl IH;have hle:=nL b l i;simp only[forall_eq,decide_eq_true_eq,decide_eq_false_iff_not];refine⟨fun hc=>?_,fun hc=>by rw[show i=b.inner.length by omega,nE]⟩;have hi1:i<b.inner.length:=by omega
 rw[cG hi1];refine⟨by omega,fun hc3=>⟨by omega,by omega,by simp only[bp];omega,IH hi1 _ ?_⟩,fun hc3=>⟨by simp only[bp];omega,IH hi1 _ ?_⟩⟩
 ·rw[jv l hi1,if_pos hc3]
 ·rw[jv l hi1,if_neg hc3,List.append_nil]
abbrev fF (b:aD) (_:Int):Prop:=nx b
abbrev iN (b:aD) (l:Int):=(cn b l,sn b l)
def jl (b:aD) (link:Int) (Z:((List (Int × Int)) × (List cB))->Prop):Prop:=
 ∀ iJ:Int,iJ=(b.nodes.length:Int)->aG (σ:=Int × (List (Int × Int))) (fun (v20,l21) K26=>∀ c27:Bool,c27=decide (v20<iJ)->((c27=true->(0<=v20/\v20<b.nodes.length)/\∀ x30:aA,x30=at' b.nodes v20->∀ len36:Int,len36=(x30.links.length:Int)->aG (σ:=Int × (List (Int × Int))) (fun (v47,l48) K53=>∀ c54:Bool,c54=decide (v47<len36)->((c54=true->(0<=v47/\v47<x30.links.length)/\∀ x57:Int,x57=at' x30.links v47->∀ c59:Bool,c59=decide (x57=link)->((c59=true->(l48.length+1<=1073741824)/\∀ l62:List (Int × Int),l62=l48++[(v20,v47)]->(bp (v47+1))/\∀ v73:Int,v73=v47+1->K53 (v73,l62))/\(c59=false->(bp (v47+1))/\∀ v76:Int,v76=v47+1->K53 (v76,l48))))/\(c54=false->(bp (v20+1))/\∀ v79:Int,v79=v20+1->K26 (v79,l48)))) (0,l21))/\(c27=false->∀ len81:Int,len81=(b.inner.length:Int)->aG (σ:=Int × (List cB)) (fun (v92,l93) K98=>∀ c99:Bool,c99=decide (v92<len81)->((c99=true->(0<=v92/\v92<b.inner.length)/\∀ x102:aQ,x102=at' b.inner v92->∀ c108:Bool,c108=decide (x102.link=link)->((c108=true->(l93.length+1<=1073741824)/\∀ l111:List cB,l111=l93++[x102.name]->(bp (v92+1))/\∀ v122:Int,v122=v92+1->K98 (v122,l111))/\(c108=false->(bp (v92+1))/\∀ v125:Int,v125=v92+1->K98 (v125,l93))))/\(c99=false->Z (l21,l93)))) (0,([]:List cB))))) (0,([]:List (Int × Int)))
theorem xG (b:aD) (l:Int) (h:fF b l):jl b l (fun y=>y=iN b l):=by
 unfold jl;obtain⟨h1,h2,h3⟩:=h;rintro _ rfl;refine aG.sE b.nodes.length (fun i out=>out=de b l i) [] rfl ?_;rintro i out K hi rfl IH;simp only[forall_eq,decide_eq_true_eq,decide_eq_false_iff_not];refine⟨fun hc=>?_,fun hc=>?_⟩
 ·have hi1:i<b.nodes.length:=by omega
  have hpl:=gA h2 l i (by omega);have hli:=h2 i hi1;refine⟨by omega,aG.sE (at' b.nodes (i:Int)).links.length (fun k out=>out=de b l i++lP b l i k) _ (by simp[j7]) ?_⟩;rintro k out K2 hk rfl IH2;have hrl:=rm b l i k;dsimp only;refine⟨fun hc2=>⟨by omega,fun hc3=>⟨by simp;omega,by simp only[bp];omega,IH2 (by omega) _ ?_⟩,fun hc3=>⟨by simp only[bp];omega,IH2 (by omega) _ ?_⟩⟩,fun hc2=>⟨by simp only[bp];omega,IH hi1 _ ?_⟩⟩
  ·rw[List.append_assoc,oQ hc3]
  ·rw[qL hc3]
  ·rw[show k=(at' b.nodes (i:Int)).links.length by omega,ew]
 ·rw[show i=b.nodes.length by omega];refine aG.sE b.inner.length (fun i out=>out=iR b l i) [] (by simp[iR]) ?_;rintro i out K hi rfl IH;have hle:=nL b l i;dsimp only;refine⟨fun hc=>?_,fun hc=>by rw[show i=b.inner.length by omega,nE];rfl⟩;have hi1:i<b.inner.length:=by omega
  rw[cG hi1];refine⟨by omega,fun hc3=>⟨by omega,by simp only[bp];omega,IH hi1 _ ?_⟩,fun hc3=>⟨by simp only[bp];omega,IH hi1 _ ?_⟩⟩
  ·rw[jv l hi1,if_pos hc3]
  ·rw[jv l hi1,if_neg hc3,List.append_nil]
abbrev nX (b:aD) (_:Int):Prop:=nx b
abbrev lL (b:aD) (l:Int):Bool:=decide ((cn b l).length=0) && decide ((sn b l).length=0)
def mP (b:aD) (link:Int) (Z:Bool->Prop):Prop:=
 cE (fun (J4:Bool->Prop)=>(gD b link)/\∀ r11:List (Int × Int),r11=jI b link->∀ cD:Int,cD=(r11.length:Int)->∀ c14:Bool,c14=decide (cD=0)->((c14=true->(nA b link)/\∀ r17:List cB,r17=z7 b link->∀ len18:Int,len18=(r17.length:Int)->∀ c20:Bool,c20=decide (len18=0)->J4 (c20))/\(c14=false->J4 (false)))) (fun b7=>Z b7)
theorem BT (b:aD) (l:Int) (h:nX b l):mP b l (fun y=>y=lL b l):=by
 unfold mP;refine⟨fun x=>x=lL b l,?_,fun x h=>h⟩;simp only[forall_eq,decide_eq_true_eq,decide_eq_false_iff_not,lL];refine⟨h,fun h1=>⟨h,?_⟩,fun h1=>?_⟩
 ·simp only[jI] at h1;simp[show (cn b l).length=0 by omega]
 ·simp only[jI] at h1;simp[show ¬ (cn b l).length=0 by omega]
abbrev nO (b:aD) (_:Int):Prop:=nx b
abbrev ko (b:aD) (l:Int):Bool:=lL b l
def mW (b:aD) (link:Int) (Z:Bool->Prop):Prop:=
 (fF b link)/\∀ r5:(List (Int × Int)) × (List cB),r5=iN b link->∀ kS:Int,kS=(r5.1.length:Int)->∀ len8:Int,len8=(r5.2.length:Int)->(bp (kS+len8))/\∀ v11:Int,v11=kS+len8->∀ c13:Bool,c13=decide (v11=0)->Z c13
theorem CN (b:aD) (l:Int) (h:nO b l):mW b l (fun y=>y=ko b l):=by
 unfold mW;have h1:(cn b l).length<=1024 * 1024:=Nat.le_trans (gA h.2.1 l _ (Nat.le_refl _)) (by have:=h.1;omega);have h2:(sn b l).length<=1048576:=by rw[<- nE];have:=nL b l b.inner.length;have:=h.2.2;omega
 simp only[forall_eq];refine⟨h,by simp only[bp];omega,?_⟩;rw[ko,lL,Bool.eq_iff_iff];simp only[decide_eq_true_eq,Bool.and_eq_true];omega
abbrev eW (b:aD):Bool:=decide (b.sites.length=0) && decide (b.inner.length=0)
abbrev jU (b:aD):Prop:=b.sites.length<=1048576/\b.inner.length<=1048576
def ig (b:aD) (Z:Bool->Prop):Prop:=
 cE (fun (J4:Bool->Prop)=>∀ gT:Int,gT=(b.sites.length:Int)->∀ c12:Bool,c12=decide (gT=0)->((c12=true->∀ len14:Int,len14=(b.inner.length:Int)->∀ c16:Bool,c16=decide (len14=0)->J4 (c16))/\(c12=false->J4 (false)))) (fun b7=>Z b7)
theorem vJ (b:aD) (h:jU b):ig b (fun y=>y=eW b):=by
 unfold ig;refine⟨fun x=>x=eW b,?_,fun x h=>h⟩;simp only[forall_eq,decide_eq_true_eq,decide_eq_false_iff_not,eW];refine⟨fun h1=>?_,fun h1=>?_⟩
 ·simp[show b.sites.length=0 by omega]
 ·simp[show ¬ b.sites.length=0 by omega]
def fQ (sig:dE) (b:aD):Bool:=iC sig b && eW b
abbrev nu (sig:dE) (b:aD):Prop:=cQ sig b
def mR (sig:List Control) (b:aD) (Z:Bool->Prop):Prop:=
 cE (fun (J4:Bool->Prop)=>(cQ sig b)/\∀ r11:Bool,r11=iC sig b->((r11=true->(jU b)/\∀ r13:Bool,r13=eW b->J4 (r13))/\(r11=false->J4 (false)))) (fun b7=>Z b7)
theorem CF (sig:dE) (b:aD) (h:nu sig b):mR sig b (fun y=>y=fQ sig b):=by
 unfold mR;refine⟨fun x=>x=fQ sig b,?_,fun x h=>h⟩;simp only[forall_eq];refine⟨h,fun h1=>⟨⟨h.sitesLen,h.innerLen⟩,by rw[fQ,h1];rfl⟩,fun h1=>by rw[fQ,h1];rfl⟩
abbrev vy (sig:dE) (b:aD):Bool:=fQ sig b
abbrev lI (sig:dE) (b:aD):Prop:=cQ sig b
def kL (sig:List Control) (b:aD) (Z:Bool->Prop):Prop:=
 cE (fun (J4:Bool->Prop)=>(cQ sig b)/\∀ r11:Bool,r11=iC sig b->((r11=true->∀ cD:Int,cD=(b.sites.length:Int)->∀ c14:Bool,c14=decide (cD=0)->((c14=true->∀ len16:Int,len16=(b.inner.length:Int)->∀ c18:Bool,c18=decide (len16=0)->J4 (c18))/\(c14=false->J4 (false))))/\(r11=false->J4 (false)))) (fun b7=>Z b7)
theorem yR (sig:dE) (b:aD) (h:lI sig b):kL sig b (fun y=>y=vy sig b):=by
 unfold kL;refine⟨fun x=>x=fQ sig b,?_,fun x h=>h⟩;simp only[forall_eq,decide_eq_true_eq,decide_eq_false_iff_not];refine⟨h,fun h1=>⟨fun h2=>?_,fun h2=>?_⟩,fun h1=>by rw[fQ,h1];rfl⟩
 ·rw[fQ,h1,eW];simp[show b.sites.length=0 by omega]
 ·rw[fQ,h1,eW];simp[show ¬ b.sites.length=0 by omega]
def il (b:aD) (p:Int):Prop:=¬ ((p<0/\((dG b p).length=0\/0<(iE b p).length))\/1<(iE b p).length)
def pP (b:aD):Prop:=b.inner.length=0/\b.roots ≠ 0/\(∀ p,-b.roots<=p->p<b.nodes.length->il b p)/\∀ l,0<=l->l<b.edges+b.outer.length->ko b l=false
open Classical in
noncomputable def gL (b:aD):Bool:=decide (pP b)
theorem nK {b:aD}:gL b=true↔pP b:=by simp[gL]
theorem fR {b:aD} (h:¬ pP b):gL b=false:=by simp[gL,h]
abbrev gz (b:aD):Prop:=nx b/\b.sites.length<=1048576/\0<=b.roots/\b.roots<=1024/\0<=b.edges/\b.edges<=1024/\b.outer.length<=1024
noncomputable abbrev vL (b:aD):Bool:=gL b
def kx (b:aD) (Z:Bool->Prop):Prop:=
 cE (fun (J4:Bool->Prop)=>∀ len71:Int,len71=(b.inner.length:Int)->∀ c73:Bool,c73=decide (0<len71)->((c73=true->J4 (true))/\(c73=false->∀ c75:Bool,c75=decide (b.roots=0)->J4 (c75)))) (fun b7=>((b7=true->Z false)/\(b7=false->(bp (-b.roots))/\∀ v11:Int,v11 = -b.roots->aG (σ:=Int) (fun placeV15 K18=>∀ len19:Int,len19=(b.nodes.length:Int)->∀ c21:Bool,c21=decide (placeV15<len19)->((c21=true->(bH b placeV15)/\∀ r24:(List Int) × (List Int),r24=dJ b placeV15->cE (fun (J25:Bool->Prop)=>∀ c34:Bool,c34=decide (placeV15<0)->((c34=true->∀ len36:Int,len36=(r24.1.length:Int)->∀ c38:Bool,c38=decide (len36=0)->((c38=true->J25 (true))/\(c38=false->∀ len40:Int,len40=(r24.2.length:Int)->∀ c42:Bool,c42=decide (0<len40)->((c42=true->J25 (true))/\(c42=false->∀ len44:Int,len44=(r24.2.length:Int)->∀ c47:Bool,c47=decide (1<len40)->J25 (c47))))))/\(c34=false->∀ len49:Int,len49=(r24.2.length:Int)->∀ c51:Bool,c51=decide (1<len49)->J25 (c51)))) (fun b28=>((b28=true->Z false)/\(b28=false->(bp (placeV15+1))/\∀ v32:Int,v32=placeV15+1->K18 (v32)))))/\(c21=false->∀ len53:Int,len53=(b.outer.length:Int)->(bp (b.edges+len53))/\∀ v56:Int,v56=b.edges+len53->aG (σ:=Int) (fun v60 K63=>∀ c64:Bool,c64=decide (v60<v56)->((c64=true->(nO b v60)/\∀ r67:Bool,r67=ko b v60->((r67=true->Z false)/\(r67=false->(bp (v60+1))/\∀ v69:Int,v69=v60+1->K63 (v69))))/\(c64=false->Z true))) (0)))) (v11))))
theorem yy (b:aD) (h:gz b):kx b (fun y=>y=vL b):=by
 unfold kx;obtain⟨hL,hs,hr0,hr1,he0,he1,ho⟩:=h;have hch:bH b 0:=⟨by have:=hL.1;omega,hs⟩
 have hL1:=hL.1;simp only[forall_eq,decide_eq_true_eq,decide_eq_false_iff_not];refine⟨fun c=>c=true↔¬ (b.inner.length=0/\b.roots ≠ 0),⟨fun h1=>iff_of_true rfl (by omega),fun h1=>by simp only[decide_eq_true_eq];omega⟩,fun c hc=>⟨fun h1=>(fR fun hR=>hc.1 h1 ⟨hR.1,hR.2.1⟩).symm,fun h1=>?_⟩⟩;have hc0:b.inner.length=0/\b.roots ≠ 0:=Classical.not_not.1 fun h=>by rw[hc.2 h] at h1;cases h1
 refine⟨by simp only[bp];omega,?_⟩;refine aG.byM (fun place => -b.roots<=place/\place<=b.nodes.length/\∀ p,-b.roots<=p->p<place->il b p) (fun place=>(b.nodes.length - place).toNat) ⟨by omega,by omega,fun p h1 h2=>by omega⟩ ?_;rintro place ⟨hp1,hp2,hp3⟩;refine⟨fun h2=>⟨hch,fun c=>c=true↔¬ il b place,?_,fun c hc=>⟨fun h3=>(fR fun hR=>hc.1 h3 (hR.2.2.1 place hp1 h2)).symm,fun h3=>⟨by simp only[bp];omega,⟨by omega,by omega,fun p h4 h5=>?_⟩,by omega⟩⟩⟩,fun h2=>?_⟩
 ·simp only[il];refine⟨fun h3=>⟨fun h4=>?_,fun h4=>⟨fun h5=>?_,fun h5=>?_⟩⟩,fun h3=>?_⟩<;>simp only[decide_eq_true_eq,true_iff]<;>omega
 ·have hok:il b place:=Classical.not_not.1 fun h=>by rw[hc.2 h] at h3;cases h3
  rcases Int.lt_or_le p place with h6 | h6
  ·exact hp3 p h4 h6
  ·rw[show p=place by omega];exact hok
 ·have hN:((b.edges+b.outer.length).toNat:Int)=b.edges+b.outer.length:=by omega
  refine⟨by simp only[bp];omega,aG.wM (b.edges+b.outer.length).toNat (fun k=>∀ l,0<=l->l<(k:Int)->ko b l=false) (fun l h1 h2=>by omega) ?_⟩;rintro k K hk hI IH;refine⟨fun h3=>⟨hL,fun h4=>(fR fun hR=>?_).symm,fun h4=>⟨by simp only[bp];omega,IH (by omega) fun l h5 h6=>?_⟩⟩,fun h3=>?_⟩
  ·have:=hR.2.2.2 k (by omega) h3;rw[h4] at this;cases this
  ·rcases Int.lt_or_le l k with h7 | h7
   ·exact hI l h5 h7
   ·rw[show l=k by omega];exact h4
  ·exact (nK.2 ⟨hc0.1,hc0.2,fun p h4 h5=>hp3 p h4 (by omega),fun l h4 h5=>hI l h4 (by omega)⟩).symm
abbrev lS (b:aD):Prop:=gz b
noncomputable abbrev vg (b:aD):Bool:=gL b
def k7 (b:aD) (Z:Bool->Prop):Prop:=
 cE (fun (J4:Bool->Prop)=>∀ len83:Int,len83=(b.inner.length:Int)->∀ c85:Bool,c85=decide (0<len83)->((c85=true->J4 (true))/\(c85=false->∀ c87:Bool,c87=decide (b.roots=0)->J4 (c87)))) (fun b7=>((b7=true->Z false)/\(b7=false->aG (σ:=Int) (fun r12 K15=>∀ c16:Bool,c16=decide (r12<b.roots)->((c16=true->cE (fun (J18:Bool->Prop)=>(bp ((-1) - r12))/\∀ v28:Int,v28=(-1) - r12->(dn b v28)/\∀ r31:List Int,r31=kR b v28->∀ len32:Int,len32=(r31.length:Int)->∀ c34:Bool,c34=decide (len32=0)->((c34=true->J18 (true))/\(c34=false->(bp ((-1) - r12))/\∀ v37:Int,v37=(-1) - r12->(ee b v28)/\∀ r41:List Int,r41=k8 b v28->∀ len42:Int,len42=(r41.length:Int)->∀ c44:Bool,c44=decide (0<len42)->J18 (c44)))) (fun b21=>((b21=true->Z false)/\(b21=false->(bp (r12+1))/\∀ v25:Int,v25=r12+1->K15 (v25)))))/\(c16=false->aG (σ:=Int) (fun i48 K51=>∀ len52:Int,len52=(b.nodes.length:Int)->∀ c54:Bool,c54=decide (i48<len52)->((c54=true->(ee b i48)/\∀ r57:List Int,r57=k8 b i48->∀ len58:Int,len58=(r57.length:Int)->∀ c60:Bool,c60=decide (1<len58)->((c60=true->Z false)/\(c60=false->(bp (i48+1))/\∀ v63:Int,v63=i48+1->K51 (v63))))/\(c54=false->aG (σ:=Int) (fun link67 K70=>∀ len71:Int,len71=(b.outer.length:Int)->(bp (b.edges+len71))/\∀ v74:Int,v74=b.edges+len71->∀ c76:Bool,c76=decide (link67<v74)->((c76=true->(nX b link67)/\∀ r79:Bool,r79=lL b link67->((r79=true->Z false)/\(r79=false->(bp (link67+1))/\∀ v81:Int,v81=link67+1->K70 (v81))))/\(c76=false->Z true))) (0)))) (0)))) (0))))
theorem yU (b:aD) (h:lS b):k7 b (fun y=>y=vg b):=by
 unfold k7;obtain⟨hL,hs,hr0,hr1,he0,he1,ho⟩:=h;have hL1:=hL.1;have hk1:dn b 0:=by simp only[dn];omega
 simp only[forall_eq,decide_eq_true_eq,decide_eq_false_iff_not,kR,k8];refine⟨fun c=>c=true↔¬ (b.inner.length=0/\b.roots ≠ 0),⟨fun h1=>iff_of_true rfl (by omega),fun h1=>by simp only[decide_eq_true_eq];omega⟩,fun c hc=>⟨fun h1=>(fR fun hR=>hc.1 h1 ⟨hR.1,hR.2.1⟩).symm,fun h1=>?_⟩⟩;have hc0:b.inner.length=0/\b.roots ≠ 0:=Classical.not_not.1 fun h=>by rw[hc.2 h] at h1;cases h1
 have hR0:(b.roots.toNat:Int)=b.roots:=by omega
 refine aG.wM b.roots.toNat (fun k=>∀ r,0<=r->r<(k:Int)->(dG b (-1 - r)).length ≠ 0/\(iE b (-1 - r)).length=0) (fun l h1 h2=>by omega) ?_;rintro k K hk hI IH;refine⟨fun h2=>⟨fun c=>c=true↔¬ ((dG b (-1 - (k:Int))).length ≠ 0/\(iE b (-1 - (k:Int))).length=0),⟨by simp only[bp];omega,hk1,fun h3=>iff_of_true rfl (by omega),fun h3=>⟨by simp only[bp];omega,hs,by simp only[decide_eq_true_eq];omega⟩⟩,fun c hc=>⟨fun h3=>(fR fun hR=>?_).symm,fun h3=>⟨by simp only[bp];omega,IH (by omega) fun r h4 h5=>?_⟩⟩⟩,fun h2=>?_⟩
 ·have:=hR.2.2.1 (-1 - (k:Int)) (by omega) (by omega);have h4:=hc.1 h3;simp only[il] at this;omega
 ·rcases Int.lt_or_le r k with h6 | h6
  ·exact hI r h4 h6
  ·rw[show r=k by omega];exact Classical.not_not.1 fun h=>by rw[hc.2 h] at h3;cases h3
 refine aG.wM b.nodes.length (fun k=>∀ i,0<=i->i<(k:Int)->¬ 1<(iE b i).length) (fun l h1 h2=>by omega) ?_;rintro q K2 hq hI2 IH2;refine⟨fun h3=>⟨hs,fun h4=>(fR fun hR=>?_).symm,fun h4=>⟨by simp only[bp];omega,IH2 (by omega) fun i h5 h6=>?_⟩⟩,fun h3=>?_⟩
 ·have:=hR.2.2.1 q (by omega) h3;simp only[il] at this;omega
 ·rcases Int.lt_or_le i q with h7 | h7
  ·exact hI2 i h5 h7
  ·rw[show i=q by omega];omega
 have hN:((b.edges+b.outer.length).toNat:Int)=b.edges+b.outer.length:=by omega
 refine aG.wM (b.edges+b.outer.length).toNat (fun k=>∀ l,0<=l->l<(k:Int)->ko b l=false) (fun l h1 h2=>by omega) ?_;rintro z K3 hz hI3 IH3;refine⟨by simp only[bp];omega,fun h4=>⟨hL,fun h5=>(fR fun hR=>?_).symm,fun h5=>⟨by simp only[bp];omega,IH3 (by omega) fun l h6 h7=>?_⟩⟩,fun h4=>?_⟩
 ·have:=hR.2.2.2 z (by omega) h4;simp only[ko] at this;rw[h5] at this;cases this
 ·rcases Int.lt_or_le l z with h8 | h8
  ·exact hI3 l h6 h8
  ·rw[show l=z by omega];exact h5
 ·refine (nK.2 ⟨hc0.1,hc0.2,fun p h5 h6=>?_,fun l h5 h6=>hI3 l h5 (by omega)⟩).symm;simp only[il];rcases Int.lt_or_le p 0 with h7 | h7
  ·have:=hI (-1 - p) (by omega) (by omega);rw[show -1 - (-1 - p)=p by omega] at this;omega
  ·have:=hI2 p h7 (by omega);omega
end Go.Ab.Vg
namespace Go.Ab
section
variable {P:Program} {N:Nat} {Ty:Types} {O:Env} {H:az} {n:Nat}
variable {d:Option Tmp} {ty:TypeId} {pos:String} {af:Array Edge} {gu:Option (Nat × Bool)}
theorem ud {a:Act} {w w':World} {s x:Operand} {t t':TypeId} {u:Value} (h:(Builtin.copy_ #[t,t'] ty #[a.eval s,a.eval x]).run P w = .ok u w') :
  (execOp a.eval ⟨d,.call ⟨.builtin .copy,#[s,x],#[t,t']⟩,ty,pos,af,gu⟩).run P w = .ok (.value u) w':=by
 simp only[execOp,resolve,invoke,builtin,Sem.run_bind,Sem.run_pure,Result.andThen_ok,List.map_toArray,List.map_cons,List.map_nil,h]
def copied (es new:List (List au)) (off len:Nat):List (List au):=es.take off++new.take (min new.length len)++es.drop (off+min new.length len)
theorem rY {es new:List (List au)} {off len:Nat} (h:off+len<=es.length):(copied es new off len).length=es.length:=by simp[copied];omega
theorem aO.Fw (hT:aX P Ty) {t t':TypeId} {dst src:Operand} {j:TI} {id:Id} {g0 off len:Nat} {o:Ob} {els:List (List au)} (hk:kd Ty t = .slice j) (hj:j.size=1) (hd:O.ev dst = .arr id g0 off len) (hl:live H id g0=some o) (ho:o.size=1)
  (hs:dq H (O.ev src)=some els) (hes:els.all (·.length == 1)=true) (h1:els.all (fun e=>e.all aT)=true) :
  aO P N ⟨d,.call ⟨.builtin .copy,#[dst,src],#[t,t']⟩,ty,pos,af,gu⟩ O H n fun v1 H1 U=>v1=int (min els.length len:Nat)/\H1=H.set id ⟨1,copied o.els els off len⟩/\U=n:=by
 refine aO.ef fun c a hH hn g r=>?_
 subst hH;obtain⟨i,e,hi,hde,hje⟩:=cC hk;obtain⟨hu,_⟩:=hT t i hi;rw[hde] at hu;obtain⟨_,info,zv,hinfo,his,_,_,_⟩:=hT e j hje;have hs1:(P.info? e).map (·.size)=some 1:=by rw[hinfo];simp[his,hj]
 have rs:=r.ev dst;rw[hd] at rs;obtain⟨l1,l2⟩:=dd hl;have rx:=iP g (r.ev src) hs hes;generalize hsv:a.eval dst=sv at rs;generalize hxv:a.eval src=xv at rx;cases rs with
 | arr _ _ _ _ _ hone hn0 hg hp=>
 obtain⟨p1,ad,cap,rfl,hab,hsp,hlc,db,hcl⟩:=hp o l1 l2;obtain⟨ab,ao,asp⟩:=ad;simp only at hab hsp db;subst hab hsp;obtain⟨hB,cl,el,E,hsz,hel⟩:=g.obj id o l1;rw[ho] at hsz db;have hsame:min els.length len=0->c.H.set id ⟨1,copied o.els els off len⟩=c.H:=fun h0=>by
  funext q
  by_cases hq:q=id
  ·subst hq;rw[az.bJ,l1];have:copied o.els els off len=o.els:=by simp[copied,h0]
   rw[this,<- ho]
  ·exact az.aJ _ _ hq
 by_cases hm:min els.length len=0
 ·have hrun:(Builtin.copy_ #[t,t'] ty #[a.eval dst,a.eval src]).run P c.w = .ok (goInt 0) c.w:=by
   rw[hsv,hxv];rcases rx with ⟨rfl,rfl⟩ | ⟨a2,cap2,news,rfl,_⟩
   ·exact run_copy_nil P c.w t t' ty e _ len cap hu (by rw[hs1];rfl)
   ·exact run_copy_none c.w t t' ty e _ _ len cap els.length cap2 hu hs1 hm
  exact⟨_,_,c,ud hrun,⟨by rw[hm];rfl,(hsame hm).symm,hn⟩,.v _,g,bh.refl c⟩
 ·rcases rx with ⟨rfl,rfl⟩ | ⟨a2,cap2,news,rfl,hnl,hnc,hnr⟩
  ·simp at hm
  have hao:ao=off:=by
   rcases db with h | h
   ·omega
   ·omega
  subst hao;have hog:o.els.length=g0:=l2;have hml:(news.take (min els.length len)).length=min els.length len:=by rw[List.length_take,hnl];omega
  have hone':∀ v ∈ news.take (min els.length len),v.oneCell'=true:=fun v hv=>DF h1 hnl hnr v (List.mem_of_mem_take hv)
  have hfit:ao+(news.take (min els.length len)).length<=cl.size:=by rw[hml];omega
  have hrun:(Builtin.copy_ #[t,t'] ty #[a.eval dst,a.eval src]).run P c.w = .ok (goInt (news.take (min els.length len)).length) (c.w.setRow (c.β id) (cl.toList.take ao++news.take (min els.length len)++cl.toList.drop (ao+(news.take (min els.length len)).length)).toArray):=by
   rw[hsv,hxv];exact run_copy_row P c.w t t' ty e (c.β id) ao len cap a2 els.length cap2 cl el _ hu hs1 E hml (fun j v hj=>hnc j v (by
    rw[List.getElem?_take] at hj
    split at hj
    ·exact hj
    ·cases hj)) hfit hone'
  have hov:(cl.toList.take ao++news.take (min els.length len)++cl.toList.drop (ao+(news.take (min els.length len)).length)).toArray=over cl ao (news.take (min els.length len)):=rfl;rw[hov] at hrun;have hup:=mg g l1 ⟨1,copied o.els els ao len⟩ (c.w.setRow (c.β id) (over cl ao (news.take (min els.length len)))) cl (over cl ao (news.take (min els.length len))) el el ⟨rfl,rfl,rfl⟩ (by simp[World.setRow]) E (fun k hk=>setRow_other c.w _ k _ hk) (setRow_heap c.w _ cl _ el _ E)
   (by rw[iA hfit];exact Nat.le_refl _) ho (by rw[rY (by omega)];exact Nat.le_refl _) ⟨?_,?_⟩
  ·exact⟨int (min els.length len:Nat),goInt (news.take (min els.length len)).length,{ c with H:=c.H.set id ⟨1,copied o.els els ao len⟩,w:=c.w.setRow (c.β id) (over cl ao (news.take (min els.length len))) },ud hrun,⟨rfl,rfl,hn⟩,by rw[hml];exact .v _,hup.2,hup.1⟩
  ·rw[iA hfit,rY (by omega)];simpa using hsz
  ·intro q e' he;simp only[copied] at he;have hcell:∀ (x:List au),o.els[q]?=some x->¬ (ao<=q/\q<ao+min els.length len)->x.length=1/\∀ (j:Nat) (y:au),x[j]?=some y->∃ z,(over cl ao (news.take (min els.length len)))[q * 1+j]?=some z/\bF c y z:=fun x hx hnot=>by
    obtain⟨h2,h3⟩:=hel q x hx;rw[ho] at h2 h3;refine⟨h2,fun j y hy=>?_⟩;have hj0:j=0:=by have:=(List.getElem?_eq_some_iff.1 hy).1;omega
    subst hj0;have h4:=h3 0 y hy
    rwa [j6 hfit,hml,if_neg (by omega)]
   by_cases c1:q<ao
   ·rw[List.append_assoc,List.getElem?_append_left (by simp;omega),List.getElem?_take,if_pos c1] at he;exact hcell e' he (by omega)
   ·by_cases c2:q<ao+min els.length len
    ·rw[List.append_assoc,List.getElem?_append_right (by simp;omega),List.getElem?_append_left (by simp;omega),List.getElem?_take] at he;have hmin:min ao o.els.length=ao:=by omega
     simp only[List.length_take,hmin] at he;rw[if_pos (by omega)] at he;obtain⟨h2,h3⟩:=hnr _ e' he;refine⟨h2,fun j y hy=>?_⟩;have hj0:j=0:=by have:=(List.getElem?_eq_some_iff.1 hy).1;omega
     subst hj0;obtain⟨z,hz,hrep⟩:=h3 0 y hy;refine⟨z,?_,hrep⟩;show (over cl ao (news.take (min els.length len)))[q * 1+0]?=some z;rw[j6 hfit,hml,if_pos (by omega),List.getElem?_take,if_pos (by omega)];rw[<- hz];congr 1;omega
    ·rw[List.getElem?_append_right (by simp;omega)] at he;have hmin:min ao o.els.length=ao:=by omega
     have hmin2:min (min els.length len) els.length=min els.length len:=by omega
     simp only[List.length_append,List.length_take,hmin,hmin2,List.getElem?_drop] at he;rw[show ao+min els.length len+(q - (ao+min els.length len))=q by omega] at he;exact hcell e' he (by omega)
theorem aO.copy1' (hT:aX P Ty) {t t':TypeId} {dst src:Operand} {j:TI} {id:Id} {g0 off len m:Nat} {o:Ob} {els es':List (List au)} (hk:kd Ty t = .slice j) (hj:j.size=1) (hd:O.ev dst = .arr id g0 off len) (hl:live H id g0=some o) (ho:o.size=1)
  (hs:dq H (O.ev src)=some els) (hes:els.all (·.length == 1)=true) (h1:els.all (fun e=>e.all aT)=true) (hm:min els.length len=m) (he:copied o.els els off len=es') :
  aO P N ⟨d,.call ⟨.builtin .copy,#[dst,src],#[t,t']⟩,ty,pos,af,gu⟩ O H n (tO (int m) (H.set id ⟨1,es'⟩) n):=by
 subst hm he;exact aO.Fw hT hk hj hd hl ho hs hes h1
end
end Go.Ab
namespace Go.Ab.Vg
open Go.Proofs
theorem rep_vs (c:Ctx) (vs:List Value):bF c (.tup (vs.map au.v)) (.tuple vs.toArray):=.tup _ _ (by simp) fun i a x ha hx=>by
 rw[List.getElem?_map] at ha;rw[hx] at ha;simp only[Option.map_some,Option.some.injEq] at ha;exact ha ▸ .v x
theorem e173:aW prog 173:=aW.of func173 (by kernel_rfl) rfl
theorem e165:aW prog 165:=aW.of func165 (by kernel_rfl) rfl
theorem yH (x y:Nat) (hx:x<18446744073709551616) (hy:y<18446744073709551616):aB prog 173 [.v (.int .u64 x),.v (.int .u64 y)] (fun r=>r = .tup [.v (.int .u64 ((x * y / 18446744073709551616:Nat):Int)),.v (.int .u64 ((x * y % 18446744073709551616:Nat):Int))]):=by
 refine aB.wk fun c xs _ r=>?_
 obtain⟨a,b,rfl,ha,hb⟩:=r.two2;rw[ha.bS,hb.bS];refine (Tryz.bits_Mul x y hx hy c.w).mono ?_;rintro e w' ⟨he,rfl⟩;exact⟨_,_,he,rfl,.tup _ (by simp),fun c'=>rep_vs c' [.int .u64 ((x * y / 18446744073709551616:Nat):Int),.int .u64 ((x * y % 18446744073709551616:Nat):Int)],Go.RowKit.Below.refl _ _⟩
def qG (l:List Int) (n:Int):List Int:=List.replicate n.toNat (l.headD 0)
abbrev qg (l:List Int) (n:Int):Prop:=l.length=1/\0<=n/\n<=1048576
theorem zm {v:Int} {N m:Nat} (hm:m<=N):copied ((List.replicate m v++List.replicate (N - m) (0:Int)).map ay) ((List.replicate m v).map ay) m (N - m)=(List.replicate (m+min m (N - m)) v++List.replicate (N - (m+min m (N - m))) (0:Int)).map ay:=by
 simp only[copied,List.length_map,List.length_replicate,<- List.map_take,<- List.map_drop,<- List.map_append]
 congr 1
 refine List.ext_getElem (by simp;omega) fun i h1 h2=>?_
 simp only[List.getElem_append,List.getElem_take,List.getElem_drop,List.getElem_replicate,List.length_append,List.length_take,List.length_replicate]
 repeat' split
 all_goals first | rfl | omega
theorem CS (v n:Int) (h:0<=n/\n<=1048576):br prog 165 [.list false ([v].map ay),int n] (.s [.c]) (fun r=>r = .list true ((List.replicate n.toNat v).map ay)):=by
 obtain⟨N,rfl⟩:∃ N:Nat,n=N:=⟨n.toNat,by omega⟩
 refine br.of func165 rfl ntmps165 (by simp) fun Q hQ=>?_
 refine zE fun _ V=>?_
 simp;apply V;refine zS fun _ V=>?_
 simp;apply V;refine J.ite rfl (fun hc1=>?_) (fun hc1=>?_)
 ·simp at hc1;omega
 clear hc1 V;apply J.skip;refine zE fun _ V=>?_
 simp;have hw:IntKind.u64.wrap (N:Int)=N:=by simp[IntKind.wrap,IntKind.bits,IntKind.signed];omega
 have hw1:IntKind.u64.wrap 1=1:=by simp[IntKind.wrap,IntKind.bits,IntKind.signed]
 have hwi:IntKind.i64.wrap (N:Int)=N:=wrap64 (by omega) (by omega);refine zA (yH 1 N (by omega) (by omega)) e173 (.cons (.v _ _ _) (.cons (.v _ _ _) .nil)) (by simp[hw,hw1]) ?_;rintro _ rfl;have hd:(N:Int) / 18446744073709551616=0:=by omega
 have hm:(N:Int) % 18446744073709551616=N:=by omega
 simp[hd,hm];apply V;refine zS fun _ V=>?_
 simp;apply V;refine J.ite rfl (fun hc1=>?_) (fun hc1=>?_)
 ·simp at hc1;omega
 clear hc1 V hw1 hd hm;apply J.skip;refine zE fun _ V=>?_
 simp[hwi,show (N:Int)<=1073741824 by omega];apply V;refine J.cut (fun O H n=>O 0 = .list false [ay v]/\O 7 = .arr (0,30) N 0 N/\H (0,30)=some ⟨1,(List.replicate N (0:Int)).map ay⟩/\n=1) (by simp[ay]) ?_;clear V hw hwi;rintro O H _ ⟨h0,h7,hH,rfl⟩;refine zE fun _ V=>?_
 simp[h0,h7];refine bE.op aH (by decide) (by decide) rfl (aO.Fw (id:=(0,30)) (g0:=N) (off:=0) (len:=N) (o:=⟨1,(List.replicate N (0:Int)).map ay⟩) (els:=[v].map ay) aH aR rfl (by simp[h7]) (by simp[live,hH]) rfl (by simp[dq,h0]) (by simp[ay]) (by simp[ay])) ?_;rintro _ H' n' ⟨rfl,rfl,rfl⟩;simp;apply V;refine J.cut (fun O H n=>∃ m:Nat,O 7 = .arr (0,30) N 0 N/\O 8=int m/\m<=N/\(m=0->N=0)/\H (0,30)=some ⟨1,(List.replicate m v++List.replicate (N - m) (0:Int)).map ay⟩/\n=1) ⟨min 1 N,by simp[h7],by simp,by omega,by omega,?_,rfl⟩ ?_
 ·have hc:copied (List.replicate N (ay 0)) [ay v] 0 N=(List.replicate (min 1 N) v++List.replicate (N - min 1 N) (0:Int)).map ay:=by
   rcases Nat.eq_zero_or_pos N with h1 | h1
   ·subst h1;simp[copied]
   ·rw[show min 1 N=1 by omega];simp[copied,show min 1 N=1 by omega]
  simp[hc]
 clear V h0 h7 hH;rintro O H _ ⟨m,h7,h8,hm,hm0,hH,rfl⟩;apply J.seq;refine J.block (J.Ec (fun q O H n=>∃ m:Nat,q=N - m/\O 7 = .arr (0,30) N 0 N/\O 8=int m/\m<=N/\(m=0->N=0)/\H (0,30)=some ⟨1,(List.replicate m v++List.replicate (N - m) (0:Int)).map ay⟩/\n=1) (N - m) ⟨m,rfl,h7,h8,hm,hm0,hH,rfl⟩ ?_);clear h7 h8 hm hm0 hH;rintro q O H _ ⟨m,rfl,h7,h8,hm,hm0,hH,rfl⟩ IH;refine zS fun _ V=>?_
 have hlen:((List.replicate m v++List.replicate (N - m) (0:Int)).map ay).length=N:=by simp;omega
 generalize hels:(List.replicate m v++List.replicate (N - m) (0:Int)).map ay=els at hH hlen;simp[h7,h8,live,hH,hlen];apply V;refine J.ite rfl (fun hc1=>?_) (fun hc1=>?_)
 ·have hc1:m<N:=by simpa using hc1
  apply J.skip;apply J.block;refine J.Ag aH aF bN (by decide) (by kernel_rfl) fun _ V=>?_
  simp[h7,h8,live,hH,hlen,hm];have hmm:((m:Int)+(min m (N - m):Nat))=((m+min m (N - m):Nat):Int):=by omega
  refine bw.op aH aF (v:=int (min m (N - m):Nat)) (H':=H.set (0,30) ⟨1,(List.replicate (m+min m (N - m)) v++List.replicate (N - (m+min m (N - m))) (0:Int)).map ay⟩) (n':=1) rfl (by decide) (fun h=>by cases h) ?_ ?_
  ·have e2:=zm (v:=v) (N:=N) (m:=m) hm;rw[hels] at e2;exact aO.copy1' (id:=(0,30)) (g0:=N) (off:=m) (len:=N - m) (o:=⟨1,els⟩) (els:=(List.replicate m v).map ay) aH aR rfl (by rw[fy (by simp[Op.operands,Call.operands])];simp) (by simp[live,hH,hlen]) rfl
    (by rw[fy (by simp[Op.operands,Call.operands])];simp[dq,live,hH,<- hels,List.take_append,show m+(N - m)=N by omega]) (by simp[ay]) (by simp[ay]) (by simp) e2
  have hwr:IntKind.i64.wrap ((m:Int)+(min m (N - m):Nat))=((m+min m (N - m):Nat):Int):=by rw[hmm];exact wrap64 (by omega) (by omega)
  have hz1:0<min m (N - m):=by omega
  have hz2:m+min m (N - m)<=N:=by omega
  generalize hq:m+min m (N - m)=q at hwr hz2;generalize min m (N - m)=z at hq hwr hz1;simp[hwr];apply V;apply J.inBlock;exact IH (N - q) _ _ _ (by omega) ⟨q,rfl,by simp[h7],by simp,hz2,by omega,by simp,rfl⟩
 ·have hc1:¬ m<N:=by simpa using hc1
  refine J.exit rfl ?_;refine zE fun _ V=>?_
  simp[h7];apply V;have hmN:m=N:=by omega
  subst hmN;simp at hels;exact J.bg (v:=.arr (0,30) m 0 m) func165 results165 (by simp) (hQ _ _ _ _ (Sep.ofArr (els:=els) (by simp) hH hlen (by simp) (by simp) (by simp[<- hels,ay]) (by simp)) (by simp[<- hels]))
theorem Av (l:List Int) (n:Int) (h:qg l n):br prog 165 [.list false (l.map ay),int n] (.s [.c]) (fun r=>r = .list true ((qG l n).map ay)):=by
 obtain⟨h1,h2⟩:=h
 match l,h1 with
 | [v],_=>exact CS v n h2
end Go.Ab.Vg
namespace Go.Ab.Vg
def kc (l:List Int) (x:Int):Bool:=l.any fun y=>x == y
theorem eK {l:List Int} {x:Int}:kc l x=true↔x ∈ l:=by simp[kc]
theorem qC {l:List Int} {x:Int}:kc l x=false↔x ∉ l:=by rw[<- eK];simp
def gJ (b:aD) (nodes:List Int):Nat->Int->Bool
 | 0,_=>false
 | m+1,p=>if p<0 then false else if p ∈ nodes then true else gJ b nodes m (at' b.nodes p).parent
def c8 (b:aD) (nodes:List Int) (p:Int):Bool:=gJ b nodes (p+1).toNat p
theorem qh {b:aD} (hd:∀ i:Int,0<=i->i<b.nodes.length->(at' b.nodes i).parent<i) (nodes:List Int):∀ (m m':Nat) (p:Int),p<b.nodes.length->p+1<=m->p+1<=m'->gJ b nodes m p=gJ b nodes m' p
 | 0,0,_,_,_,_=>rfl
 | 0,m'+1,p,_,h,_=>by rw[gJ,gJ,if_pos (by omega)]
 | m+1,0,p,_,_,h=>by rw[gJ,gJ,if_pos (by omega)]
 | m+1,m'+1,p,h,h1,h2=>by
  rw[gJ,gJ]
  split
  ·rfl
  ·split
   ·rfl
   ·have:=hd p (by omega) h;exact qh hd nodes m m' _ (by omega) (by omega) (by omega)
theorem rS {b:aD} {nodes:List Int} {p:Int} (h:p<0):c8 b nodes p=false:=by
 rw[c8,show (p+1).toNat=0 by omega];rfl
theorem tN {b:aD} {nodes:List Int} {p:Int} (h:0<=p) (hm:p ∈ nodes):c8 b nodes p=true:=by
 rw[c8,show (p+1).toNat=p.toNat+1 by omega,gJ,if_neg (by omega),if_pos hm]
theorem tV {b:aD} (hd:∀ i:Int,0<=i->i<b.nodes.length->(at' b.nodes i).parent<i) {nodes:List Int} {p:Int} (h:0<=p) (hl:p<b.nodes.length) (hm:p ∉ nodes):c8 b nodes p=c8 b nodes (at' b.nodes p).parent:=by
 have:=hd p h hl;rw[c8,show (p+1).toNat=p.toNat+1 by omega,gJ,if_neg (by omega),if_neg hm,c8];exact qh hd nodes _ _ _ (by omega) (by omega) (by omega)
abbrev ya (b:aD):Prop:=b.nodes.length<=1048576/\∀ i:Int,0<=i->i<b.nodes.length->(at' b.nodes i).parent<i
theorem dI.FD {sig:dE} {b:aD} (h:dI sig b):ya b:=⟨by have:=h.len;omega,fun i h0 h1=>(h.xO ⟨h0,h1⟩).2⟩
abbrev mi (b:aD) (p:Int) (nodes:List Int):Prop:=ya b/\p<b.nodes.length/\nodes.length<=1048576
abbrev ox (b:aD) (p:Int) (nodes:List Int):Bool:=c8 b nodes p
def k9 (b:aD) (place:Int) (nodes:List Int) (Z:Bool->Prop):Prop:=
 aG (σ:=Int) (fun placeV6 K9=>∀ c10:Bool,c10=decide (0<=placeV6)->((c10=true->(nodes.length<=1048576)/\∀ r13:Bool,r13=kc nodes placeV6->((r13=true->Z true)/\(r13=false->(0<=placeV6/\placeV6<b.nodes.length)/\∀ x15:aA,x15=at' b.nodes placeV6->K9 (x15.parent))))/\(c10=false->Z false))) (place)
theorem yB (b:aD) (p:Int) (nodes:List Int) (h:mi b p nodes):k9 b p nodes (fun y=>y=ox b p nodes):=by
 unfold k9;obtain⟨⟨hn,hd⟩,hp,hl⟩:=h;simp only[forall_eq,decide_eq_true_eq,decide_eq_false_iff_not];refine aG.byM (fun q=>q<b.nodes.length/\c8 b nodes q=c8 b nodes p) (fun q=>(q+1).toNat) ⟨hp,rfl⟩ ?_;rintro q ⟨h1,h2⟩;refine⟨fun h3=>⟨hl,fun h4=>?_,fun h4=>⟨⟨h3,h1⟩,⟨?_,?_⟩,?_⟩⟩,fun h3=>?_⟩
 ·rw[ox,<- h2,tN h3 (eK.1 h4)]
 ·have:=hd q h3 h1;omega
 ·rw[<- h2,tV hd h3 h1 (qC.1 h4)]
 ·have:=hd q h3 h1;omega
 ·rw[ox,<- h2,rS (by omega)]
abbrev kt (b:aD) (m:Match) (p:Int):Prop:=ya b/\p<b.nodes.length/\m.nodes.length<=1048576
abbrev iD (b:aD) (m:Match) (p:Int):Bool:=c8 b m.nodes p
def jD (ar:aD) (m:Match) (place:Int) (Z:Bool->Prop):Prop:=
 aG (σ:=Int) (fun placeV7 K10=>∀ c11:Bool,c11=decide (0<=placeV7)->((c11=true->(m.nodes.length<=1048576)/\∀ r14:Bool,r14=kc m.nodes placeV7->((r14=true->Z true)/\(r14=false->(0<=placeV7/\placeV7<ar.nodes.length)/\∀ x16:aA,x16=at' ar.nodes placeV7->K10 (x16.parent))))/\(c11=false->Z false))) (place)
theorem vV (b:aD) (m:Match) (p:Int) (h:kt b m p):jD b m p (fun y=>y=iD b m p):=by
 unfold jD;obtain⟨⟨hn,hd⟩,hp,hl⟩:=h;simp only[forall_eq,decide_eq_true_eq,decide_eq_false_iff_not];refine aG.byM (fun q=>q<b.nodes.length/\c8 b m.nodes q=c8 b m.nodes p) (fun q=>(q+1).toNat) ⟨hp,rfl⟩ ?_;rintro q ⟨h1,h2⟩;refine⟨fun h3=>⟨hl,fun h4=>?_,fun h4=>⟨⟨h3,h1⟩,⟨?_,?_⟩,?_⟩⟩,fun h3=>?_⟩
 ·rw[iD,<- h2,tN h3 (eK.1 h4)]
 ·have:=hd q h3 h1;omega
 ·rw[<- h2,tV hd h3 h1 (qC.1 h4)]
 ·have:=hd q h3 h1;omega
 ·rw[iD,<- h2,rS (by omega)]
def gO (ar:aD) (nodes:List Int) (p:Int × Int):Int:=at' (at' ar.nodes (at' nodes p.1)).links p.2
def c5 (ar:aD) (nodes:List Int) (l:List (Int × Int)):Int:=match l with | [] => -1 | p::_=>gO ar nodes p
abbrev eF (I ar:aD) (nodes:List Int) (l:Int):Int:=c5 ar nodes (cn I l)
def ru (I ar:aD) (nodes:List Int) (l:Int):Prop:=(∀ p ∈ cn I l,gO ar nodes p=eF I ar nodes l)/\(l<I.edges->eF I ar nodes l<ar.edges/\(cn ar (eF I ar nodes l)).length=(cn I l).length)
def lz (I ar:aD) (nodes:List Int):Prop:=∀ l:Int,0<=l->l<I.edges+I.outer.length->ru I ar nodes l
open Classical in
noncomputable def pq (I ar:aD) (nodes:List Int):List Int × Bool:=
 if lz I ar nodes then ((List.range (I.edges+I.outer.length).toNat).map fun l:Nat=>eF I ar nodes (l:Int),true) else ([],false)
def cS (I:aD) (m:Match) (k:Int):Int:=if 0<=(at' I.nodes k).parent then at' m.nodes (at' I.nodes k).parent else at' m.roots (-1 - (at' I.nodes k).parent)
def wH (I ar:aD) (m:Match) (k:Int):Prop:=
 (at' ar.nodes (at' m.nodes k)).control=(at' I.nodes k).control/\(at' ar.nodes (at' m.nodes k)).parent=cS I m k/\((iE I k).length=0->∀ c ∈ dG ar (at' m.nodes k),c ∈ m.nodes)
def uA (I ar:aD) (nodes:List Int):Prop:=nodes.length=I.nodes.length/\∀ i:Nat,i<nodes.length->ec ar (at' nodes (i:Int))=true/\at' nodes (i:Int) ∉ nodes.take i
def ij (I ar:aD) (m:Match):Prop:=(m.roots.length:Int)=I.roots/\∀ p ∈ m.roots,-ar.roots<=p/\p<ar.nodes.length/\c8 ar m.nodes p=false
def uW (I ar:aD) (m:Match):Prop:=uA I ar m.nodes/\ij I ar m/\(∀ k:Nat,k<I.nodes.length->wH I ar m (k:Int))/\lz I ar m.nodes
open Classical in
noncomputable def fD (I ar:aD) (m:Match):Bool:=decide (uW I ar m)
theorem kQ {I ar:aD} {m:Match}:fD I ar m=true↔uW I ar m:=by simp[fD]
theorem fT {I ar:aD} {m:Match} (h:¬ uW I ar m):fD I ar m=false:=by simp[fD,h]
abbrev MSz (m:Match):Prop:=m.nodes.length<=1048576/\m.roots.length<=1048576
structure qt (sig:dE) (I ar:aD):Prop where
 r:dI sig I
 a:dI sig ar
 red:pP I
def gb (c:Int) (v_:Match) (Z:Bool->Prop):Prop:=
 (v_.nodes.length<=1048576)/\∀ r3:Bool,r3=kc v_.nodes c->Z (!r3)
abbrev dj (c:Int) (m:Match):Bool := !(kc m.nodes c)
abbrev dA (c:Int) (m:Match):Prop:=m.nodes.length<=1048576
theorem sX (c:Int) (m:Match) (h:dA c m):gb c m (fun y=>y=dj c m):=by
 unfold gb;exact⟨h,by rintro _ rfl;rfl⟩
def uL (I ar:aD) (m:Match):Prop:=∀ k:Nat,k<I.nodes.length->wH I ar m (k:Int)
open Classical in
noncomputable def eu (I ar:aD) (m:Match):Bool:=decide (uL I ar m)
theorem gZ {I ar:aD} {m:Match} (h:¬ uL I ar m):eu I ar m=false:=by simp[eu,h]
theorem sP {I ar:aD} {m:Match} (h:uL I ar m):eu I ar m=true:=by simp[eu,h]
theorem nk {I ar:aD} {m:Match}:eu I ar m=true↔uL I ar m:=by simp[eu]
abbrev pe (ar:aD) (nodes:List Int) (n:Nat):Prop:=nodes.length=n/\∀ i:Nat,i<nodes.length->0<=at' nodes (i:Int)/\at' nodes (i:Int)<ar.nodes.length
abbrev jQ (I ar:aD) (m:Match):Prop:=(∃ sig,qt sig I ar)/\pe ar m.nodes I.nodes.length/\(m.roots.length:Int)=I.roots
def iq (I:aD) (ar:aD) (m:Match) (Z:Bool->Prop):Prop:=
 ∀ kS:Int,kS=(I.nodes.length:Int)->aG (σ:=Int) (fun v10 K13=>∀ c14:Bool,c14=decide (v10<kS)->((c14=true->(0<=v10/\v10<I.nodes.length)/\∀ x17:aA,x17=at' I.nodes v10->(0<=v10/\v10<m.nodes.length)/\∀ x22:Int,x22=at' m.nodes v10->(0<=x22/\x22<ar.nodes.length)/\∀ x25:aA,x25=at' ar.nodes x22->∀ c29:Bool,c29=decide (0<=x17.parent)->((c29=true->(0<=x17.parent/\x17.parent<m.nodes.length)/\∀ x32:Int,x32=at' m.nodes x17.parent->cE (fun (J34:Bool->Prop)=>∀ c60:Bool,c60=decide (x25.control ≠ x17.control)->((c60=true->J34 (true))/\(c60=false->∀ c62:Bool,c62=decide (x25.parent ≠ x32)->J34 (c62)))) (fun b37=>((b37=true->Z false)/\(b37=false->(bH I v10)/\∀ r41:(List Int) × (List Int),r41=dJ I v10->∀ len42:Int,len42=(r41.2.length:Int)->∀ c44:Bool,c44=decide (0<len42)->((c44=true->(bp (v10+1))/\∀ v47:Int,v47=v10+1->K13 (v47))/\(c44=false->(0<=v10/\v10<m.nodes.length)/\∀ x50:Int,x50=at' m.nodes v10->(bH ar x50)/\∀ r53:(List Int) × (List Int),r53=dJ ar x50->(r53.1.length<=1048576/\∀ z ∈ r53.1,dA z m)/\∀ r56:Bool,r56=r53.1.any (fun z=>dj z m)->((r56=true->Z false)/\(r56=false->(bp (v10+1))/\∀ v58:Int,v58=v10+1->K13 (v58)))))))))/\(c29=false->(bp ((-1) - x17.parent))/\∀ v65:Int,v65=(-1) - x17.parent->(0<=v65/\v65<m.roots.length)/\∀ x68:Int,x68=at' m.roots v65->cE (fun (J70:Bool->Prop)=>∀ c96:Bool,c96=decide (x25.control ≠ x17.control)->((c96=true->J70 (true))/\(c96=false->∀ c98:Bool,c98=decide (x25.parent ≠ x68)->J70 (c98)))) (fun b73=>((b73=true->Z false)/\(b73=false->(bH I v10)/\∀ r77:(List Int) × (List Int),r77=dJ I v10->∀ len78:Int,len78=(r77.2.length:Int)->∀ c80:Bool,c80=decide (0<len78)->((c80=true->(bp (v10+1))/\∀ v83:Int,v83=v10+1->K13 (v83))/\(c80=false->(0<=v10/\v10<m.nodes.length)/\∀ x86:Int,x86=at' m.nodes v10->(bH ar x86)/\∀ r89:(List Int) × (List Int),r89=dJ ar x86->(r89.1.length<=1048576/\∀ z ∈ r89.1,dA z m)/\∀ r92:Bool,r92=r89.1.any (fun z=>dj z m)->((r92=true->Z false)/\(r92=false->(bp (v10+1))/\∀ v94:Int,v94=v10+1->K13 (v94)))))))))))/\(c14=false->Z true))) (0)
theorem vO (I ar:aD) (m:Match) (h:jQ I ar m):iq I ar m (fun y=>y=eu I ar m):=by
 unfold iq;obtain⟨⟨sig,hP⟩,⟨hlen,hin⟩,hroots⟩:=h;have hr8:=hP.r.len;have ha8:=hP.a.len;have hrr:=hP.r.roots;have hcr:bH I 0:=⟨by omega,by have:=hP.r.slen;omega⟩
 have hca:bH ar 0:=⟨by omega,by have:=hP.a.slen;omega⟩
 simp only[forall_eq,decide_eq_true_eq,decide_eq_false_iff_not];refine aG.wM I.nodes.length (fun k=>∀ j:Nat,j<k->wH I ar m j) (fun j hj=>by omega) ?_;rintro k K hk hI IH;refine⟨fun hc=>?_,fun hc=>(sP fun j hj=>hI j (by omega)).symm⟩;have hk1:k<I.nodes.length:=by omega
 have hpar:=hP.r.xO (i:=k) ⟨by omega,by omega⟩;have him:=hin k (by omega);have hkl:(dG ar (at' m.nodes (k:Int))).length<=ar.nodes.length:=iW _ _ _;have hnext:wH I ar m k->∀ j:Nat,j<k+1->wH I ar m j:=fun h j hj=>by
  rcases Nat.lt_or_ge j k with h1 | h1
  ·exact hI j h1
  ·rw[show j=k by omega];exact h
 refine⟨by omega,by omega,him,fun h1=>⟨by omega,?_⟩,fun h1=>⟨by simp only[bp];omega,by omega,?_⟩⟩
 ·have hx:at' m.nodes (at' I.nodes (k:Int)).parent=cS I m k:=by rw[cS,if_pos h1]
  generalize at' m.nodes (at' I.nodes (k:Int)).parent=x at hx ⊢;refine⟨fun c=>c=true↔¬ ((at' ar.nodes (at' m.nodes (k:Int))).control=(at' I.nodes (k:Int)).control/\(at' ar.nodes (at' m.nodes (k:Int))).parent=x),⟨fun h2=>iff_of_true rfl (fun h3=>h2 h3.1),fun h2=>by simp only[decide_eq_true_eq];exact⟨fun h3 h4=>h3 h4.2,fun h3 h4=>h3 ⟨Classical.not_not.1 h2,h4⟩⟩⟩,fun c hc=>⟨fun h3=>(gZ fun hA=>?_).symm,fun h3=>?_⟩⟩
  ·have:=hA k hk1;exact hc.1 h3 ⟨this.1,by rw[hx];exact this.2.1⟩
  have hcp:=Classical.not_not.1 (fun h=>by rw[hc.2 h] at h3;cases h3);refine⟨hcr,fun h4=>⟨by simp only[bp];omega,IH hk1 fun j hj=>hnext ⟨hcp.1,by rw[<- hx];exact hcp.2,fun h0=>by omega⟩ j hj⟩,fun h4=>⟨by omega,hca,⟨by omega,fun z _=>by simp only[dA];omega⟩,fun h5=>(gZ fun hA=>?_).symm,fun h5=>⟨by simp only[bp];omega,IH hk1 fun j hj=>hnext ⟨hcp.1,by rw[<- hx];exact hcp.2,fun _ c hcm=>?_⟩ j hj⟩⟩⟩
  ·obtain⟨z,hz,hz2⟩:=List.any_eq_true.1 h5;have:=(hA k hk1).2.2 (by omega) z hz;rw[dj,eK.2 this] at hz2;cases hz2
  ·have:=List.any_eq_false.1 h5 c hcm;rw[dj] at this;simpa using eK.1 (by simpa using this)
 ·have hx:at' m.roots (-1 - (at' I.nodes (k:Int)).parent)=cS I m k:=by rw[cS,if_neg h1]
  generalize at' m.roots (-1 - (at' I.nodes (k:Int)).parent)=x at hx ⊢;refine⟨fun c=>c=true↔¬ ((at' ar.nodes (at' m.nodes (k:Int))).control=(at' I.nodes (k:Int)).control/\(at' ar.nodes (at' m.nodes (k:Int))).parent=x),⟨fun h2=>iff_of_true rfl (fun h3=>h2 h3.1),fun h2=>by simp only[decide_eq_true_eq];exact⟨fun h3 h4=>h3 h4.2,fun h3 h4=>h3 ⟨Classical.not_not.1 h2,h4⟩⟩⟩,fun c hc=>⟨fun h3=>(gZ fun hA=>?_).symm,fun h3=>?_⟩⟩
  ·have:=hA k hk1;exact hc.1 h3 ⟨this.1,by rw[hx];exact this.2.1⟩
  have hcp:=Classical.not_not.1 (fun h=>by rw[hc.2 h] at h3;cases h3);refine⟨hcr,fun h4=>⟨by simp only[bp];omega,IH hk1 fun j hj=>hnext ⟨hcp.1,by rw[<- hx];exact hcp.2,fun h0=>by omega⟩ j hj⟩,fun h4=>⟨by omega,hca,⟨by omega,fun z _=>by simp only[dA];omega⟩,fun h5=>(gZ fun hA=>?_).symm,fun h5=>⟨by simp only[bp];omega,IH hk1 fun j hj=>hnext ⟨hcp.1,by rw[<- hx];exact hcp.2,fun _ c hcm=>?_⟩ j hj⟩⟩⟩
  ·obtain⟨z,hz,hz2⟩:=List.any_eq_true.1 h5;have:=(hA k hk1).2.2 (by omega) z hz;rw[dj,eK.2 this] at hz2;cases hz2
  ·have:=List.any_eq_false.1 h5 c hcm;rw[dj] at this;simpa using eK.1 (by simpa using this)
theorem wm {α:Type} [Inhabited α] (l:List α) (p:α->Bool) {k k':Nat} (h:k<=k'):idxs l p k <+: idxs l p k':=by
 induction h with
 | refl=>exact List.prefix_refl _
 | @step q _ ih=>
  apply ih.trans;rcases Bool.eq_false_or_eq_true (p (at' l (q:Int))) with h | h
  ·rw[j3 _ _ h];exact List.prefix_append _ _
  ·rw[mI _ _ h];exact List.prefix_refl _
theorem wa (b:aD) (l:Int) (i:Nat) {k k':Nat} (h:k<=k'):lP b l i k <+: lP b l i k':=List.IsPrefix.map _ (wm _ _ h)
theorem sD (b:aD) (l:Int) {i i':Nat} (h:i<=i'):de b l i <+: de b l i':=by
 induction h with
 | refl=>exact List.prefix_refl _
 | step _ ih=>exact ih.trans (by rw[ew];exact List.prefix_append _ _)
def eh (b:aD) (l:Int) (i k:Nat):List (Int × Int):=de b l i++lP b l i k
theorem pR {b:aD} (l:Int) {i k:Nat} (hi:i<b.nodes.length) (hk:k<=(at' b.nodes (i:Int)).links.length):eh b l i k <+: cn b l:=by
 have h1:eh b l i k <+: de b l (i+1):=by
  rw[eh,ew];exact (List.prefix_append_right_inj _).2 (wa _ _ _ hk)
 exact h1.trans (sD _ _ (by omega))
theorem rE {ar:aD} {nodes:List Int} {P Q:List (Int × Int)} (h:P <+: Q) (hne:P ≠ []):c5 ar nodes P=c5 ar nodes Q:=by
 obtain⟨t,rfl⟩:=h;cases P with
 | nil=>exact absurd rfl hne
 | cons a P=>rfl
theorem oz {ar:aD} {nodes:List Int} (P:List (Int × Int)) (p:Int × Int):c5 ar nodes (P++[p])=if P=[] then gO ar nodes p else c5 ar nodes P:=by
 cases P<;>simp[c5]
theorem j0 {I ar:aD} {nodes:List Int} (h:¬ lz I ar nodes):pq I ar nodes=([],false):=by rw[pq,if_neg h]
theorem kp {I ar:aD} {nodes:List Int} (h:lz I ar nodes):pq I ar nodes=((List.range (I.edges+I.outer.length).toNat).map fun l:Nat=>eF I ar nodes (l:Int),true):=by rw[pq,if_pos h]
def gS (I ar:aD) (nodes:List Int) (i k:Nat):List Int:=(List.range (I.edges+I.outer.length).toNat).map fun l:Nat=>c5 ar nodes (eh I (l:Int) i k)
theorem vW {I ar:aD} {nodes:List Int} {i k:Nat} {l:Int} (h0:0<=l) (h:l<I.edges+I.outer.length):at' (gS I ar nodes i k) l=c5 ar nodes (eh I l i k):=by
 obtain⟨q,rfl⟩:∃ q:Nat,l=q:=⟨l.toNat,by omega⟩
 rw[cG (by simp[gS];omega)];simp[gS]
theorem tH (I ar:aD) (nodes:List Int) (i k:Nat):(gS I ar nodes i k).length=(I.edges+I.outer.length).toNat:=by simp[gS]
theorem CR {I ar:aD} {nodes:List Int} {i k:Nat} {l:Int} (h0:0<=l) (hl:at' (at' I.nodes (i:Int)).links (k:Int)=l) (hx:eh I l i k=[]\/gO ar nodes ((i:Int),(k:Int))=c5 ar nodes (eh I l i k)) :
  (gS I ar nodes i k).set l.toNat (gO ar nodes ((i:Int),(k:Int)))=gS I ar nodes i (k+1):=by
 refine List.ext_getElem (by simp[gS]) fun q h1 h2=>?_
 simp only[gS,List.getElem_set,List.getElem_map,List.getElem_range]
 split
 ·rename_i hq
  have hq2:((q:Nat):Int)=l:=by omega
  rw[hq2,eh,oQ hl,<- List.append_assoc,oz]
  split
  ·rfl
  ·rename_i hne
   exact hx.resolve_left hne
 ·rename_i hq
  rw[eh,eh,qL (by rw[hl];omega)]
theorem tU (b:aD) (l:Int) (i:Nat):eh b l i (at' b.nodes (i:Int)).links.length=eh b l (i+1) 0:=by simp[eh,ew,j7]
theorem sC (b:aD) (l:Int):eh b l b.nodes.length 0=cn b l:=by simp[eh,cn,j7]
theorem tT (b:aD) (l:Int):eh b l 0 0=[]:=by simp[eh,de,j7]
abbrev dv (I ar:aD) (nodes:List Int):Prop:=(∃ sig,qt sig I ar)/\pe ar nodes I.nodes.length/\∀ k:Nat,k<I.nodes.length->(at' ar.nodes (at' nodes (k:Int))).control=(at' I.nodes (k:Int)).control
theorem yC {I ar:aD} {nodes:List Int} (h:dv I ar nodes) {l:Int} {p:Int × Int} (hp:p ∈ cn I l) :
  (0<=p.1/\p.1<nodes.length)/\(0<=at' nodes p.1/\at' nodes p.1<ar.nodes.length)/\(0<=p.2/\p.2<(at' ar.nodes (at' nodes p.1)).links.length)/\0<=gO ar nodes p:=by
 obtain⟨⟨sig,hP⟩,⟨hlen,hin⟩,hctl⟩:=h;obtain⟨j,hj,h1,h2,h3,_⟩:=xX.1 hp;have hi:=hin j (by omega);have e1:=hP.r.u4 (i:=j) ⟨by omega,by omega⟩;have e2:=hP.a.u4 hi;rw[hctl j hj] at e2;have h4:p.2<(at' ar.nodes (at' nodes p.1)).links.length:=by rw[h1];omega
 rw[<- h1] at hi;exact⟨by omega,hi,⟨h2,h4⟩,(hP.a.AD hi _ (at_mem ⟨h2,h4⟩)).1⟩
noncomputable abbrev eQ (I ar:aD) (nodes:List Int):=pq I ar nodes
def gk (I:aD) (ar:aD) (nodes:List Int) (Z:((List Int) × Bool)->Prop):Prop:=
 ∀ kV:Int,kV=(I.outer.length:Int)->(bp (I.edges+kV))/\∀ v8:Int,v8=I.edges+kV->(qg [(-1)] v8)/\∀ r11:List Int,r11=qG [(-1)] v8->∀ len21:Int,len21=(I.nodes.length:Int)->aG (σ:=Int × (List Int)) (fun (v30,l31) K35=>∀ c36:Bool,c36=decide (v30<len21)->((c36=true->(0<=v30/\v30<I.nodes.length)/\∀ x39:aA,x39=at' I.nodes v30->∀ len44:Int,len44=(x39.links.length:Int)->aG (σ:=Int × (List Int)) (fun (v53,l54) K58=>∀ c59:Bool,c59=decide (v53<len44)->((c59=true->(0<=v53/\v53<x39.links.length)/\∀ x62:Int,x62=at' x39.links v53->(0<=v30/\v30<nodes.length)/\∀ x65:Int,x65=at' nodes v30->(0<=x65/\x65<ar.nodes.length)/\∀ x68:aA,x68=at' ar.nodes x65->(0<=v53/\v53<x68.links.length)/\∀ x71:Int,x71=at' x68.links v53->cE (fun (J75:Bool->Prop)=>(0<=x62/\x62<l54.length)/\∀ x106:Int,x106=at' l54 x62->∀ c109:Bool,c109=decide (0<=x106)->((c109=true->(0<=x62/\x62<l54.length)/\∀ x112:Int,x112=at' l54 x62->∀ c116:Bool,c116=decide (x106 ≠ x71)->J75 (c116))/\(c109=false->J75 (false)))) (fun b78=>((b78=true->Z ([],false))/\(b78=false->(0<=x62/\x62<l54.length)/\∀ x89:Int,x89=at' l54 x62->∀ l92:List Int,l92=l54.set x62.toNat x71->(bp (v53+1))/\∀ v99:Int,v99=v53+1->K58 (v99,l92)))))/\(c59=false->(bp (v30+1))/\∀ v119:Int,v119=v30+1->K35 (v119,l54)))) (0,l31))/\(c36=false->aG (σ:=Int) (fun v124 K128=>∀ c129:Bool,c129=decide (v124<I.edges)->((c129=true->(fF I v124)/\∀ r132:(List (Int × Int)) × (List cB),r132=iN I v124->(0<=v124/\v124<l31.length)/\∀ x153:Int,x153=at' l31 v124->(fF ar x153)/\∀ r157:(List (Int × Int)) × (List cB),r157=iN ar x153->cE (fun (J158:Bool->Prop)=>(0<=v124/\v124<l31.length)/\∀ x171:Int,x171=at' l31 v124->∀ c175:Bool,c175=decide (ar.edges<=x153)->((c175=true->J158 (true))/\(c175=false->∀ len177:Int,len177=(r157.1.length:Int)->∀ len179:Int,len179=(r132.1.length:Int)->∀ c181:Bool,c181=decide (len177 ≠ len179)->J158 (c181)))) (fun b161=>((b161=true->Z ([],false))/\(b161=false->(bp (v124+1))/\∀ v168:Int,v168=v124+1->K128 (v168)))))/\(c129=false->Z (l31,true)))) (0)))) (0,r11)
theorem tx (I ar:aD) (nodes:List Int) (h:dv I ar nodes):gk I ar nodes (fun y=>y=eQ I ar nodes):=by
 unfold gk;have hpre:=h;obtain⟨⟨sig,hP⟩,⟨hlen,hin⟩,hctl⟩:=h;have hE:=hP.r.edges;have hO:=hP.r.outer;have hr8:=hP.r.len;have hLr:=hP.r.pL;have hLa:=hP.a.pL;simp only[forall_eq,decide_eq_true_eq,decide_eq_false_iff_not,iN];have h0:qG [(-1)] (I.edges+I.outer.length)=gS I ar nodes 0 0:=by
  simp only[qG,gS,tT,c5,List.headD_cons];refine List.ext_getElem (by simp) fun q h1 h2=>by simp
 rw[h0];refine⟨by simp only[bp];omega,⟨rfl,by omega,by omega⟩,?_⟩;refine aG.sE I.nodes.length (fun i out=>out=gS I ar nodes i 0/\∀ l,∀ p ∈ eh I l i 0,gO ar nodes p=c5 ar nodes (eh I l i 0)) _ ⟨rfl,fun l p hp=>by rw[tT] at hp;cases hp⟩ ?_;rintro i out K hi ⟨rfl,hg⟩ IH;dsimp only;refine⟨fun hc=>?_,fun hc=>?_⟩
 ·have hi1:i<I.nodes.length:=by omega
  refine⟨by omega,aG.sE (at' I.nodes (i:Int)).links.length (fun k out=>out=gS I ar nodes i k/\∀ l,∀ p ∈ eh I l i k,gO ar nodes p=c5 ar nodes (eh I l i k)) _ ⟨rfl,hg⟩ ?_⟩;rintro k out K2 hk ⟨rfl,hg2⟩ IH2;dsimp only;have hll:=hLr.2.1 i hi1;refine⟨fun hc2=>?_,fun hc2=>⟨by simp only[bp];omega,IH hi1 _ ⟨?_,?_⟩⟩⟩
  ·have hk1:k<(at' I.nodes (i:Int)).links.length:=by omega
   obtain⟨l0,hl0⟩:∃ l0,at' (at' I.nodes (i:Int)).links (k:Int)=l0:=⟨_,rfl⟩
   have hl:=hP.r.AD (i:=i) ⟨by omega,by omega⟩ _ (at_mem (l:=(at' I.nodes (i:Int)).links) (i:=(k:Int)) ⟨by omega,by omega⟩);rw[hl0] at hl ⊢;have hpf:=pR (b:=I) l0 hi1 (k:=k+1) (by omega);have hsn:eh I l0 i (k+1)=eh I l0 i k++[((i:Int),(k:Int))]:=by rw[eh,oQ hl0,<- List.append_assoc];rfl
   have hmem:((i:Int),(k:Int)) ∈ cn I l0:=hpf.subset (by rw[hsn];simp);obtain⟨q1,q2,q3,q4⟩:=yC hpre hmem;have hpk:=pR (b:=I) l0 hi1 (k:=k) (by omega);have hown:at' (at' ar.nodes (at' nodes (i:Int))).links (k:Int)=gO ar nodes ((i:Int),(k:Int)):=rfl;rw[hown];have hol:=tH I ar nodes i k;refine⟨by omega,q1,q2,q3,fun c=>c=true↔(0<=c5 ar nodes (eh I l0 i k)/\c5 ar nodes (eh I l0 i k) ≠ gO ar nodes ((i:Int),(k:Int))),?_,fun c hJ=>⟨fun h1=>?_,fun h1=>⟨by omega,by simp only[bp];omega,?_⟩⟩⟩
   ·rw[vW hl.1 hl.2];refine⟨by omega,fun h1=>⟨by omega,by simp only[decide_eq_true_eq];exact⟨fun h2=>⟨h1,h2⟩,fun h2=>h2.2⟩⟩,fun h1=>iff_of_false (by simp) fun h2=>h1 h2.1⟩
   ·obtain⟨h2,h3⟩:=hJ.1 h1;refine (j0 fun hL=>?_).symm;have hne:eh I l0 i k ≠ []:=fun h=>by rw[h] at h2;simp[c5] at h2
    rw[rE hpk hne] at h3;exact h3 ((hL l0 hl.1 hl.2).1 _ hmem).symm
   ·have hx:eh I l0 i k=[]\/gO ar nodes ((i:Int),(k:Int))=c5 ar nodes (eh I l0 i k):=by
     by_cases hne:eh I l0 i k=[]
     ·exact .inl hne
     ·refine .inr (Classical.byContradiction fun h2=>?_);have:0<=c5 ar nodes (eh I l0 i k):=by
       cases hq:eh I l0 i k with
       | nil=>exact absurd hq hne
       | cons a P=>exact (yC hpre (hpk.subset (by rw[hq];simp):a ∈ cn I l0)).2.2.2
      rw[hJ.2 ⟨this,fun h=>h2 h.symm⟩] at h1;cases h1
    rw[CR hl.1 hl0 hx];refine IH2 hk1 _ ⟨rfl,fun l p hp=>?_⟩
    by_cases hll0:l=l0
    ·subst hll0;rw[hsn] at hp ⊢;rw[oz];rcases List.mem_append.1 hp with hp | hp
     ·rw[if_neg (fun h=>by rw[h] at hp;cases hp)];exact hg2 _ p hp
     ·simp only[List.mem_singleton] at hp;subst hp
      split
      ·rfl
      ·rename_i hne
       exact hx.resolve_left hne
    ·have hno:eh I l i (k+1)=eh I l i k:=by rw[eh,qL (by rw[hl0];exact fun h=>hll0 h.symm)];rfl
     rw[hno] at hp ⊢;exact hg2 l p hp
  ·rw[show k=(at' I.nodes (i:Int)).links.length by omega];simp only[gS,tU]
  ·rw[show k=(at' I.nodes (i:Int)).links.length by omega] at hg2;simp only[tU] at hg2;exact hg2
 ·have hie:i=I.nodes.length:=by omega
  subst hie;simp only[sC] at hg;have hol:=tH I ar nodes I.nodes.length 0;have hfl:∀ l,0<=l->l<I.edges+I.outer.length->at' (gS I ar nodes I.nodes.length 0) l=eF I ar nodes l:=fun l h1 h2=>by rw[vW h1 h2,sC]
  refine aG.wM I.edges.toNat (fun q=>∀ l,0<=l->l<(q:Int)->eF I ar nodes l<ar.edges/\(cn ar (eF I ar nodes l)).length=(cn I l).length) (fun l h1 h2=>by omega) ?_;rintro q K3 hq hI IH3;refine⟨fun h1=>?_,fun h1=>?_⟩
  ·rw[hfl q (by omega) (by omega)];refine⟨hLr,by omega,hLa,fun c=>c=true↔¬ (eF I ar nodes q<ar.edges/\(cn ar (eF I ar nodes q)).length=(cn I q).length),⟨by omega,fun h2=>iff_of_true rfl (by omega),fun h2=>by simp only[decide_eq_true_eq];omega⟩,fun c hJ=>⟨fun h2=>(j0 fun hL=>hJ.1 h2 ((hL q (by omega) (by omega)).2 h1)).symm,fun h2=>⟨by simp only[bp];omega,IH3 (by omega) fun l h3 h4=>?_⟩⟩⟩;rcases Int.lt_or_le l q with h5 | h5
   ·exact hI l h3 h5
   ·rw[show l=q by omega];exact Classical.not_not.1 fun h=>by rw[hJ.2 h] at h2;cases h2
  ·have hL:lz I ar nodes:=fun l h2 h3=>⟨fun p hp=>hg l p hp,fun h4=>hI l h2 (by omega)⟩
   rw[eQ,kp hL];simp only[gS,sC]
def jz (p:Int) (v_:aD) (v_':Match) (Z:Bool->Prop):Prop:=
 cE (fun (J2:Bool->Prop)=>(bp (-v_.roots))/\∀ v9:Int,v9 = -v_.roots->∀ pd:Int,pd=(v_.nodes.length:Int)->(bp (pd - 1))/\∀ v14:Int,v14=pd - 1->∀ r16:Bool,r16=within p v9 v14->((r16=true->(mi v_ p v_'.nodes)/\∀ r18:Bool,r18=ox v_ p v_'.nodes->J2 (r18))/\(r16=false->J2 (true)))) (fun b5=>Z b5)
abbrev fI (p:Int) (ar:aD) (m:Match):Bool := !(within p (-ar.roots) (ar.nodes.length - 1)) || c8 ar m.nodes p
abbrev kM (p:Int) (ar:aD) (m:Match):Prop:=ya ar/\m.nodes.length<=1048576/\bp (-ar.roots)
theorem xe (p:Int) (ar:aD) (m:Match) (h:kM p ar m):jz p ar m (fun y=>y=fI p ar m):=by
 unfold jz;obtain⟨hd,hm,hr⟩:=h;simp only[forall_eq];refine⟨fun c=>c=fI p ar m,⟨hr,by have:=hd.1;simp only[bp];omega,fun h1=>⟨?_,?_⟩,fun h1=>?_⟩,fun c h=>h⟩
 ·simp only[within,Bool.and_eq_true,decide_eq_true_eq] at h1;exact⟨hd,by omega,hm⟩
 ·rw[fI,h1];rfl
 ·rw[fI,h1];rfl
noncomputable abbrev isMatch (I ar:aD) (m:Match):Bool:=fD I ar m
abbrev jt (I ar:aD) (m:Match):Prop:=(∃ sig,qt sig I ar)/\MSz m
def kB (I:aD) (ar:aD) (m:Match) (Z:Bool->Prop):Prop:=
 cE (fun (J6:Bool->Prop)=>∀ len48:Int,len48=(m.nodes.length:Int)->∀ len50:Int,len50=(I.nodes.length:Int)->∀ c52:Bool,c52=decide (len48 ≠ len50)->((c52=true->J6 (true))/\(c52=false->∀ len54:Int,len54=(m.roots.length:Int)->∀ c56:Bool,c56=decide (len54 ≠ I.roots)->J6 (c56)))) (fun b9=>((b9=true->Z false)/\(b9=false->∀ cD:Int,cD=(m.nodes.length:Int)->aG (σ:=Int) (fun v16 K19=>∀ c20:Bool,c20=decide (v16<cD)->((c20=true->(0<=v16/\v16<m.nodes.length)/\∀ x23:Int,x23=at' m.nodes v16->cE (fun (J25:Bool->Prop)=>(ar.nodes.length<=1048576)/\∀ r35:Bool,r35=ec ar x23->((r35=true->((0:Int)<=0/\(0:Int)<=v16/\v16<=m.nodes.length)/\∀ l37:List Int,l37=(m.nodes.take v16.toNat).drop 0->(l37.length<=1048576)/\∀ r40:Bool,r40=kc l37 x23->J25 (r40))/\(r35=false->J25 (true)))) (fun b28=>((b28=true->Z false)/\(b28=false->(bp (v16+1))/\∀ v32:Int,v32=v16+1->K19 (v32)))))/\(c20=false->(m.roots.length<=1048576/\∀ z ∈ m.roots,kM z ar m)/\∀ r42:Bool,r42=m.roots.any (fun z=>fI z ar m)->((r42=true->Z false)/\(r42=false->(jQ I ar m)/\∀ r44:Bool,r44=eu I ar m->((r44=true->(dv I ar m.nodes)/\∀ r46:(List Int) × Bool,r46=eQ I ar m.nodes->Z r46.2)/\(r44=false->Z false))))))) (0))))
theorem zj (I ar:aD) (m:Match) (h:jt I ar m):kB I ar m (fun y=>y=isMatch I ar m):=by
 unfold kB;obtain⟨⟨sig,hP⟩,hm1,hm2⟩:=h;have ha8:=hP.a.len;have har:=hP.a.roots;simp only[forall_eq,decide_eq_true_eq,decide_eq_false_iff_not,List.drop_zero];refine⟨fun c=>c=true↔¬ (m.nodes.length=I.nodes.length/\(m.roots.length:Int)=I.roots),⟨fun h1=>iff_of_true rfl (by omega),fun h1=>by simp only[decide_eq_true_eq];omega⟩,fun c hJ=>⟨fun h1=>(fT fun hM=>hJ.1 h1 ⟨hM.1.1,hM.2.1.1⟩).symm,fun h1=>?_⟩⟩;have hlr:=Classical.not_not.1 fun h=>by rw[hJ.2 h] at h1;cases h1
 refine aG.wM m.nodes.length (fun k=>∀ i:Nat,i<k->ec ar (at' m.nodes (i:Int))=true/\at' m.nodes (i:Int) ∉ m.nodes.take i) (fun i hi=>by omega) ?_;rintro k K hk hI IH;refine⟨fun h2=>⟨by omega,fun c=>c=true↔¬ (ec ar (at' m.nodes (k:Int))=true/\at' m.nodes (k:Int) ∉ m.nodes.take k),⟨by omega,fun h3=>⟨by omega,by simp;omega,?_⟩,fun h3=>iff_of_true rfl (by rw[h3];simp)⟩,fun c hJ2=>⟨fun h3=>(fT fun hM=>hJ2.1 h3 (hM.1.2 k (by omega))).symm,fun h3=>⟨by simp only[bp];omega,IH (by omega) fun i hi=>?_⟩⟩⟩,fun h2=>?_⟩
 ·rw[Int.toNat_natCast];dsimp only;rw[eK];exact⟨fun h4 h5=>h5.2 h4,fun h4=>Classical.not_not.1 fun h5=>h4 ⟨h3,h5⟩⟩
 ·rcases Nat.lt_or_ge i k with h5 | h5
  ·exact hI i h5
  ·rw[show i=k by omega];exact Classical.not_not.1 fun h=>by rw[hJ2.2 h] at h3;cases h3
 ·have hN:uA I ar m.nodes:=⟨hlr.1,fun i hi=>hI i (by omega)⟩
  have hnode:∀ x,ec ar x=true->0<=x/\x<ar.nodes.length:=fun x hx=>by
   simp only[ec,within,Bool.and_eq_true,decide_eq_true_eq] at hx;omega
  have hin:pe ar m.nodes I.nodes.length:=⟨hlr.1,fun i hi=>hnode _ (hN.2 i hi).1⟩
  refine⟨⟨hm2,fun z _=>⟨hP.a.FD,hm1,by simp only[bp];omega⟩⟩,fun h3=>(fT fun hM=>?_).symm,fun h3=>?_⟩
  ·obtain⟨z,hz,hz2⟩:=List.any_eq_true.1 h3;obtain⟨q1,q2,q3⟩:=hM.2.1.2 z hz;rw[fI,q3,Bool.or_false,Bool.not_eq_true'] at hz2;simp only[within,Bool.and_eq_false_iff,decide_eq_false_iff_not] at hz2;omega
  ·have hR:ij I ar m:=⟨hlr.2,fun p hp=>by
    have:=List.any_eq_false.1 h3 p hp;simp only[fI,Bool.or_eq_true,Bool.not_eq_true',not_or,Bool.not_eq_false] at this;obtain⟨t1,t2⟩:=this;simp only[within,Bool.and_eq_true,decide_eq_true_eq] at t1;exact⟨by omega,by omega,by simpa using t2⟩⟩
   refine⟨⟨⟨sig,hP⟩,hin,hlr.2⟩,fun h4=>?_,fun h4=>(fT fun hM=>?_).symm⟩
   ·have hI2:=nk.1 h4;refine⟨⟨⟨sig,hP⟩,hin,fun k hk=>(hI2 k hk).1⟩,?_⟩
    by_cases hL:lz I ar m.nodes
    ·rw[eQ,kp hL];exact (kQ.2 ⟨hN,hR,hI2,hL⟩).symm
    ·rw[eQ,j0 hL];exact (fT fun hM=>hL hM.2.2.2).symm
   ·rw[nk.2 hM.2.2.1] at h4;cases h4
theorem dI.Ew {sig:dE} {b:aD} (hV:dI sig b):gz b:=by
 have h2:=hV.slen;have h3:=hV.roots;have h4:=hV.edges;have h5:=hV.outer;exact⟨hV.pL,by omega,by omega,by omega,by omega,by omega,by omega⟩
noncomputable def cV (sig:dE) (I ar:aD):Bool:=iC sig I && gL I && fQ sig ar
abbrev ch (sig:dE) (I ar:aD):Prop:=cQ sig I/\cQ sig ar
noncomputable abbrev nW (sig:dE) (I ar:aD):Bool:=cV sig I ar
def fW (sig:List Control) (I:aD) (ar:aD) (Z:Bool->Prop):Prop:=
 cE (fun (J5:Bool->Prop)=>(cQ sig I)/\∀ r12:Bool,r12=iC sig I->((r12=true->(gz I)/\∀ r14:Bool,r14=vL I->((r14=true->(nu sig ar)/\∀ r16:Bool,r16=fQ sig ar->J5 (r16))/\(r14=false->J5 (false))))/\(r12=false->J5 (false)))) (fun b8=>Z b8)
theorem sZ (sig:dE) (I ar:aD) (h:ch sig I ar):fW sig I ar (fun y=>y=nW sig I ar):=by
 unfold fW;simp only[forall_eq];refine⟨fun c=>c=cV sig I ar,⟨h.1,fun h1=>⟨?_,fun h2=>⟨h.2,by rw[cV,h1,show gL I=true from h2];rfl⟩,fun h2=>by rw[cV,h1,show gL I=false from h2];rfl⟩,fun h1=>by rw[cV,h1];rfl⟩,fun c h=>h⟩;have hV:=jj h1;have h2:=hV.slen;have h3:=hV.roots;have h4:=hV.edges;have h5:=hV.outer;exact⟨hV.pL,by omega,by omega,by omega,by omega,by omega,by omega⟩
theorem jN {sig:dE} {I ar:aD} (h:cV sig I ar=true):qt sig I ar:=by
 simp only[cV,fQ,Bool.and_eq_true] at h;exact⟨jj h.1.1,jj h.2.1,nK.1 h.1.2⟩
end Go.Ab.Vg
