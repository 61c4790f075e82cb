/- Merged texts (7 of 17) of the proof that ends in Coy: Gg Gh Gi Gj Gk Gl Gx Kg Se Sd Ki Kiw Sh Ke St Sc Re. -/
import Derived.Test.YtkocdlgoncmdbaaGreatDoorAbQco6
import Derived.Laws.CopyRow
import Derived.Laws.IdiomCopy
open Go.Proofs.Tryz
set_option linter.unusedSectionVars false
set_option linter.unusedSimpArgs false
set_option linter.unusedVariables false
namespace Go.Ab
open Go.Proofs
theorem xH {sig:dG} {i j:Nat} (hi:i<sig.length) (hj:j<i) (h:sig[j].name=sig[i].name):newName sig i=false:=by
  have hg:sig.getD i default=sig[i]:=by simp[hi]
  have:(sig.take i).any (fun d=>d.name == sig[i].name)=true:=by
    rw[List.any_eq_true];refine⟨sig[j],?_,by simpa using h⟩;rw[List.mem_take_iff_getElem];exact⟨j,by omega,rfl⟩
  rw[newName,hg,this]
  rfl
theorem vb {sig:dG} {i:Nat} (hi:i<sig.length) (h:∀ j (hj:j<sig.length),j<i->¬ sig[j].name=sig[i].name):newName sig i=true:=by
  have hg:sig.getD i default=sig[i]:=by simp[hi]
  have:(sig.take i).any (fun d=>d.name == sig[i].name)=false:=by
    rw[List.any_eq_false];intro d hd;rw[List.mem_take_iff_getElem] at hd;obtain⟨j,hj,rfl⟩:=hd;have:=h j (by omega) (by omega);simpa using this
  rw[newName,hg,this]
  rfl
theorem Cd (sig:dG) (hl:sig.length<=1048576) (hs:∀ c ∈ sig,c.name.length<=1048576):aF prog 75 [bz false sig] (fun r=>r=bool (fP sig)):=by
  refine aF.of func75 rfl ntmps75 (by simp) fun Q hQ=>?_
  refine zE fun k' V=>?_
  simp [bz];apply V;refine zS fun k' V=>?_
  simp;apply V;have bad:∀ k,k<sig.length->iF sig k=false->∀ H n,Q (bool false) H n:=fun k hk hb H n=>hQ _ _ _ _ (.v _ _ _) (by rw[iw,dT hk hb,Bool.and_false])
  refine J.block (J.bS sig.length (fun k O H n=>O 0 = .list false (sig.map Control.cells)/\O 3=int k/\∀ i,i<k->iF sig i=true) ?_ ?_)
  · simp
  · rintro k O H n hk ⟨h0,h3,hall⟩ IH
    refine zS fun k' V=>?_
    simp [h0, h3];apply V;refine J.ite rfl (fun hc1 => ?_) (fun hc1 => ?_)
    · have hc1:k<sig.length:=by simpa using hc1
      have hgk:sig.getD k default=sig[k]:=by simp[hc1]
      apply zK;apply J.block;refine zS fun k' V=>?_
      have fin:∀ O:Env,O 0 = .list false (sig.map Control.cells)->O 3=int k->O 35=bool (!c5 sig[k])->J prog 75 55 k' O H n Q:=by
        intro O h0 h3 h35;apply V;refine J.ite h35 (fun hc2 => ?_) (fun hc2 => ?_)
        · have hb:c5 sig[k]=false:=by simpa using hc2
          refine zE fun k' V=>?_
          simp;apply V;exact J.ret func75 (aM.one results75) (bad k hc1 (by rw[iF,hgk,hb,Bool.false_and]) _ _)
        · have hb:c5 sig[k]=true:=by simpa using hc2
          apply J.skip;refine zE fun k' V=>?_
          simp;apply V;refine J.block (J.bS k (fun j O H n=>O 0 = .list false (sig.map Control.cells)/\O 3=int k/\O 4=int j/\∀ q (hq:q<sig.length),q<j->¬ sig[q].name=sig[k].name) ?_ ?_)
          · simp[h0,h3]
          · rintro j O H n hj ⟨h0,h3,h4,hno⟩ IH2
            refine zS fun k' V=>?_
            simp [h3, h4];apply V;refine J.ite rfl (fun hc3 => ?_) (fun hc3 => ?_)
            · have hc3:j<k:=by simpa using hc3
              have hjl:j<sig.length:=by omega
              apply zK;apply J.block;refine J.gr aw aH bY (by decide) (by kernel_rfl) fun k' V=>?_
              simp [h0, h3, h4, hc1, hjl, Control.cells];apply V;refine J.ite rfl (fun hc4 => ?_) (fun hc4 => ?_)
              · have hc4:sig[j].name=sig[k].name:=by simpa using hc4
                refine zE fun k' V=>?_
                simp;apply V;exact J.ret func75 (aM.one results75) (bad k hc1 (by rw[iF,xH hc1 hc3 hc4,Bool.and_false]) _ _)
              · have hc4:¬ sig[j].name=sig[k].name:=by simpa using hc4
                apply J.skip;refine zI fun k' V=>?_
                simp [h4, bg (show j < 4611686018427387904 by omega)];apply V;refine IH2 hc3 _ _ _ ⟨by simp[h0,Control.cells],by simp[h3],by simp,fun q hq hqj=>?_⟩;rcases Nat.lt_or_ge q j with h | h
                · exact hno q hq h
                · have:q=j:=by omega
                  subst this;exact hc4
            · have hc3:¬ j<k:=by simpa using hc3
              have hje:j=k:=by omega
              subst hje;refine J.exit rfl ?_;refine zI fun k' V=>?_
              simp [h3, bg (show j < 4611686018427387904 by omega)];apply V;refine IH hc1 _ _ _ ⟨by simp[h0],by simp,fun i hi=>?_⟩;rcases Nat.lt_or_ge i j with h | h
              · exact hall i h
              · rw[show i=j by omega,iF,hgk,hb,vb hc1 hno]
                rfl
      simp [h0, h3, hc1, Control.cells];refine zA (sS sig[k].name (Nat.le_trans (hs _ (List.getElem_mem hc1)) (by decide))) e127 (.cons (.v _ _ _) .nil) (by simp) ?_;rintro _ rfl;cases hnm:nA sig[k].name
      · simp[guardOf]
        exact fin _ (by simp[h0,Control.cells]) (by simp[h3]) (by simp only[c5,hnm];simp)
      · simp[h0,h3,hc1,Control.cells,guardOf]
        refine zA (gO sig[k].ports 0 3) Ep (.cons (.v _ _ _) (.cons (.v _ _ _) (.cons (.v _ _ _) .nil))) (by simp) ?_;rintro _ rfl;cases hpo:within sig[k].ports 0 3
        · simp[guardOf]
          exact fin _ (by simp[h0,Control.cells]) (by simp[h3]) (by simp only[c5,hnm,hpo];simp)
        · simp[h0,h3,hc1,Control.cells,guardOf]
          refine zA (gO sig[k].kind 0 2) Ep (.cons (.v _ _ _) (.cons (.v _ _ _) (.cons (.v _ _ _) .nil))) (by simp) ?_;rintro _ rfl;simp[guardOf];exact fin _ (by simp[h0,Control.cells]) (by simp[h3]) (by simp only[c5,hnm,hpo];simp)
    · have hc1:¬ k<sig.length:=by simpa using hc1
      have hke:k=sig.length:=by omega
      subst hke;refine J.exit rfl ?_;refine zE fun k' V=>?_
      simp [h0];refine zA (gO sig.length 1 6) Ep (.cons (.v _ _ _) (.cons (.v _ _ _) (.cons (.v _ _ _) .nil))) (by simp) ?_;rintro _ rfl;simp;apply V;exact J.ret func75 (aM.one results75) (hQ _ _ _ _ (.v _ _ _) (by rw[iw,dS hall,Bool.and_true]))
end Go.Ab
namespace Go.Ab
open Go.Proofs
theorem e40:a8 prog 40:=a8.of func40 (by kernel_rfl) rfl
theorem e95:a8 prog 95:=a8.of func95 (by kernel_rfl) rfl
theorem e97:a8 prog 97:=a8.of func97 (by kernel_rfl) rfl
theorem e99:a8 prog 99:=a8.of func99 (by kernel_rfl) rfl
structure fF (sig:dG) (b:aG):Prop where
  sigLen:sig.length<=1048576
  sigNames:∀ c ∈ sig,c.name.length<=1048576
  nodesLen:b.nodes.length<=1048576
  sitesLen:b.sites.length<=1048576
  outerLen:b.outer.length<=1048576
  innerLen:b.inner.length<=1048576
  outerNames:∀ s ∈ b.outer,s.length<=1048576
  innerNames:∀ w ∈ b.inner,w.name.length<=1048576
  linksLen:∀ x ∈ b.nodes,x.links.length<=1048576
  parents:∀ x ∈ b.nodes,bP x.parent
  sites64:∀ p ∈ b.sites,bP p
theorem clos76 {H:av} {n:Nat} {X:Id} (b:aG) (he:0<=b.edges/\b.edges<=8) (ho:b.outer.length<=1048576) (hX:H X=some ⟨6,[b.cells false]⟩) (l:Int):kL prog H n (.fn (.func 95) [] [.ptr X 1 0 0]) [int l] (fun r=>r=bool (!dp b l)):=by
  refine⟨95,[],[.ptr X 1 0 0],rfl,e95,?_⟩;have hX':=hX;simp only[aG.cells] at hX';refine cU.of func95 rfl ntmps95 (by simp) fun Q hB hQ=>?_
  refine zE fun _ V=>?_
  simp;apply V;refine zE fun _ V=>?_
  simp [hX'];refine zA (sH b l he ho) e96 (.cons (aN.cQ false b) (.cons (.v _ _ _) .nil)) (by simp[cQ,aG.cells]) ?_;rintro _ rfl;simp;apply V;exact J.ret func95 (aM.one results95) (hQ _ _ _ _ (.rS (.v _)) (Frame.refl _ _) (by simp))
theorem clos80 {H:av} {n:Nat} {X:Id} (b:aG) (he:0<=b.edges/\b.edges<=8) (ho:b.outer.length<=1048576) (hX:H X=some ⟨6,[b.cells false]⟩) (w:aI):kL prog H n (.fn (.func 99) [] [.ptr X 1 0 0]) [.agg w.cells] (fun r=>r=bool (!dp b w.link)):=by
  refine⟨99,[],[.ptr X 1 0 0],rfl,e99,?_⟩;have hX':=hX;simp only[aG.cells] at hX';refine cU.of func99 rfl ntmps99 (by simp) fun Q hB hQ=>?_
  have hXn:=(hB X _ hX).1;have hX2:¬ X=(n,2):=by rintro rfl;simp at hXn
  refine zE fun _ V=>?_
  simp [aI.cells];apply V;refine zE fun _ V=>?_
  simp [hX2, hX'];refine zA (sH b w.link he ho) e96 (.cons (aN.cQ false b) (.cons (.v _ _ _) .nil)) (by simp[cQ,aG.cells]) ?_;rintro _ rfl;simp;apply V;exact J.ret func99 (aM.one results99) (hQ _ _ _ _ (.rS (.v _)) (Frame.set (by simp) (Frame.refl _ _)) (by simp))
theorem clos78 {H:av} {n:Nat} {X ak:Id} (sig:dG) (b:aG) (hr:0<=b.roots/\b.roots<=4) (hc:ph sig b b.nodes.length) (hX:H X=some ⟨6,[b.cells false]⟩) (hY:H ak=some ⟨1,[[bz false sig]]⟩) (p:Int) :
    kL prog H n (.fn (.func 97) [] [.ptr X 1 0 0,.ptr ak 1 0 0]) [int p] (fun r=>r=bool (!cd sig b p b.nodes.length)):=by
  refine⟨97,[],[.ptr X 1 0 0,.ptr ak 1 0 0],rfl,e97,?_⟩;have hX':=hX;simp only[aG.cells,bE] at hX';have hY':=hY;simp only[bz] at hY';refine cU.of func97 rfl ntmps97 (by simp) fun Q hB hQ=>?_
  refine zE fun _ V=>?_
  simp;apply V;refine zE fun _ V=>?_
  simp [hX', hY'];refine zA (oM sig b p b.nodes.length hr (Nat.le_refl _) hc) e93 (.cons (aN.cQ false b) (.cons (aN.bz false sig) (.cons (.v _ _ _) (.cons (.v _ _ _) .nil)))) (by simp[cQ,aG.cells,bE,bz]) ?_;rintro _ rfl;simp;apply V;exact J.ret func97 (aM.one results97) (hQ _ _ _ _ (.rS (.v _)) (Frame.refl _ _) (by simp))
theorem vL {sig:dG} {b:aG} {k:Nat} (h:cB sig b k=true) (hk:ph sig b k):ph sig b (k+1):=by
  intro i hi;rcases Nat.lt_or_ge i k with h1 | h1
  · exact hk i h1
  · have:i=k:=by omega
    subst this;simp only[cB,within,Bool.and_eq_true,decide_eq_true_eq] at h;omega
def dM (sig:dG) (b:aG):Bool:=
  fP sig && within b.roots 0 4 && decide (b.nodes.length<=8) && decide (b.sites.length<=4) && within b.edges 0 8 && c7 b.outer && c7 (names b)
theorem eE (sig:dG) (b:aG):m0 sig b=(dM sig b && (List.range b.nodes.length).all (cB sig b) && b.sites.all (fun p=>cd sig b p b.nodes.length) && b.inner.all (fun w=>dp b w.link)):=rfl
theorem tK {α:Type} (l:List α) (p:α->Bool):(l.any fun x => !p x) = !l.all p:=by
  induction l with
  | nil=>rfl
  | cons a l ih=>simp[ih]
theorem uD (sig:dG) (b:aG) (hs:fF sig b):aF prog 40 [bz false sig,cQ false b] (fun r=>r=bool (m0 sig b)):=by
  obtain⟨s1,s2,s3,s4,s5,s6,s7,s8,s9,_,_⟩:=hs;have hnl:(names b).length<=1048576:=by simpa[names] using s6
  have hnn:∀ s ∈ names b,s.length<=1048576:=by
    intro s hs;obtain⟨w,hw,rfl⟩:=List.mem_map.1 hs;exact s8 w hw
  refine aF.of func40 rfl ntmps40 (by simp) fun Q hQ=>?_
  refine zE fun k' V=>?_
  simp [bz, cQ, aG.cells];apply V;refine J.cut (fun O H n=>O 2 = .ptr (0,2) 1 0 0/\O 3 = .ptr (1,3) 1 0 0/\H (0,2)=some ⟨1,[[bz false sig]]⟩/\H (1,3)=some ⟨6,[b.cells false]⟩) ⟨by simp,by simp,by simp[bz],by simp[aG.cells]⟩ ?_;clear V;rintro O H n ⟨h2,h3,hm2,hm3⟩;have hm2':=hm2;simp only[bz] at hm2';have hm3':=hm3;simp only[aG.cells,bE,encI,encS,bO] at hm3';refine zS fun k' V=>?_
  have fin:∀ O:Env,O 2 = .ptr (0,2) 1 0 0->O 3 = .ptr (1,3) 1 0 0->O 45=bool (!dM sig b)->J prog 40 101 k' O H n Q:=by
    intro O h2 h3 h45;apply V;refine J.ite h45 (fun hc1 => ?_) (fun hc1 => ?_)
    · have hb:dM sig b=false:=by simpa using hc1
      refine zE fun k' V=>?_
      simp;apply V;exact J.ret func40 (aM.one results40) (hQ _ _ _ _ (.v _ _ _) (by rw[eE,hb];rfl))
    · have hb:dM sig b=true:=by simpa using hc1
      have hb':=hb;simp only[dM,within,Bool.and_eq_true,decide_eq_true_eq] at hb';obtain⟨⟨⟨⟨⟨⟨_,hr⟩,hn8⟩,_⟩,hed⟩,_⟩,_⟩:=hb';apply J.skip;refine zS fun k' V=>?_
      simp [h3, hm3'];apply V;refine J.block (J.bS b.nodes.length (fun k O H n=>O 2 = .ptr (0,2) 1 0 0/\O 3 = .ptr (1,3) 1 0 0/\O 47 = .list false (b.nodes.map (ay.cells false))/\O 48=int b.nodes.length/\O 49=int k /\
        H (0,2)=some ⟨1,[[bz false sig]]⟩/\H (1,3)=some ⟨6,[b.cells false]⟩/\ph sig b k/\(∀ i,i<k->cB sig b i=true)) ?_ ?_)
      · exact⟨by simp[h2],by simp[h3],by simp,by simp,by simp,hm2,hm3,fun i hi=>by omega,fun i hi=>by omega⟩
      · clear h2 h3 hm2' hm3'
        rintro k O H n hk ⟨h2,h3,h47,h48,h49,hm2,hm3,hctl,hall⟩ IH;have hm2':=hm2;simp only[bz] at hm2';have hm3':=hm3;simp only[aG.cells,bE,encI,encS,bO] at hm3';refine zE fun k' V=>?_
        simp [h48, h49];apply V;apply J.seq;refine J.ite rfl (fun hc2 => ?_) (fun hc2 => ?_)
        · have hc2:k<b.nodes.length:=by simpa using hc2
          have hgk:b.nodes.getD k default=b.nodes[k]:=by simp[hc2]
          apply zK;apply J.block;refine zE fun k' V=>?_
          simp [h47, h49, hc2, ay.cells];apply V;refine J.cut (fun O H m=>O 2 = .ptr (0,2) 1 0 0/\O 3 = .ptr (1,3) 1 0 0/\O 47 = .list false (b.nodes.map (ay.cells false))/\O 48=int b.nodes.length/\O 49=int k/\O 5=int k/\O 6 = .ptr (n,6) 1 0 0 /\
            H (0,2)=some ⟨1,[[bz false sig]]⟩/\H (1,3)=some ⟨6,[b.cells false]⟩/\H (n,6)=some ⟨3,[b.nodes[k].cells false]⟩/\m=n+1) ?_ ?_
          · exact⟨by simp[h2],by simp[h3],by simp[h47],by simp[h48],by simp[h49],by simp,by simp,by simp[hm2],by simp[hm3],by simp[ay.cells],rfl⟩
          clear V h2 h3 h47 h48 h49 hm2 hm3 hm2' hm3';rintro O H m ⟨h2,h3,h47,h48,h49,h5,h6,hm2,hm3,hm6,rfl⟩;have hm2':=hm2;simp only[bz] at hm2';have hm3':=hm3;simp only[aG.cells,bE,encI,encS,bO] at hm3';have hm6':=hm6;simp only[ay.cells] at hm6';refine J.gr aw aH bY (by decide) (by kernel_rfl) fun k' V=>?_
          have fin:∀ O:Env,O 2 = .ptr (0,2) 1 0 0->O 3 = .ptr (1,3) 1 0 0->O 47 = .list false (b.nodes.map (ay.cells false))->O 48=int b.nodes.length->O 49=int k->O 87=bool (!cB sig b k)->J prog 40 101 k' O H (n+1) Q:=by
            intro O h2 h3 h47 h48 h49 h87;apply V;refine J.ite h87 (fun hc3 => ?_) (fun hc3 => ?_)
            · have hb:cB sig b k=false:=by simpa using hc3
              refine zE fun k' V=>?_
              simp;apply V;exact J.ret func40 (aM.one results40) (hQ _ _ _ _ (.v _ _ _) (by rw[eE,dT hc2 hb,Bool.and_false];rfl))
            · have hb:cB sig b k=true:=by simpa using hc3
              apply J.skip;refine zI fun k' V=>?_
              simp [h49, bg (show k < 4611686018427387904 by omega)];apply V;refine IH hc2 _ _ _ ⟨by simp[h2],by simp[h3],by simp[h47],by simp[h48],by simp,hm2,hm3,vL hb hctl,fun i hi=>?_⟩;rcases Nat.lt_or_ge i k with h | h
              · exact hall i h
              · rw[show i=k by omega];exact hb
          have hw:IntKind.i64.wrap ((sig.length:Int) - 1)=(sig.length:Int) - 1:=by rw[wrap64]<;>omega
          simp [h2, h6, hm2', hm6', hw];refine bA.cY aw aH (fa b.nodes[k].control 0 ((sig.length:Int) - 1)) E6 (.cons (.v _ _ _) (.cons (.v _ _ _) (.cons (.v _ _ _) .nil))) (by decide) rfl (by simp) ?_;cases q1:within b.nodes[k].control 0 ((sig.length:Int) - 1)
          · simp[guardOf]
            exact fin _ (by simp[h2]) (by simp[h3]) (by simp[h47]) (by simp[h48]) (by simp[h49]) (by simp only[cB,hgk,q1];simp)
          simp[h2,h3,h5,h6,hm2',hm3',hm6',guardOf];refine bA.cY aw aH (oM sig b b.nodes[k].parent k hr (by omega) hctl) e93 (.cons (aN.cQ false b) (.cons (aN.bz false sig) (.cons (.v _ _ _) (.cons (.v _ _ _) .nil)))) (by decide) rfl (by simp[cQ,aG.cells,bE,encI,encS,bO,bz]) ?_;cases q2:cd sig b b.nodes[k].parent k
          · simp[guardOf]
            exact fin _ (by simp[h2]) (by simp[h3]) (by simp[h47]) (by simp[h48]) (by simp[h49]) (by simp only[cB,hgk,q2];simp)
          have q1':=q1;simp only[within,Bool.and_eq_true,decide_eq_true_eq] at q1';obtain⟨c,hc⟩:∃ c:Nat,b.nodes[k].control=c:=⟨b.nodes[k].control.toNat,by omega⟩
          have hcl:c<sig.length:=by omega
          have q1c:=q1;rw[hc] at q1c;have hgc:sig.getD c default=sig[c]:=by simp[hcl]
          by_cases q3:(b.nodes[k].links.length:Int)=sig[c].ports
          · have q3':((b.nodes[k].links.length:Int) != sig[c].ports)=false:=by simpa using q3
            simp[h2,h3,h6,hm2',hm6',hc,hcl,q3',Control.cells,guardOf];refine bA.j0 aw aH (jh false b.nodes[k].links (fun l => !dp b l) (s9 _ (List.getElem_mem hc2)) (fun l _=>clos76 b hed s5 hm3 l)) e94 (by decide) rfl (by simp) ?_;simp;refine fin _ (by simp[h2]) (by simp[h3]) (by simp[h47]) (by simp[h48]) (by simp[h49]) ?_;simp only[cB,hgk,q1c,q2,hc,Int.toNat_natCast,hgc,q3,tK];simp
          · have q3':((b.nodes[k].links.length:Int) != sig[c].ports)=true:=by simpa using q3
            simp[h2,h3,h6,hm2',hm6',hc,hcl,q3',Control.cells,guardOf];exact fin _ (by simp[h2]) (by simp[h3]) (by simp[h47]) (by simp[h48]) (by simp[h49]) (by simp only[cB,hgk,q1c,q2,hc,Int.toNat_natCast,hgc,q3];simp)
        · have hc2:¬ k<b.nodes.length:=by simpa using hc2
          have hke:k=b.nodes.length:=by omega
          subst hke;have hnodes:=dS hall;refine J.exit rfl ?_;refine zE fun k' V=>?_
          simp [h2, h3, hm3'];refine bq.j0 aw (jh false b.sites (fun p => !cd sig b p b.nodes.length) s4 (fun p _=>clos78 sig b hr hctl hm3 hm2 p)) e94 (by decide) (by decide) rfl (by simp) ?_;rintro _ rfl;rw[tK];cases r1:b.sites.all (fun p=>cd sig b p b.nodes.length)
          · simp[guardOf]
            apply V;exact J.ret func40 (aM.one results40) (hQ _ _ _ _ (.v _ _ _) (by rw[eE,r1];simp))
          · simp[h3,hm3',guardOf]
            refine bq.j0 aw (nL false b.inner (fun w => !dp b w.link) s6 (fun w _=>clos80 b hed s5 hm3 w)) e98 (by decide) (by decide) rfl (by simp) ?_;rintro _ rfl;rw[tK];simp;apply V;exact J.ret func40 (aM.one results40) (hQ _ _ _ _ (.v _ _ _) (by rw[eE,hb,hnodes,r1];simp))
  simp [h2, hm2'];refine zA (ri sig s1 s2) e89 (.cons (aN.bz false sig) .nil) (by simp[bz]) ?_;rintro _ rfl;cases p1:fP sig
  · simp[guardOf]
    exact fin _ (by simp[h2]) (by simp[h3]) (by simp only[dM,p1];simp)
  simp[h3,hm3',guardOf];refine zA (fa b.roots 0 4) E6 (.cons (.v _ _ _) (.cons (.v _ _ _) (.cons (.v _ _ _) .nil))) (by simp) ?_;rintro _ rfl;cases p2:within b.roots 0 4
  · simp[guardOf]
    exact fin _ (by simp[h2]) (by simp[h3]) (by simp only[dM,p2];simp)
  by_cases p3:(8:Int)<b.nodes.length
  · simp[h3,hm3',p3,guardOf]
    exact fin _ (by simp[h2]) (by simp[h3]) (by simp only[dM,show ¬ b.nodes.length<=8 by omega];simp)
  by_cases p4:(4:Int)<b.sites.length
  · simp[h3,hm3',p3,p4,guardOf]
    exact fin _ (by simp[h2]) (by simp[h3]) (by simp only[dM,show ¬ b.sites.length<=4 by omega];simp)
  simp[h3,hm3',p3,p4,guardOf];refine zA (fa b.edges 0 8) E6 (.cons (.v _ _ _) (.cons (.v _ _ _) (.cons (.v _ _ _) .nil))) (by simp) ?_;rintro _ rfl;cases p5:within b.edges 0 8
  · simp[guardOf]
    exact fin _ (by simp[h2]) (by simp[h3]) (by simp only[dM,p5];simp)
  simp[h3,hm3',guardOf];refine zA (pf b.outer s5 s7) e91 (.cons (aN.encS false b.outer) .nil) (by simp[encS]) ?_;rintro _ rfl;cases p6:c7 b.outer
  · simp[guardOf]
    exact fin _ (by simp[h2]) (by simp[h3]) (by simp only[dM,p6];simp)
  simp[h3,hm3',guardOf];refine zA (rY b s6) e92 (.cons (aN.cQ false b) .nil) (by simp[cQ,aG.cells,bE,encI,encS,bO]) ?_;rintro _ rfl;simp;refine zA (pf (names b) hnl hnn) e91 (.cons (aN.encS true (names b)) .nil) (by simp[encS]) ?_;rintro _ rfl;simp;exact fin _ (by simp[h2]) (by simp[h3]) (by simp only[dM,p1,p2,p5,p6,show b.nodes.length<=8 by omega,show b.sites.length<=4 by omega];simp)
end Go.Ab
namespace Go.Ab
open Go.Proofs
theorem e32:a8 prog 32:=a8.of func32 (by kernel_rfl) rfl
theorem e79:a8 prog 79:=a8.of func79 (by kernel_rfl) rfl
theorem uc {α:Type} {l:List α} {p:α->Bool} {k:Nat} (hk:k<l.length) (h:p l[k]=false):l.all p=false:=by
  rw[List.all_eq_false];exact⟨l[k],List.getElem_mem hk,by simp[h]⟩
theorem tM {α:Type} {l:List α} {p:α->Bool} (h:∀ i (hi:i<l.length),p l[i]=true):l.all p=true:=by
  rw[List.all_eq_true];intro x hx;obtain⟨i,hi,rfl⟩:=List.getElem_of_mem hx;exact h i hi
theorem Bq (sig:dG) (b:aG) (hs:fF sig b) (k:Nat) (hk:k<b.nodes.length) (hr:0<=b.roots/\b.roots<=4) (he:0<=b.edges/\b.edges<=8) (hctl:ph sig b k) :
    aF prog 79 [bz false sig,cQ false b,int k] (fun r=>r=bool (cB sig b k)):=by
  have hgk:b.nodes.getD k default=b.nodes[k]:=by simp[hk]
  have hll:=hs.linksLen _ (List.getElem_mem hk);have hpar:=hs.parents _ (List.getElem_mem hk);have hol:=hs.outerLen;have hsl:=hs.sigLen;refine aF.of func79 rfl ntmps79 (by simp) fun Q hQ=>?_
  refine zE fun k' V=>?_
  simp [bz, cQ, aG.cells];apply V;refine zE fun k' V=>?_
  simp [bE, hk, ay.cells];apply V;refine J.cut (fun O H n=>O 0 = .list false (sig.map Control.cells)/\O 2=int k/\O 4 = .ptr (0,4) 1 0 0/\O 7 = .ptr (1,7) 1 0 0/\H (0,4)=some ⟨6,[b.cells false]⟩/\H (1,7)=some ⟨3,[b.nodes[k].cells false]⟩) ⟨by simp,by simp,by simp,by simp,by simp[aG.cells,bE,ay.cells],by simp[ay.cells]⟩ ?_;clear V;rintro O H n ⟨h0,h2,h4,h7,hm4,hm7⟩;have hm4':=hm4;simp only[aG.cells,bE,encI,encS,bO] at hm4';have hm7':=hm7;simp only[ay.cells] at hm7';apply J.seq;refine J.gr aw aH bY (by decide) (by kernel_rfl) fun k' V=>?_
  have fin:∀ (O:Env) (pre:Bool),O 4 = .ptr (0,4) 1 0 0->O 7 = .ptr (1,7) 1 0 0->O 41=bool (!pre)->cB sig b k=(pre && b.nodes[k].links.all (dp b))->J prog 79 57 k' O H n Q:=by
    intro O pre h4 h7 h41 hpre;apply V;refine J.ite h41 (fun hc1 => ?_) (fun hc1 => ?_)
    · have hb:pre=false:=by simpa using hc1
      refine zE fun k' V=>?_
      simp;apply V;exact J.ret func79 (aM.one results79) (hQ _ _ _ _ (.v _ _ _) (by rw[hpre,hb];rfl))
    · have hb:pre=true:=by simpa using hc1
      rw[hb,Bool.true_and] at hpre;apply J.skip;refine zS fun k' V=>?_
      simp;apply V;refine J.block (J.bS b.nodes[k].links.length (fun j ρ' H' n'=>ρ' 4 = .ptr (0,4) 1 0 0/\ρ' 7 = .ptr (1,7) 1 0 0/\ρ' 8=int j/\H'=H/\n'=n/\∀ i (hi:i<b.nodes[k].links.length),i<j->dp b b.nodes[k].links[i]=true) ?_ ?_)
      · exact⟨by simp[h4],by simp[h7],by simp,rfl,rfl,fun i hi h=>by omega⟩
      · clear h4 h7
        rintro j O H' n' hj ⟨h4,h7,h8,rfl,rfl,hall⟩ IH;refine zS fun k' V=>?_
        simp [h7, h8, hm7'];apply V;refine J.ite rfl (fun hc2 => ?_) (fun hc2 => ?_)
        · have hc2:j<b.nodes[k].links.length:=by simpa using hc2
          apply zK;apply J.block;refine J.gr aw aH bY (by decide) (by kernel_rfl) fun k' V=>?_
          simp [h4, h7, h8, hm4', hm7', hc2, au];refine bA.cY aw aH (tc b b.nodes[k].links[j] he hol) e81 (.cons (aN.cQ false b) (.cons (.v _ _ _) .nil)) (by decide) rfl (by simp[cQ,aG.cells,bE,encI,encS,bO,au]) ?_;simp;apply V;refine J.ite rfl (fun hc3 => ?_) (fun hc3 => ?_)
          · have hb3:dp b b.nodes[k].links[j]=false:=by simpa using hc3
            refine zE fun k' V=>?_
            simp;apply V;exact J.ret func79 (aM.one results79) (hQ _ _ _ _ (.v _ _ _) (by rw[hpre,uc hc2 hb3]))
          · have hb3:dp b b.nodes[k].links[j]=true:=by simpa using hc3
            apply J.skip;refine zI fun k' V=>?_
            simp [h8, bg (show j < 4611686018427387904 by omega)];apply V;refine IH hc2 _ _ _ ⟨by simp[h4],by simp[h7],by simp,rfl,rfl,fun i hi hij=>?_⟩;rcases Nat.lt_or_ge i j with h | h
            · exact hall i hi h
            · have:i=j:=by omega
              subst this;exact hb3
        · have hc2:¬ j<b.nodes[k].links.length:=by simpa using hc2
          have hje:j=b.nodes[k].links.length:=by omega
          subst hje;refine J.exit rfl ?_;refine zE fun k' V=>?_
          simp;apply V;exact J.ret func79 (aM.one results79) (hQ _ _ _ _ (.v _ _ _) (by rw[hpre,tM fun i hi=>hall i hi hi]))
  have hw:IntKind.i64.wrap ((sig.length:Int) - 1)=(sig.length:Int) - 1:=by rw[wrap64]<;>omega
  simp [h0, h7, hm7', hw];refine bA.cY aw aH (gO b.nodes[k].control 0 ((sig.length:Int) - 1)) Ep (.cons (.v _ _ _) (.cons (.v _ _ _) (.cons (.v _ _ _) .nil))) (by decide) rfl (by simp) ?_;cases q1:within b.nodes[k].control 0 ((sig.length:Int) - 1)
  · simp[guardOf]
    exact fin _ false (by simp[h4]) (by simp[h7]) (by simp) (by simp only[cB,hgk,q1];simp)
  simp[h0,h2,h4,h7,hm4',hm7',guardOf];refine bA.cY aw aH (qG sig b b.nodes[k].parent k hpar hr (by omega) hctl) e80 (.cons (aN.bz false sig) (.cons (aN.cQ false b) (.cons (.v _ _ _) (.cons (.v _ _ _) .nil)))) (by decide) rfl (by simp[cQ,aG.cells,bE,encI,encS,bO,bz]) ?_;cases q2:cd sig b b.nodes[k].parent k
  · simp[guardOf]
    exact fin _ false (by simp[h4]) (by simp[h7]) (by simp) (by simp only[cB,hgk,q2];simp)
  have q1':=q1;simp only[within,Bool.and_eq_true,decide_eq_true_eq] at q1';obtain⟨c,hc⟩:∃ c:Nat,b.nodes[k].control=c:=⟨b.nodes[k].control.toNat,by omega⟩
  have hcl:c<sig.length:=by omega
  have q1c:=q1;rw[hc] at q1c;have hgc:sig.getD c default=sig[c]:=by simp[hcl]
  by_cases q3:(b.nodes[k].links.length:Int)=sig[c].ports
  · have q3':((b.nodes[k].links.length:Int) != sig[c].ports)=false:=by simpa using q3
    simp[h0,h7,hm7',hc,hcl,q3',Control.cells,guardOf];exact fin _ true (by simp[h4]) (by simp[h7]) (by simp) (by simp only[cB,hgk,q1c,q2,hc,Int.toNat_natCast,hgc,q3];simp)
  · have q3':((b.nodes[k].links.length:Int) != sig[c].ports)=true:=by simpa using q3
    simp[h0,h7,hm7',hc,hcl,q3',Control.cells,guardOf];exact fin _ false (by simp[h4]) (by simp[h7]) (by simp) (by simp only[cB,hgk,q1c,q2,hc,Int.toNat_natCast,hgc,q3];simp)
end Go.Ab
namespace Go.Ab
open Go.Proofs
theorem zC {sig:dG} {b:aG} {k:Nat} (h:∀ i,i<k->cB sig b i=true):ph sig b k:=by
  induction k with
  | zero=>intro i hi;omega
  | succ k ih=>exact vL (h k (by omega)) (ih fun i hi=>h i (by omega))
def ru (sig:dG) (b:aG):Bool:=fP sig && within b.roots 0 4 && decide (b.nodes.length<=8) && decide (b.sites.length<=4) && within b.edges 0 8
def vl (b:aG):Bool:=c7 b.outer && c7 (names b)
theorem mj (sig:dG) (b:aG):dM sig b=(ru sig b && vl b):=by
  simp only[dM,ru,vl,Bool.and_assoc]
theorem AD (sig:dG) (b:aG) (hs:fF sig b):aF prog 32 [bz false sig,cQ false b] (fun r=>r=bool (m0 sig b)):=by
  obtain⟨s1,s2,s3,s4,s5,s6,s7,s8,s9,s10,s11⟩:=id hs;have hnl:(names b).length<=1048576:=by simpa[names] using s6
  have hnn:∀ s ∈ names b,s.length<=1048576:=by
    intro s hs;obtain⟨w,hw,rfl⟩:=List.mem_map.1 hs;exact s8 w hw
  refine aF.of func32 rfl ntmps32 (by simp) fun Q hQ=>?_
  have no:m0 sig b=false->∀ H n,Q (bool false) H n:=fun h H n=>hQ _ _ _ _ (.v _ _ _) (by rw[h])
  refine zE fun k' V=>?_
  simp [bz, cQ, aG.cells];apply V;refine J.cut (fun O H n=>O 0 = .list false (sig.map Control.cells)/\O 3 = .ptr (0,3) 1 0 0/\H (0,3)=some ⟨6,[b.cells false]⟩) ⟨by simp,by simp,by simp[aG.cells]⟩ ?_;clear V;rintro O H n ⟨h0,h3,hm3⟩;have hm3':=hm3;simp only[aG.cells,bE,encI,encS,bO] at hm3';refine zS fun k' V=>?_
  have fin:∀ O:Env,O 0 = .list false (sig.map Control.cells)->O 3 = .ptr (0,3) 1 0 0->O 34=bool (!ru sig b)->J prog 32 98 k' O H n Q:=by
    clear h0 h3;intro O h0 h3 h34;apply V;refine J.ite h34 (fun hc1 => ?_) (fun hc1 => ?_)
    · have hb:ru sig b=false:=by simpa using hc1
      refine zE fun k' V=>?_
      simp;apply V;exact J.ret func32 (aM.one results32) (no (by rw[eE,mj,hb];rfl) _ _)
    · have hb1:ru sig b=true:=by simpa using hc1
      have hb':=hb1;simp only[ru,within,Bool.and_eq_true,decide_eq_true_eq] at hb';obtain⟨⟨⟨⟨_,hr⟩,hn8⟩,_⟩,hed⟩:=hb';apply J.skip;refine zS fun k' V=>?_
      have fin2:∀ O:Env,O 0 = .list false (sig.map Control.cells)->O 3 = .ptr (0,3) 1 0 0->O 50=bool (!vl b)->J prog 32 98 k' O H n Q:=by
        clear h0 h3;intro O h0 h3 h50;apply V;refine J.ite h50 (fun hc1 => ?_) (fun hc1 => ?_)
        · have hb:vl b=false:=by simpa using hc1
          refine zE fun k' V=>?_
          simp;apply V;exact J.ret func32 (aM.one results32) (no (by rw[eE,mj,hb,Bool.and_false];rfl) _ _)
        · have hb2:vl b=true:=by simpa using hc1
          have hpre:dM sig b=true:=by rw[mj,hb1,hb2];rfl
          apply J.skip;refine zS fun k' V=>?_
          simp;apply V;refine J.block (J.bS b.nodes.length (fun k ρ' H' n'=>ρ' 0 = .list false (sig.map Control.cells)/\ρ' 3 = .ptr (0,3) 1 0 0/\ρ' 5=int k/\H'=H/\n'=n/\∀ i,i<k->cB sig b i=true) ?_ ?_)
          · exact⟨by simp[h0],by simp[h3],by simp,rfl,rfl,fun i hi=>by omega⟩
          · clear h0 h3
            rintro k O H' n' hk ⟨h0,h3,h5,rfl,rfl,hall⟩ IH;refine zS fun k' V=>?_
            simp [h3, h5, hm3'];apply V;refine J.ite rfl (fun hc2 => ?_) (fun hc2 => ?_)
            · have hc2:k<b.nodes.length:=by simpa using hc2
              apply zK;apply J.block;refine zE fun k' V=>?_
              simp [h0, h3, h5, hm3'];refine zA (Bq sig b hs k hc2 hr hed (zC hall)) e79 (.cons (aN.bz false sig) (.cons (aN.cQ false b) (.cons (.v _ _ _) .nil))) (by simp[h0,h5,bz,cQ,aG.cells,bE,encI,encS,bO]) ?_;rintro _ rfl;simp;apply V;refine J.ite rfl (fun hc3 => ?_) (fun hc3 => ?_)
              · have hb3:cB sig b k=false:=by simpa using hc3
                refine zE fun k' V=>?_
                simp;apply V;exact J.ret func32 (aM.one results32) (no (by rw[eE,dT hc2 hb3,Bool.and_false];rfl) _ _)
              · have hb3:cB sig b k=true:=by simpa using hc3
                apply J.skip;refine zI fun k' V=>?_
                simp [h5, bg (show k < 4611686018427387904 by omega)];apply V;refine IH hc2 _ _ _ ⟨by simp[h0],by simp[h3],by simp,rfl,rfl,fun i hi=>?_⟩;rcases Nat.lt_or_ge i k with h | h
                · exact hall i h
                · rw[show i=k by omega];exact hb3
            · have hc2:¬ k<b.nodes.length:=by simpa using hc2
              have hke:k=b.nodes.length:=by omega
              subst hke;have hnodes:=dS hall;have hctl:=zC hall;refine J.exit rfl ?_;refine zS fun k' V=>?_
              simp;apply V;clear IH hall h5;refine J.block (J.bS b.sites.length (fun k ρ' H2 n2=>ρ' 0 = .list false (sig.map Control.cells)/\ρ' 3 = .ptr (0,3) 1 0 0/\ρ' 6=int k/\H2=H'/\n2=n'/\∀ i (hi:i<b.sites.length),i<k->cd sig b b.sites[i] b.nodes.length=true) ?_ ?_)
              · exact⟨by simp[h0],by simp[h3],by simp,rfl,rfl,fun i hi h=>by omega⟩
              · clear h0 h3
                rintro k O H2 n2 hk2 ⟨h0,h3,h6,rfl,rfl,hall⟩ IH;refine zS fun k' V=>?_
                simp [h3, h6, hm3'];apply V;refine J.ite rfl (fun hc4 => ?_) (fun hc4 => ?_)
                · have hc4:k<b.sites.length:=by simpa using hc4
                  apply zK;apply J.block;refine J.gr aw aH bY (by decide) (by kernel_rfl) fun k' V=>?_
                  simp [h0, h3, h6, hm3', hc4, au];refine bA.cY aw aH (qG sig b b.sites[k] b.nodes.length (s11 _ (List.getElem_mem hc4)) hr (Nat.le_refl _) hctl) e80 (.cons (aN.bz false sig) (.cons (aN.cQ false b) (.cons (.v _ _ _) (.cons (.v _ _ _) .nil)))) (by decide) rfl (by simp[h0,bz,cQ,aG.cells,bE,encI,encS,bO,au]) ?_;simp;apply V;refine J.ite rfl (fun hc5 => ?_) (fun hc5 => ?_)
                  · have hb3:cd sig b b.sites[k] b.nodes.length=false:=by simpa using hc5
                    refine zE fun k' V=>?_
                    simp;apply V;exact J.ret func32 (aM.one results32) (no (by rw[eE,uc hc4 hb3,Bool.and_false];rfl) _ _)
                  · have hb3:cd sig b b.sites[k] b.nodes.length=true:=by simpa using hc5
                    apply J.skip;refine zI fun k' V=>?_
                    simp [h6, bg (show k < 4611686018427387904 by omega)];apply V;refine IH hc4 _ _ _ ⟨by simp[h0],by simp[h3],by simp,rfl,rfl,fun i hi hij=>?_⟩;rcases Nat.lt_or_ge i k with h | h
                    · exact hall i hi h
                    · have:i=k:=by omega
                      subst this;exact hb3
                · have hc4:¬ k<b.sites.length:=by simpa using hc4
                  have hke:k=b.sites.length:=by omega
                  subst hke;have hsites:=tM (l:=b.sites) (p:=fun p=>cd sig b p b.nodes.length) fun i hi=>hall i hi hi
                  refine J.exit rfl ?_;refine zS fun k' V=>?_
                  simp;apply V;clear IH hall h6;refine J.block (J.bS b.inner.length (fun k ρ' H3 n3=>ρ' 3 = .ptr (0,3) 1 0 0/\ρ' 7=int k/\H3=H2/\n3=n2/\∀ i (hi:i<b.inner.length),i<k->dp b b.inner[i].link=true) ?_ ?_)
                  · exact⟨by simp[h3],by simp,rfl,rfl,fun i hi h=>by omega⟩
                  · clear h0 h3
                    rintro k O H3 n3 hk3 ⟨h3,h7,rfl,rfl,hall⟩ IH;refine zS fun k' V=>?_
                    simp [h3, h7, hm3'];apply V;refine J.ite rfl (fun hc6 => ?_) (fun hc6 => ?_)
                    · have hc6:k<b.inner.length:=by simpa using hc6
                      apply zK;apply J.block;refine J.gr aw aH bY (by decide) (by kernel_rfl) fun k' V=>?_
                      simp [h3, h7, hm3', hc6, aI.cells];refine bA.cY aw aH (tc b b.inner[k].link hed s5) e81 (.cons (aN.cQ false b) (.cons (.v _ _ _) .nil)) (by decide) rfl (by simp[cQ,aG.cells,bE,encI,encS,bO,aI.cells]) ?_;simp;apply V;refine J.ite rfl (fun hc7 => ?_) (fun hc7 => ?_)
                      · have hb3:dp b b.inner[k].link=false:=by simpa using hc7
                        refine zE fun k' V=>?_
                        simp;apply V;exact J.ret func32 (aM.one results32) (no (by rw[eE,uc (l:=b.inner) (p:=fun w=>dp b w.link) hc6 hb3,Bool.and_false]) _ _)
                      · have hb3:dp b b.inner[k].link=true:=by simpa using hc7
                        apply J.skip;refine zI fun k' V=>?_
                        simp [h7, bg (show k < 4611686018427387904 by omega)];apply V;refine IH hc6 _ _ _ ⟨by simp[h3],by simp,rfl,rfl,fun i hi hij=>?_⟩;rcases Nat.lt_or_ge i k with h | h
                        · exact hall i hi h
                        · have:i=k:=by omega
                          subst this;exact hb3
                    · have hc6:¬ k<b.inner.length:=by simpa using hc6
                      have hke:k=b.inner.length:=by omega
                      subst hke;have hinner:=tM (l:=b.inner) (p:=fun w=>dp b w.link) fun i hi=>hall i hi hi
                      refine J.exit rfl ?_;refine zE fun k' V=>?_
                      simp;apply V;exact J.ret func32 (aM.one results32) (hQ _ _ _ _ (.v _ _ _) (by rw[eE,hpre,hnodes,hsites,hinner];rfl))
      simp [h3, hm3'];refine zA (qH b.outer s5 s7) e77 (.cons (aN.encS false b.outer) .nil) (by simp[encS]) ?_;rintro _ rfl;cases p6:c7 b.outer
      · simp[guardOf]
        exact fin2 _ (by simp[h0]) (by simp[h3]) (by simp only[vl,p6];simp)
      by_cases p7:(16:Int)<b.inner.length
      · simp[h3,hm3',p7,guardOf]
        refine fin2 _ (by simp[h0]) (by simp[h3]) ?_;have:c7 (names b)=false:=by
          rw[ft,show decide ((names b).length<=16)=false by simp[names];omega,Bool.false_and]
        simp only[vl,this];simp
      simp[h3,hm3',p7,guardOf];refine zA (xB b s6) e78 (.cons (aN.cQ false b) .nil) (by simp[cQ,aG.cells,bE,encI,encS,bO]) ?_;rintro _ rfl;simp;refine zA (qH (names b) hnl hnn) e77 (.cons (aN.encS true (names b)) .nil) (by simp[encS]) ?_;rintro _ rfl;simp;exact fin2 _ (by simp[h0]) (by simp[h3]) (by simp only[vl,p6];simp)
  simp [h0];refine zA (Cd sig s1 s2) e75 (.cons (aN.bz false sig) .nil) (by simp[bz,h0]) ?_;rintro _ rfl;cases p1:fP sig
  · simp[guardOf]
    exact fin _ (by simp[h0]) (by simp[h3]) (by simp only[ru,p1];simp)
  simp[h3,hm3',guardOf];refine zA (gO b.roots 0 4) Ep (.cons (.v _ _ _) (.cons (.v _ _ _) (.cons (.v _ _ _) .nil))) (by simp) ?_;rintro _ rfl;cases p2:within b.roots 0 4
  · simp[guardOf]
    exact fin _ (by simp[h0]) (by simp[h3]) (by simp only[ru,p2];simp)
  by_cases p3:(8:Int)<b.nodes.length
  · simp[h3,hm3',p3,guardOf]
    exact fin _ (by simp[h0]) (by simp[h3]) (by simp only[ru,show ¬ b.nodes.length<=8 by omega];simp)
  by_cases p4:(4:Int)<b.sites.length
  · simp[h3,hm3',p3,p4,guardOf]
    exact fin _ (by simp[h0]) (by simp[h3]) (by simp only[ru,show ¬ b.sites.length<=4 by omega];simp)
  simp[h3,hm3',p3,p4,guardOf];refine zA (gO b.edges 0 8) Ep (.cons (.v _ _ _) (.cons (.v _ _ _) (.cons (.v _ _ _) .nil))) (by simp) ?_;rintro _ rfl;simp;exact fin _ (by simp[h0]) (by simp[h3]) (by simp only[ru,p1,p2,show b.nodes.length<=8 by omega,show b.sites.length<=4 by omega];simp)
end Go.Ab
namespace Go.Ab
open Go.Proofs
theorem Ea:a8 prog 109:=a8.of func109 (by kernel_rfl) rfl
theorem e107:a8 prog 107:=a8.of func107 (by kernel_rfl) rfl
theorem e135:a8 prog 135:=a8.of func135 (by kernel_rfl) rfl
theorem CY (t:Bool) (l:List Int) (x:Int) (hl:l.length<=1048576):aF prog 109 [encI t l,int x] (fun r=>r=int (se l (fun y=>x == y))):=by
  refine aF.of func109 rfl ntmps109 (by simp) fun Q hQ=>?_
  refine zE fun _ V=>?_
  simp [encI];apply V;refine zS fun _ V=>?_
  simp;apply V;refine J.block (J.bS l.length (fun k O H' n'=>O 0 = .list t (l.map au)/\O 1=int x/\O 7=int l.length/\O 8=int k/\∀ i (h:i<l.length),i<k->(x == l[i])=false) ?_ ?_)
  · simp
  · rintro k O H' n' hk ⟨h0,h1,h7,h8,hno⟩ IH
    refine zE fun _ V=>?_
    simp [h7, h8];apply V;apply J.seq;refine J.ite rfl (fun hc1 => ?_) (fun hc1 => ?_)
    · have hc1:k<l.length:=by simpa using hc1
      apply zK;apply J.block;refine zE fun _ V=>?_
      simp [h8];apply V;refine zE fun _ V=>?_
      simp [h0, h1, hc1, au];apply V;refine J.ite rfl (fun hc2 => ?_) (fun hc2 => ?_)
      · have hc2:(x == l[k])=true:=by simpa using hc2
        refine zE fun _ V=>?_
        simp;apply V;refine J.ret func109 (aM.one results109) (hQ _ _ _ _ (.v _ _ _) ?_);simp[py (p:=fun y=>x == y) hc1 hc2 hno]
      · have hc2:(x == l[k])=false:=by simpa using hc2
        apply J.skip;refine zI fun _ V=>?_
        simp [h8, bg (show k < 4611686018427387904 by omega)];apply V;refine IH hc1 _ _ _ ⟨by simp[h0,au],by simp[h1],by simp[h7],by simp,fun i h hi=>?_⟩;rcases Nat.lt_or_ge i k with hik | hik
        · exact hno i h hik
        · have:i=k:=by omega
          subst this;exact hc2
    · have hc1:¬ k<l.length:=by simpa using hc1
      have hke:k=l.length:=by omega
      subst hke;refine J.exit rfl ?_;refine zE fun _ V=>?_
      simp;apply V;refine J.ret func109 (aM.one results109) (hQ _ _ _ _ (.v _ _ _) ?_);simp[pz (p:=fun y=>x == y) fun i h=>hno i h h]
theorem oO (l:List Int) (x:Int) (hl:l.length<=1048576):aF prog 107 [encI false l,int x] (fun r=>r=bool (l.any (fun y=>x == y))):=by
  refine aF.of func107 rfl ntmps107 (by simp) fun Q hQ=>?_
  refine zE fun _ V=>?_
  simp [encI];apply V;refine zE fun _ V=>?_
  simp;refine zA (CY false l x hl) Ea (.cons (aN.encI false l) (.cons (.v _ _ _) .nil)) (by simp[encI]) ?_;rintro _ rfl;simp;apply V;refine J.ret func107 (aM.one results107) (hQ _ _ _ _ (.v _ _ _) ?_);have:=mJ l (fun y=>x == y);simp only[Env.put];simp[this]
theorem B4 (l:List Int) (x:Int) (hl:l.length<=1048576):aF prog 135 [encI false l,int x] (fun r=>r=bool (l.any (fun y=>x == y))):=by
  refine aF.of func135 rfl ntmps135 (by simp) fun Q hQ=>?_
  refine zE fun _ V=>?_
  simp [encI];apply V;refine zS fun _ V=>?_
  simp;apply V;refine J.block (J.bS l.length (fun k O H' n'=>O 0 = .list false (l.map au)/\O 1=int x/\O 5=int k/\∀ i (h:i<l.length),i<k->¬ l[i]=x) ?_ ?_)
  · simp
  · rintro k O H' n' hk ⟨h0,h1,h5,hno⟩ IH
    refine zS fun _ V=>?_
    simp [h0, h5];apply V;refine J.ite rfl (fun hc1 => ?_) (fun hc1 => ?_)
    · have hc1:k<l.length:=by simpa using hc1
      apply zK;apply J.block;refine zE fun _ V=>?_
      simp [h0, h1, h5, hc1, au];apply V;refine J.ite rfl (fun hc2 => ?_) (fun hc2 => ?_)
      · have hc2:l[k]=x:=by simpa using hc2
        refine zE fun _ V=>?_
        simp;apply V;refine J.ret func135 (aM.one results135) (hQ _ _ _ _ (.v _ _ _) ?_);have:l.any (fun y=>x == y)=true:=by
          rw[List.any_eq_true];exact⟨l[k],List.getElem_mem hc1,by simp[hc2]⟩
        rw[this];try rfl
      · have hc2:¬ l[k]=x:=by simpa using hc2
        apply J.skip;refine zI fun _ V=>?_
        simp [h5, bg (show k < 4611686018427387904 by omega)];apply V;refine IH hc1 _ _ _ ⟨by simp[h0,au],by simp[h1],by simp,fun i h hi=>?_⟩;rcases Nat.lt_or_ge i k with hik | hik
        · exact hno i h hik
        · have:i=k:=by omega
          subst this;exact hc2
    · have hc1:¬ k<l.length:=by simpa using hc1
      have hke:k=l.length:=by omega
      subst hke;refine J.exit rfl ?_;refine zE fun _ V=>?_
      simp;apply V;refine J.ret func135 (aM.one results135) (hQ _ _ _ _ (.v _ _ _) ?_);have:l.any (fun y=>x == y)=false:=by
        rw[List.any_eq_false];intro y hy;obtain⟨i,hi,rfl⟩:=List.getElem_of_mem hy;have:=hno i hi hi;simpa using fun h=>this h.symm
      rw[this];try rfl
end Go.Ab
namespace Go.Ab
open Go.Proofs
end Go.Ab
namespace Go.Ab.Vg
structure Cp (sig:dG):Prop where
  len:1<=sig.length/\sig.length<=6
  ports:∀ c ∈ sig,0<=c.ports/\c.ports<=3
  kind:∀ c ∈ sig,0<=c.kind/\c.kind<=2
structure bn (sig:dG) (b:aG):Prop where
  sg:Cp sig
  roots:0<=b.roots/\b.roots<=4
  len:b.nodes.length<=8
  slen:b.sites.length<=4
  edges:0<=b.edges/\b.edges<=8
  outer:b.outer.length<=16
  inner:b.inner.length<=16
  ctl:∀ i (h:i<b.nodes.length),0<=b.nodes[i].control/\b.nodes[i].control<sig.length
  par:∀ i (h:i<b.nodes.length),-b.roots<=b.nodes[i].parent/\b.nodes[i].parent<i
  ports:∀ i (h:i<b.nodes.length),(b.nodes[i].links.length:Int)=(sig.getD b.nodes[i].control.toNat default).ports
  links:∀ i (h:i<b.nodes.length),∀ l ∈ b.nodes[i].links,0<=l/\l<b.edges+b.outer.length
  sites:∀ p ∈ b.sites,-b.roots<=p/\p<b.nodes.length
  wires:∀ w ∈ b.inner,0<=w.link/\w.link<b.edges+b.outer.length
theorem sd {sig:dG} (h:fP sig=true):Cp sig:=by
  simp only[fP,within,c5,Bool.and_eq_true,decide_eq_true_eq,List.all_eq_true,List.mem_range] at h;obtain⟨h1,h2⟩:=h;refine⟨by omega,fun c hc=>?_,fun c hc=>?_⟩<;>obtain⟨i,hi,rfl⟩:=List.getElem_of_mem hc<;>have:=h2 i hi<;>simp only[List.getD_eq_getElem?_getD,List.getElem?_eq_getElem hi,Option.getD_some] at this
  · exact this.1.1.2
  · exact this.1.2
theorem kt {sig:dG} {b:aG} (h:m0 sig b=true):bn sig b:=by
  simp only[m0,Bool.and_eq_true,decide_eq_true_eq,List.all_eq_true,List.mem_range] at h;obtain⟨⟨⟨⟨⟨⟨⟨⟨⟨hs,hr⟩,hn⟩,hst⟩,he⟩,ho⟩,hi⟩,hno⟩,hsi⟩,hw⟩:=h;have hV:=sd hs;simp only[within,Bool.and_eq_true,decide_eq_true_eq] at hr he;simp only[c7,Bool.and_eq_true,decide_eq_true_eq,List.length_map] at ho hi;have hno2:∀ i (h:i<b.nodes.length),(0<=b.nodes[i].control/\b.nodes[i].control<=(sig.length:Int) - 1)/\cd sig b b.nodes[i].parent i=true/\(b.nodes[i].links.length:Int)=(sig.getD b.nodes[i].control.toNat default).ports/\∀ l ∈ b.nodes[i].links,dp b l=true:=fun i h=>by
    have:=hno i h;simp only[cB,within,Bool.and_eq_true,decide_eq_true_eq,List.all_eq_true,List.getD_eq_getElem?_getD,List.getElem?_eq_getElem h,Option.getD_some] at this;exact⟨this.1.1.1,this.1.1.2,by simpa using this.1.2,this.2⟩
  have hp:∀ p (m:Nat),cd sig b p m=true -> -b.roots<=p/\p<m:=fun p m h=>by
    simp only[cd] at h
    split at h
    · simp only[decide_eq_true_eq] at h;omega
    · simp only[Bool.and_eq_true,decide_eq_true_eq] at h;omega
  have hl:∀ l,dp b l=true->0<=l/\l<b.edges+b.outer.length:=fun l h=>by
    simp only[dp,within,Bool.and_eq_true,decide_eq_true_eq] at h;omega
  exact⟨hV,hr,hn,hst,he,ho.1,hi.1,fun i h=>by have:=(hno2 i h).1;omega,fun i h=>hp _ _ (hno2 i h).2.1,fun i h=>(hno2 i h).2.2.1,fun i h l hm=>hl l ((hno2 i h).2.2.2 l hm),fun p hm=>hp _ _ (hsi p hm),fun w hm=>hl _ (hw w hm)⟩
theorem at_mem {α:Type} [Inhabited α] {l:List α} {i:Int} (h:0<=i/\i<l.length):at' l i ∈ l:=by
  obtain⟨h1,h2⟩:=og h rfl;exact h2 ▸ List.getElem_mem h1
theorem uY {α:Type} [Inhabited α] {l:List α} {i:Int} (h:0<=i/\i<l.length):∃ h':i.toNat<l.length,at' l i=l[i.toNat]:=by
  obtain⟨h1,h2⟩:=og h rfl;exact⟨h1,h2.symm⟩
theorem bn.ctlAt {sig:dG} {b:aG} (h:bn sig b) {i:Int} (hi:0<=i/\i<b.nodes.length):0<=(at' b.nodes i).control/\(at' b.nodes i).control<sig.length:=by
  obtain⟨h1,h2⟩:=uY hi;rw[h2];exact h.ctl _ h1
theorem bn.lL {sig:dG} {b:aG} (h:bn sig b) {i:Int} (hi:0<=i/\i<b.nodes.length) : -b.roots<=(at' b.nodes i).parent/\(at' b.nodes i).parent<i:=by
  obtain⟨h1,h2⟩:=uY hi;rw[h2];have:=h.par _ h1;omega
theorem bn.tJ {sig:dG} {b:aG} (h:bn sig b) {i:Int} (hi:0<=i/\i<b.nodes.length):((at' b.nodes i).links.length:Int)=(at' sig (at' b.nodes i).control).ports:=by
  obtain⟨h1,h2⟩:=uY hi;have h3:=h.ports _ h1;have h4:=h.ctl _ h1;rw[h2,h3];simp[at']
theorem bn.lB {sig:dG} {b:aG} (h:bn sig b) {i:Int} (hi:0<=i/\i<b.nodes.length):∀ l ∈ (at' b.nodes i).links,0<=l/\l<b.edges+b.outer.length:=by
  obtain⟨h1,h2⟩:=uY hi;rw[h2];exact h.links _ h1
theorem bn.gA {sig:dG} {b:aG} (h:bn sig b) {i:Int} (hi:0<=i/\i<b.nodes.length):(at' b.nodes i).links.length<=3:=by
  have h1:=h.tJ hi;have h2:=h.ctlAt hi;have h3:=h.sg.ports _ (at_mem h2);omega
end Go.Ab.Vg
namespace Go.Ab.Vg
abbrev iu (many:Int):List Int:=List.replicate many.toNat (-1)
abbrev hU (many:Int):Prop:=0<=many/\many<=1048576
def nu (many:Int) (Z:(List Int)->Prop):Prop:=
  aO (σ:=Int × (List Int)) (fun (i12,l13) K17=>∀ c18:Bool,c18=decide (i12<many)->((c18=true->(l13.length+1<=1073741824)/\∀ l21:List Int,l21=l13++[(-1)]->(bP (i12+1))/\∀ v31:Int,v31=i12+1->K17 (v31,l21))/\(c18=false->Z l13))) (0,([]:List Int))
theorem C5 (many:Int) (h:hU many):nu many (fun y=>y=iu many):=by
  unfold nu;obtain⟨h1,h2⟩:=h;refine aO.qc many.toNat (fun k out=>out=List.replicate k (-1)) [] rfl ?_;rintro k _ K hk rfl IH;simp only[forall_eq,decide_eq_true_eq,decide_eq_false_iff_not,bP];refine⟨fun h3=>⟨by simp;omega,by omega,IH (by omega) _ List.replicate_succ'.symm⟩,fun h3=>?_⟩;rw[show k=many.toNat by omega]
abbrev uS (l:List Int):List Int:=l
abbrev fT (l:List Int):Prop:=l.length<=1048576
def pJ (l:List Int) (Z:(List Int)->Prop):Prop:=
  (([]:List Int).length+l.length<=1073741824)/\∀ l4:List Int,l4=([]:List Int)++l->Z l4
theorem En (l:List Int) (h:fT l):pJ l (fun y=>y=uS l):=by
  unfold pJ;exact⟨by simp;omega,fun _ h=>by simpa using h⟩
def gK (l:List Int):Int:=((l.filter fun x=>decide (0<=x)).length:Int)
abbrev mm (l:List Int):Prop:=l.length<=1048576
def pH (edges:List Int) (Z:Int->Prop):Prop:=
  aO (σ:=Int × Int) (fun (many5,i6) K9=>∀ fe:Int,fe=(edges.length:Int)->∀ c12:Bool,c12=decide (i6<fe)->((c12=true->(0<=i6/\i6<edges.length)/\∀ x15:Int,x15=at' edges i6->∀ c17:Bool,c17=decide (0<=x15)->((c17=true->(bP (many5+1))/\∀ v20:Int,v20=many5+1->(bP (i6+1))/\∀ v23:Int,v23=i6+1->K9 (v20,v23))/\(c17=false->(bP (i6+1))/\∀ v27:Int,v27=i6+1->K9 (many5,v27))))/\(c12=false->Z many5))) (0,0)
theorem EC (l:List Int) (h:mm l):pH l (fun y=>y=gK l):=by
  unfold pH;refine aO.upR l.length (fun k c=>c=(((l.take k).filter fun x=>decide (0<=x)).length:Int)) 0 (by simp) ?_;rintro k _ K hk rfl IH;have hl:((l.take k).filter fun x=>decide (0<=x)).length<=k:=Nat.le_trans (List.length_filter_le _ _) (by simp;omega);have h':l.length<=1048576:=h;simp only[forall_eq,decide_eq_true_eq,decide_eq_false_iff_not,bP];refine⟨fun h3=>?_,fun h3=>?_⟩
  · have hkl:k<l.length:=by omega
    rw[bo hkl];refine⟨by omega,fun h4=>⟨by omega,by omega,IH hkl _ ?_⟩,fun h4=>⟨by omega,IH hkl _ ?_⟩⟩
    · rw[<- List.take_append_getElem hkl,List.filter_append];simp[h4]
    · rw[<- List.take_append_getElem hkl,List.filter_append];simp[h4]
  · rw[show k=l.length by omega,List.take_length];rfl
abbrev A7 (p:Int) (pl:List Int):Int:=cA pl p
abbrev ie (p:Int) (pl:List Int):Prop:=p<pl.length/\bP (-1 - p)/\(0<=p->bP (4+at' pl p))
def pO (parent:Int) (places:List Int) (Z:Int->Prop):Prop:=
  ∀ c2:Bool,c2=decide (parent<0)->((c2=true->(bP ((-1) - parent))/\∀ v5:Int,v5=(-1) - parent->Z v5)/\(c2=false->(0<=parent/\parent<places.length)/\∀ x8:Int,x8=at' places parent->(bP (4+x8))/\∀ v11:Int,v11=4+x8->Z v11))
theorem Ec (p:Int) (pl:List Int) (h:ie p pl):pO p pl (fun y=>y=A7 p pl):=by
  unfold pO;obtain⟨h1,h2,h3⟩:=h;simp only[forall_eq,decide_eq_true_eq,decide_eq_false_iff_not];exact⟨fun h4=>⟨h2,by rw[A7,cA,if_pos h4]⟩,fun h4=>⟨by omega,h3 (by omega),by rw[A7,cA,if_neg h4]⟩⟩
def eY (b:aG):List Int->List Int->List Int × List Int
  | now,[]=>([],now)
  | now,l::t=>
    if l >= b.edges then let r:=eY b now t;((l - b.edges)::r.1,r.2)
    else let now2:=if at' now l<0 then now.set l.toNat (gK now) else now
      let r:=eY b now2 t;((16+at' now2 l)::r.1,r.2)
theorem fK (b:aG):∀ (l now:List Int),(eY b now l).1.length=l.length
  | [],_=>rfl
  | x::l,now=>by
    simp only[eY]
    split
    · simp[fK b l now]
    · simp[fK b l _]
structure kF (b:aG) (now:List Int):Prop where
  ed:0<=b.edges/\b.edges<=8
  len:(now.length:Int)=b.edges
  val:∀ v ∈ now,-1<=v/\v<=8
theorem yW (l:List Int):0<=gK l/\gK l<=l.length:=by
  have:=List.length_filter_le (fun x=>decide (0<=x)) l;simp only[gK];omega
theorem kF.set {b:aG} {now:List Int} (h:kF b now) (l:Int):kF b (now.set l.toNat (gK now)):=by
  have h1:=yW now;have h2:=h.len;have h3:=h.ed;refine⟨h.ed,by simpa using h.len,fun v hv=>?_⟩;rcases List.mem_or_eq_of_mem_set hv with hv | rfl
  · exact h.val v hv
  · omega
theorem m9 {b:aG}:∀ (l now:List Int),kF b now->kF b (eY b now l).2
  | [],_,h=>h
  | x::l,now,h=>by
    simp only[eY]
    split
    · exact m9 l now h
    · split
      · exact m9 l _ (h.set x)
      · exact m9 l _ h
theorem drop_at {l:List Int} {k:Nat} (h:k<l.length):l.drop k=at' l (k:Int)::l.drop (k+1):=by rw[bo h,List.drop_eq_getElem_cons h]
abbrev kA (b:aG) (links edges:List Int):List Int × List Int:=eY b edges links
abbrev eP (b:aG) (links edges:List Int):Prop:=kF b edges/\links.length<=1048576/\∀ l ∈ links,0<=l/\l<=1048576
def kY (b:aG) (links:List Int) (edges:List Int) (Z:((List Int) × (List Int))->Prop):Prop:=
  (fT edges)/\∀ r8:List Int,r8=uS edges->aO (σ:=Int × (List Int) × (List Int)) (fun (i29,l30,l31) K36=>∀ len37:Int,len37=(links.length:Int)->∀ c39:Bool,c39=decide (i29<len37)->((c39=true->(0<=i29/\i29<links.length)/\∀ x42:Int,x42=at' links i29->∀ c44:Bool,c44=decide (b.edges<=x42)->((c44=true->(0<=i29/\i29<links.length)/\∀ x47:Int,x47=at' links i29->(bP (x42 - b.edges))/\∀ v51:Int,v51=x42 - b.edges->(l30.length+1<=1073741824)/\∀ l54:List Int,l54=l30++[v51]->(bP (i29+1))/\∀ v65:Int,v65=i29+1->K36 (v65,l54,l31))/\(c44=false->(0<=i29/\i29<links.length)/\∀ x68:Int,x68=at' links i29->(0<=x42/\x42<l31.length)/\∀ x76:Int,x76=at' l31 x42->∀ c79:Bool,c79=decide (x76<0)->((c79=true->(0<=i29/\i29<links.length)/\∀ x85:Int,x85=at' links i29->(mm l31)/\∀ r88:Int,r88=gK l31->(0<=x85/\x85<l31.length)/\∀ x94:Int,x94=at' l31 x85->∀ l97:List Int,l97=l31.set x85.toNat r88->(0<=i29/\i29<links.length)/\∀ x105:Int,x105=at' links i29->(0<=x105/\x105<l97.length)/\∀ x112:Int,x112=at' l97 x105->(bP (16+x112))/\∀ v116:Int,v116=16+x112->(l30.length+1<=1073741824)/\∀ l119:List Int,l119=l30++[v116]->(bP (i29+1))/\∀ v130:Int,v130=i29+1->K36 (v130,l119,l97))/\(c79=false->(0<=i29/\i29<links.length)/\∀ x133:Int,x133=at' links i29->(0<=x133/\x133<l31.length)/\∀ x140:Int,x140=at' l31 x133->(bP (16+x140))/\∀ v144:Int,v144=16+x140->(l30.length+1<=1073741824)/\∀ l147:List Int,l147=l30++[v144]->(bP (i29+1))/\∀ v158:Int,v158=i29+1->K36 (v158,l147,l31))))))/\(c39=false->Z (l30,l31)))) (0,([]:List Int),r8)
theorem Av (b:aG) (links edges:List Int) (h:eP b links edges):kY b links edges (fun y=>y=kA b links edges):=by
  unfold kY;obtain⟨h1,h2,h3⟩:=h;have hE:=h1.ed;have hL:=h1.len;refine⟨by simp only[fT];omega,?_⟩;intro r8 hr8;rw[show r8=edges from hr8];refine aO.qc (τ:=List Int × List Int) links.length (fun k t=>kF b t.2/\t.1.length=k/\eY b edges links=(t.1++(eY b t.2 (links.drop k)).1,(eY b t.2 (links.drop k)).2)) ([],edges) ⟨h1,rfl,rfl⟩ ?_;rintro k ⟨out,now⟩ K hk ⟨hN,hlen,hI⟩ IH;simp only at hN hlen hI;have hnl:=hN.len;simp only[forall_eq,decide_eq_true_eq,decide_eq_false_iff_not];refine⟨fun h4=>?_,fun h4=>?_⟩
  · have hkl:k<links.length:=by omega
    rw[drop_at hkl] at hI;have hx:=h3 (at' links (k:Int)) (by rw[bo hkl];exact List.getElem_mem hkl);generalize at' links (k:Int)=x at hI hx;refine⟨by omega,fun h5=>?_,fun h5=>?_⟩
    · refine⟨by omega,⟨by omega,by omega⟩,by omega,⟨by omega,by omega⟩,IH hkl (_,_) ⟨hN,by simp[hlen],?_⟩⟩
      rw[hI,eY,if_pos h5];simp
    · have h5':¬ x >= b.edges:=h5
      have hr:0<=x/\x<now.length:=⟨hx.1,by omega⟩
      refine⟨by omega,hr,fun h6=>?_,fun h6=>?_⟩
      · have hv:=at_mem (l:=now.set x.toNat (gK now)) (i:=x) ⟨hr.1,by simpa using hr.2⟩
        have hv2:=(hN.set x).val _ hv;refine⟨by omega,by simp only[mm];omega,hr,by omega,⟨hr.1,by simpa using hr.2⟩,⟨by omega,by omega⟩,by omega,⟨by omega,by omega⟩,IH hkl (_,_) ⟨hN.set x,by simp[hlen],?_⟩⟩;rw[hI,eY,if_neg h5'];simp[h6]
      · have hv:=at_mem (l:=now) (i:=x) hr
        have hv2:=hN.val _ hv;refine⟨by omega,hr,⟨by omega,by omega⟩,by omega,⟨by omega,by omega⟩,IH hkl (_,_) ⟨hN,by simp[hlen],?_⟩⟩;rw[hI,eY,if_neg h5'];simp[h6]
  · have hkl:k=links.length:=by omega
    rw[hkl,List.drop_length] at hI;simp only[kA,hI,eY,List.append_nil]
def ek (b:aG) (node:Int) (places edges:List Int):List Int × List Int:=((at' b.nodes node).control::cA places (at' b.nodes node).parent::(eY b edges (at' b.nodes node).links).1,(eY b edges (at' b.nodes node).links).2)
abbrev eR (b:aG) (node:Int) (places edges:List Int):Prop:=(0<=node/\node<b.nodes.length)/\eP b (at' b.nodes node).links edges/\ie (at' b.nodes node).parent places
def lq (b:aG) (node:Int) (places:List Int) (edges:List Int) (Z:((List Int) × (List Int))->Prop):Prop:=
  (0<=node/\node<b.nodes.length)/\∀ x5:ay,x5=at' b.nodes node->(eP b x5.links edges)/\∀ r10:(List Int) × (List Int),r10=kA b x5.links edges->(ie x5.parent places)/\∀ r27:Int,r27=A7 x5.parent places->∀ l28:List Int,l28=[x5.control,r27]->(l28.length+r10.1.length<=1073741824)/\∀ l37:List Int,l37=l28++r10.1->Z (l37,r10.2)
theorem Ba (b:aG) (node:Int) (places edges:List Int) (h:eR b node places edges):lq b node places edges (fun y=>y=ek b node places edges):=by
  unfold lq;obtain⟨h1,h2,h3⟩:=h;simp only[forall_eq];refine⟨h1,h2,h3,?_,?_⟩
  · have h4:(kA b (at' b.nodes node).links edges).1.length=(at' b.nodes node).links.length:=fK b _ _
    have:=h2.2.1;simp;omega
  · simp[ek]
def lP (b:aG) (places edges:List Int):List Int × List Int:=(b.sites.map (cA places)++(eY b edges (b.inner.map fun w=>w.link)).1,(eY b edges (b.inner.map fun w=>w.link)).2)
abbrev jq (b:aG) (places edges:List Int):Prop:=eP b (b.inner.map fun w=>w.link) edges/\b.sites.length<=1048576/\∀ p ∈ b.sites,ie p places
def mP (b:aG) (places:List Int) (edges:List Int) (Z:((List Int) × (List Int))->Prop):Prop:=
  aO (σ:=Int × (List Int)) (fun (i14,l15) K19=>∀ len20:Int,len20=(b.sites.length:Int)->∀ c22:Bool,c22=decide (i14<len20)->((c22=true->(0<=i14/\i14<b.sites.length)/\∀ x25:Int,x25=at' b.sites i14->(ie x25 places)/\∀ r28:Int,r28=A7 x25 places->(l15.length+1<=1073741824)/\∀ l30:List Int,l30=l15++[r28]->(bP (i14+1))/\∀ v40:Int,v40=i14+1->K19 (v40,l30))/\(c22=false->aO (σ:=Int × (List Int)) (fun (i55,l56) K61=>∀ len62:Int,len62=(b.inner.length:Int)->∀ c64:Bool,c64=decide (i55<len62)->((c64=true->(0<=i55/\i55<b.inner.length)/\∀ x67:aI,x67=at' b.inner i55->(l56.length+1<=1073741824)/\∀ l70:List Int,l70=l56++[x67.link]->(bP (i55+1))/\∀ v81:Int,v81=i55+1->K61 (v81,l70))/\(c64=false->(eP b l56 edges)/\∀ r84:(List Int) × (List Int),r84=kA b l56 edges->(l15.length+r84.1.length<=1073741824)/\∀ l102:List Int,l102=l15++r84.1->Z (l102,r84.2)))) (0,([]:List Int))))) (0,([]:List Int))
theorem CB (b:aG) (places edges:List Int) (h:jq b places edges):mP b places edges (fun y=>y=lP b places edges):=by
  unfold mP;obtain⟨h1,h2,h3⟩:=h;have hi:b.inner.length<=1048576:=by have:=h1.2.1;simpa using this
  refine aO.qc b.sites.length (fun k out=>out=(b.sites.take k).map (cA places)) [] (by simp) ?_;rintro k _ K hk rfl IH;simp only[forall_eq,decide_eq_true_eq,decide_eq_false_iff_not,bP];refine⟨fun h4=>?_,fun h4=>?_⟩
  · have hkl:k<b.sites.length:=by omega
    rw[bo hkl];refine⟨by omega,h3 _ (List.getElem_mem hkl),by simp;omega,by omega,IH hkl _ ?_⟩;rw[<- List.take_append_getElem hkl,List.map_append];rfl
  · refine aO.qc b.inner.length (fun k out=>out=(b.inner.take k).map fun w=>w.link) [] (by simp) ?_
    rintro j _ K2 hj rfl IH2;simp only[forall_eq,decide_eq_true_eq,decide_eq_false_iff_not];refine⟨fun h5=>?_,fun h5=>?_⟩
    · have hjl:j<b.inner.length:=by omega
      rw[bo hjl];refine⟨by omega,by simp;omega,by omega,IH2 hjl _ ?_⟩;rw[<- List.take_append_getElem hjl,List.map_append];rfl
    · rw[show k=b.sites.length by omega,show j=b.inner.length by omega,List.take_length,List.take_length]
      refine⟨h1,?_,rfl⟩;have h6:(kA b (b.inner.map fun w=>w.link) edges).1.length=(b.inner.map fun w=>w.link).length:=fK b _ _;simp only[List.length_map] at h6 ⊢;omega
structure Rz where
  out:List Int
  ed:List Int
  pl:List Int
def nJ (b:aG) (s:Rz) (k:Int) (i:Nat):Rz:=⟨s.out++(ek b k s.pl s.ed).1,(ek b k s.pl s.ed).2,s.pl.set k.toNat (i:Int)⟩
def lI (b:aG) (order:List Int):Nat->Rz
  | 0=>⟨[],iu b.edges,iu b.nodes.length⟩
  | i+1=>nJ b (lI b order i) (at' order (i:Int)) i
structure ox (b:aG) (i:Nat) (s:Rz):Prop where
  nums:kF b s.ed
  pl:s.pl.length=b.nodes.length
  lo:∀ v ∈ s.pl,-1<=v/\v<=8
  out:s.out.length<=5 * i
theorem ox.told {sig:dG} {b:aG} {i:Nat} {s:Rz} (hv:bn sig b) (h:ox b i s) {k:Int} (hk:0<=k/\k<b.nodes.length):eP b (at' b.nodes k).links s.ed:=by
  have h1:=hv.gA hk;refine⟨h.nums,by omega,fun l hl=>?_⟩;have h2:=hv.lB hk l hl;have h3:=hv.edges;have h4:=hv.outer;omega
theorem ox.par {b:aG} {i:Nat} {s:Rz} (h:ox b i s) (hn:b.nodes.length<=8) {p:Int} (h1 : -4<=p) (h2:p<b.nodes.length):ie p s.pl:=by
  refine⟨by rw[h.pl];omega,⟨by omega,by omega⟩,fun h0=>?_⟩;have:=h.lo _ (at_mem (l:=s.pl) (i:=p) ⟨h0,by rw[h.pl];omega⟩);exact⟨by omega,by omega⟩
theorem ox.chunk {sig:dG} {b:aG} {i:Nat} {s:Rz} (hv:bn sig b) (h:ox b i s) {k:Int} (hk:0<=k/\k<b.nodes.length):eR b k s.pl s.ed:=by
  have h1:=hv.lL hk;have h2:=hv.roots;exact⟨hk,h.told hv hk,h.par hv.len (by omega) (by omega)⟩
theorem ox.tail {sig:dG} {b:aG} {i:Nat} {s:Rz} (hv:bn sig b) (h:ox b i s):jq b s.pl s.ed:=by
  have h1:=hv.slen;have h2:=hv.inner;have h3:=hv.edges;have h4:=hv.outer;have h5:=hv.roots;refine⟨⟨h.nums,by simp;omega,fun l hl=>?_⟩,by omega,fun p hp=>?_⟩
  · obtain⟨w,hw,rfl⟩:=List.mem_map.1 hl
    have:=hv.wires w hw;omega
  · have:=hv.sites p hp
    exact h.par hv.len (by omega) (by omega)
theorem ox.step {sig:dG} {b:aG} {i:Nat} {s:Rz} (hv:bn sig b) (h:ox b i s) {k:Int} (hk:0<=k/\k<b.nodes.length) (hi:i<=8):ox b (i+1) (nJ b s k i):=by
  have h1:=hv.gA hk;refine⟨m9 _ _ h.nums,by simpa[nJ] using h.pl,fun v hx=>?_,?_⟩
  · simp only[nJ] at hx
    rcases List.mem_or_eq_of_mem_set hx with hx | rfl
    · exact h.lo v hx
    · omega
  · have h2:=h.out
    simp only[nJ,ek,List.length_append,List.length_cons,fK];omega
theorem ET {sig:dG} {b:aG} {order:List Int} (hv:bn sig b) (ho:∀ k ∈ order,0<=k/\k<b.nodes.length) (hl:order.length<=8):∀ i≤order.length,ox b i (lI b order i)
  | 0,_=>by
    have h1:=hv.edges;refine⟨⟨h1,by simp[lI];omega,fun v hx=>?_⟩,by simp[lI],fun v hx=>?_,by simp[lI]⟩
    · have:=(List.mem_replicate.1 hx).2;omega
    · have:=(List.mem_replicate.1 hx).2;omega
  | i+1,h=>(ET hv ho hl i (by omega)).step hv (ho _ (by rw[bo (show i<order.length by omega)];exact List.getElem_mem _)) (by omega)
def lZ (b:aG) (order:List Int):List Int × List Int:=((lI b order order.length).out++(lP b (lI b order order.length).pl (lI b order order.length).ed).1,(lP b (lI b order order.length).pl (lI b order order.length).ed).2)
abbrev me (b:aG) (order:List Int):Prop:=(∃ sig,bn sig b)/\order.length<=8/\∀ k ∈ order,0<=k/\k<b.nodes.length
def kU (b:aG) (order:List Int) (Z:((List Int) × (List Int))->Prop):Prop:=
  (hU b.edges)/\∀ r8:List Int,r8=iu b.edges->∀ len19:Int,len19=(b.nodes.length:Int)->(hU len19)/\∀ r22:List Int,r22=iu len19->aO (σ:=Int × (List Int) × (List Int) × (List Int)) (fun (i47,l48,l49,l50) K56=>∀ len57:Int,len57=(order.length:Int)->∀ c59:Bool,c59=decide (i47<len57)->((c59=true->(0<=i47/\i47<order.length)/\∀ x66:Int,x66=at' order i47->(eR b x66 l48 l49)/\∀ r69:(List Int) × (List Int),r69=ek b x66 l48 l49->(0<=i47/\i47<order.length)/\∀ x172:Int,x172=at' order i47->(0<=x172/\x172<l48.length)/\∀ x179:Int,x179=at' l48 x172->∀ l182:List Int,l182=l48.set x172.toNat i47->(l50.length+r69.1.length<=1073741824)/\∀ l192:List Int,l192=l50++r69.1->(bP (i47+1))/\∀ v204:Int,v204=i47+1->K56 (v204,l182,r69.2,l192))/\(c59=false->(jq b l48 l49)/\∀ r207:(List Int) × (List Int),r207=lP b l48 l49->(l50.length+r207.1.length<=1073741824)/\∀ l225:List Int,l225=l50++r207.1->Z (l225,r207.2)))) (0,r22,r8,([]:List Int))
theorem A0 (b:aG) (order:List Int) (h:me b order):kU b order (fun y=>y=lZ b order):=by
  unfold kU;obtain⟨⟨sig,hv⟩,h2,h3⟩:=h;have h4:=hv.edges;have h5:=hv.len;have h6:=hv.slen;have h7:=hv.inner;refine⟨⟨h4.1,by omega⟩,?_⟩;rintro _ rfl _ rfl;refine⟨⟨by omega,by omega⟩,?_⟩;rintro _ rfl;refine aO.qc (τ:=List Int × List Int × List Int) order.length (fun k t=>t.1=(lI b order k).pl/\t.2.1=(lI b order k).ed/\t.2.2=(lI b order k).out) (iu b.nodes.length,iu b.edges,[]) ⟨rfl,rfl,rfl⟩ ?_;rintro k ⟨pl,ed,out⟩ K hk ⟨e1,e2,e3⟩ IH;simp only at e1 e2 e3;subst e1 e2 e3;have hR:=ET hv h3 h2 k hk;simp only[forall_eq,decide_eq_true_eq,decide_eq_false_iff_not];refine⟨fun h8=>?_,fun h8=>?_⟩
  · have hkl:k<order.length:=by omega
    have hm:=h3 (at' order (k:Int)) (by rw[bo hkl];exact List.getElem_mem hkl);have hl3:=hv.gA hm;have ho:=hR.out;refine⟨by omega,hR.chunk hv hm,by omega,⟨hm.1,by rw[hR.pl];exact hm.2⟩,?_,⟨by omega,by omega⟩,IH hkl (_,_,_) ⟨rfl,rfl,rfl⟩⟩;simp only[ek,List.length_cons,fK];omega
  · have hkl:k=order.length:=by omega
    subst hkl;have ho:=hR.out;refine⟨hR.tail hv,?_,rfl⟩;simp only[lP,List.length_append,List.length_map,fK];omega
end Go.Ab.Vg
namespace Go.Ab
section
variable {H:av} {n:Nat} {K K':List bW} {ids:List Id}
end
section
variable {P:Program} {f:FuncId} {N:Nat} {k:List Item} {Q:I->av->Nat->Prop} {Ty:Types} {l:List Oper} {O:Env} {H:av} {n:Nat}
theorem jM.append {as1 bs cs ds:List I} (h:jM as1 bs) (h':jM cs ds):jM (as1++cs) (bs++ds):=by
  induction h with
  | nil=>exact h'
  | cons h _ ih=>exact .cons h ih
end
end Go.Ab
namespace Go.Ab
section
variable (P:Program) (N:Nat) (ops:Array Oper) (cz:av->Nat->Prop) (aS:List Nat)
def bh (j:Nat):Bool:=(List.range ops.size).all fun k=>aS.contains k || (behind ops k).contains j
def CC (o:Oper) (s s':AS):Prop:=∃ v,s'=(s.1.put o.dst v,s.2)/\((fv ops o s.1=some true/\∀ H n,cz H n->aK P N o (loc o.op s.1) H n (sG v H n))\/(fv ops o s.1=some false/\v=l6))
def js (R:AS->Prop):Nat->Array Bool->AS->Prop
  | 0,listed,s=>Region.ready .any ops listed=[]/\R s
  | fuel+1,listed,s=>(Region.ready .any ops listed=[]->R s)/\∀ i ∈ Region.ready .any ops listed,∃ o,ops[i]?=some o /\
      ((i ∉ aS/\cz s.2.1 s.2.2/\∃ s',CC P N ops cz o s s'/\js R fuel (listed.setIfInBounds i true) s') \/
       (i ∈ aS/\fv ops o s.1=some true/\∃ post:I->av->Nat->Prop,aK P N o (loc o.op s.1) s.2.1 s.2.2 post/\∀ v H' n',post v H' n'->(bh ops aS i=false->cz H' n')/\js R fuel (listed.setIfInBounds i true) (s.1.put o.dst v,H',n')))
inductive jc where
  | fin
  | stop
  | free (i:Nat) (t:jc)
  | aS (i:Nat) (t a:jc)
def jc.alts:jc->List Nat
  | .aS i _ a=>i::a.alts
  | _=>[]
def jc.depth:jc->Nat
  | .free _ t=>t.depth+1
  | .aS _ t a=>max (t.depth+1) a.depth
  | _=>0
def sC (t:jc) (listed:Array Bool):Bool:=match t with
  | .aS _ _ _ => !(Region.ready .any ops listed).isEmpty && (Region.ready .any ops listed).all fun i=>t.alts.contains i
  | .stop=>false
  | _=>true
def rI:jc->Array Bool->Bool
  | .fin,listed=>(Region.ready .any ops listed).isEmpty
  | .stop,_=>true
  | .free i t,listed => !aS.contains i && (Region.ready .any ops listed).contains i && zk (fun _=>0) ops listed i && sC ops t (listed.setIfInBounds i true) && rI t (listed.setIfInBounds i true)
  | .aS i t a,listed=>aS.contains i && sC ops t (listed.setIfInBounds i true) && rI t (listed.setIfInBounds i true) && rI a listed
def oH (R':AS->Prop) (i:Nat) (s:AS):Prop:=∃ o,ops[i]?=some o/\fv ops o s.1=some true/\∃ post:I->av->Nat->Prop,aK P N o (loc o.op s.1) s.2.1 s.2.2 post/\∀ v H' n',post v H' n'->(bh ops aS i=false->cz H' n')/\R' (s.1.put o.dst v,H',n')
def RunT (R:AS->Prop):jc->AS->Prop
  | .fin,s=>R s
  | .stop,_=>True
  | .free i t,s=>∃ o,ops[i]?=some o/\cz s.2.1 s.2.2/\∃ s',CC P N ops cz o s s'/\RunT R t s'
  | .aS i t a,s=>oH P N ops cz aS (RunT R t) i s/\RunT R a s
def CT (t:jc):Bool:=sC ops t (Array.replicate ops.size false) && rI ops aS t (Array.replicate ops.size false) && decide (t.depth<=ops.size)
end
section
variable {P:Program} {N:Nat} {ops:Array Oper} {cz:av->Nat->Prop} {aS:List Nat}
theorem js.first {R:AS->Prop} {i:Nat} {oi:Oper} (hi:ops[i]?=some oi) (hih:i ∉ aS) (hD:∀ j oj,ops[j]?=some oj->j ∈ behind ops i->j ≠ i->∃ e ∈ oj.after,Region.binds .any e=true/\e.on ∈ behind ops i):∀ (fuel:Nat) (listed:Array Bool) (s s':AS),
    (∀ j ∈ behind ops i,listed.getD j true=false)->(∀ j oj,ops[j]?=some oj->j ≠ i->listed.getD j true=false->j ∉ behind ops i->oi.apart ops oj=true) ->
    i ∈ Region.ready .any ops listed->cz s.2.1 s.2.2->CC P N ops cz oi s s'->js P N ops cz aS R fuel (listed.setIfInBounds i true) s'->js P N ops cz aS R (fuel+1) listed s:=by
  intro fuel
  induction fuel with
  | zero=>
    intro listed s s' _ _ hr hS hst H;refine⟨fun h=>(by rw[h] at hr;cases hr),fun j hj=>?_⟩
    by_cases hji:j=i
    · subst hji;exact⟨oi,hi,.inl ⟨hih,hS,s',hst,H⟩⟩
    · have:=ready_mono hj hji
      rw[H.1] at this;cases this
  | succ fuel ih=>
    intro listed s s' hinv hfree hr hS hst H;refine⟨fun h=>(by rw[h] at hr;cases hr),fun j hj=>?_⟩
    by_cases hji:j=i
    · subst hji;exact⟨oi,hi,.inl ⟨hih,hS,s',hst,H⟩⟩
    · obtain⟨oj,hoj,hbr⟩:=H.2 j (ready_mono hj hji)
      obtain⟨hjun,oj',hoj',hall⟩:=mem_ready.1 hj;rw[hoj] at hoj';cases hoj';have hnot:j ∉ behind ops i:=fun hd=>by
        obtain⟨e,he,hb,hed⟩:=hD j oj hoj hd hji;have h1:=hall e he hb;have h0:=hinv e.on hed;rcases Nat.lt_or_ge e.on listed.size with h' | h'
        · simp[h'] at h0 h1;rw[h0] at h1;cases h1
        · simp[Array.getElem?_eq_none h'] at h1
      obtain⟨h1,h2,h3⟩:=Oper.apart_spec (hfree j oj hoj hji hjun hnot);have hinv':∀ k ∈ behind ops i,(listed.setIfInBounds j true).getD k true=false:=fun k hk=>by
        have hjk:j ≠ k:=fun he=>hnot (he ▸ hk)
        rw[getD_set_ne true hjk];exact hinv k hk
      have hfree':∀ k ok,ops[k]?=some ok->k ≠ i->(listed.setIfInBounds j true).getD k true=false->k ∉ behind ops i->oi.apart ops ok=true:=fun k ok hk hki hun hno=>by
        refine hfree k ok hk hki ?_ hno
        by_cases hjk:j=k
        · subst hjk;exact hjun
        · rw[getD_set_ne true hjk] at hun;exact hun
      obtain⟨v,rfl,hv⟩:=hst;have lj:∀ v,loc oj.op (s.1.put oi.dst v)=loc oj.op s.1:=fun v=>fO (dv h1)
      have li:∀ v,loc oi.op (s.1.put oj.dst v)=loc oi.op s.1:=fun v=>fO (dv h3)
      have gj:∀ v,fv ops oj (s.1.put oi.dst v)=fv ops oj s.1:=fun v=>iH h1
      have gi:∀ v,fv ops oi (s.1.put oj.dst v)=fv ops oi s.1:=fun v=>iH h3
      have hvi:∀ u,(fv ops oi (s.1.put oj.dst u)=some true/\∀ H n,cz H n->aK P N oi (loc oi.op (s.1.put oj.dst u)) H n (sG v H n))\/(fv ops oi (s.1.put oj.dst u)=some false/\v=l6):=fun u=>by
        rw[gi,li];exact hv
      rcases hbr with ⟨hjh,_,s'',⟨u,rfl,hu⟩,hrest⟩ | ⟨hjh,hgj,post,hoq,hrest⟩
      · simp only[lj,gj] at hu
        refine⟨oj,hoj,.inl ⟨hjh,hS,_,⟨u,rfl,hu⟩,ih (listed.setIfInBounds j true) (s.1.put oj.dst u,s.2) ((s.1.put oj.dst u).put oi.dst v,s.2) hinv' hfree' (ready_mono hr (Ne.symm hji)) hS ⟨v,rfl,hvi u⟩ ?_⟩⟩;rw[Array.setIfInBounds_comm _ _ hji,<- put_comm v u h2];exact hrest
      · simp only[lj,gj] at hoq hgj
        refine⟨oj,hoj,.inr ⟨hjh,hgj,post,hoq,fun u H' n' hp=>?_⟩⟩;obtain⟨hS',hrest'⟩:=hrest u H' n' hp;refine⟨hS',?_⟩;have hlate:bh ops aS j=false:=by
          rw[Bool.eq_false_iff];intro hl;have:=List.all_eq_true.1 hl i (List.mem_range.2 (Array.getElem?_eq_some_iff.1 hi).1);simp only[Bool.or_eq_true,List.contains_iff_mem] at this;exact this.elim hih hnot
        refine ih (listed.setIfInBounds j true) (s.1.put oj.dst u,H',n') ((s.1.put oj.dst u).put oi.dst v,H',n') hinv' hfree' (ready_mono hr (Ne.symm hji)) (hS' hlate) ⟨v,rfl,hvi u⟩ ?_;rw[Array.setIfInBounds_comm _ _ hji,<- put_comm v u h2];exact hrest'
theorem RunT.alt {R:AS->Prop} {s:AS} {listed:Array Bool} {j:Nat}:∀ {t:jc},RunT P N ops cz aS R t s->rI ops aS t listed=true->j ∈ t.alts->j ∈ aS/\∃ t',t'.depth+1<=t.depth/\sC ops t' (listed.setIfInBounds j true)=true/\rI ops aS t' (listed.setIfInBounds j true)=true/\oH P N ops cz aS (RunT P N ops cz aS R t') j s
  | .aS i t a,h,hl,hj=>by
    simp only[rI,Bool.and_eq_true,List.contains_iff_mem] at hl;rcases List.mem_cons.1 hj with rfl | hj
    · exact⟨hl.1.1.1,t,by simp only[jc.depth];omega,hl.1.1.2,hl.1.2,h.1⟩
    · obtain⟨h1,t',h2,h3⟩:=RunT.alt (t:=a) h.2 hl.2 hj
      exact⟨h1,t',by simp only[jc.depth];omega,h3⟩
  | .fin,_,_,hj=>by cases hj
  | .stop,_,_,hj=>by cases hj
  | .free _ _,_,_,hj=>by cases hj
theorem js.none {R:AS->Prop} {fuel:Nat} {listed:Array Bool} {s:AS} (h:Region.ready .any ops listed=[]) (hR:R s):js P N ops cz aS R fuel listed s:=by
  cases fuel with
  | zero=>exact⟨h,hR⟩
  | succ fuel=>exact⟨fun _=>hR,fun i hi=>by rw[h] at hi;cases hi⟩
theorem js.lex {R:AS->Prop}:∀ (fuel:Nat) (t:jc) (listed:Array Bool) (s:AS),t.depth<=fuel->sC ops t listed=true->rI ops aS t listed=true->RunT P N ops cz aS R t s->js P N ops cz aS R fuel listed s
  | _,.fin,listed,s,_,_,hB,h=>js.none (by simpa[rI] using hB) h
  | _,.stop,_,_,_,E,_,_=>by cases E
  | 0,.free i t,_,_,hd,_,_,_=>by simp[jc.depth] at hd
  | fuel+1,.free i t,listed,s,hd,_,hB,⟨o,ho,hS,s',hst,hrest⟩=>by
    simp only[rI,Bool.and_eq_true,Bool.not_eq_true',List.contains_iff_mem] at hB;obtain⟨⟨⟨⟨h1,h2⟩,h3⟩,h4⟩,h5⟩:=hB;obtain⟨f1,f2,f3⟩:=rF ho h3;exact js.first ho (by simpa using h1) f1 fuel listed s s' f2 (fun j oj h1 h2 h3 h4=>(f3 j oj h1 h2 h3 h4).1) h2 hS hst (js.lex fuel t _ _ (by simp only[jc.depth] at hd;omega) h4 h5 hrest)
  | 0,.aS i t a,_,_,hd,_,_,_=>by simp only[jc.depth] at hd;omega
  | fuel+1,.aS i t a,listed,s,hd,E,hB,h=>by
    simp only[sC,Bool.and_eq_true,Bool.not_eq_true',List.isEmpty_eq_false_iff] at E;refine⟨fun h=>absurd h E.1,fun j hj=>?_⟩;have hja:j ∈ (jc.aS i t a).alts:=by
      have:=List.all_eq_true.1 E.2 j hj;simpa using this
    obtain⟨hjh,t',hd',h1,h2,o,ho,hg,post,hop,hrest⟩:=RunT.alt h hB hja;exact⟨o,ho,.inr ⟨hjh,hg,post,hop,fun v H' n' hp=>⟨(hrest v H' n' hp).1,js.lex fuel t' _ _ (by omega) h1 h2 (hrest v H' n' hp).2⟩⟩⟩
theorem js.sound {R:AS->Prop} (hN:ops.toList.all (fun o=>dL N o.dst)=true) {Q:Exit->Act->World->Prop} {c0:Ctx} (hQ:∀ a c O,bp c0 c->Good c->cT N c O a->R (O,c.H,c.n)->Q .normal a c.w) :
    ∀ (fuel:Nat) (listed:Array Bool) (O:Env) (c:Ctx) (a:Act),bp c0 c->Good c->cT N c O a->js P N ops cz aS R fuel listed (O,c.H,c.n)->wpAny P .any ops Q fuel listed a c.w
  | 0,_,_,_,_,hk,g,r,h=>⟨h.1,hQ _ _ _ hk g r h.2⟩
  | fuel+1,listed,O,c,a,hk,g,r,h=>by
    refine⟨fun h0=>hQ _ _ _ hk g r (h.1 h0),fun i hi=>?_⟩;obtain⟨o,ho,hbr⟩:=h.2 i hi;have hd:dL N o.dst=true:=List.all_eq_true.1 hN o (by rw[<- Array.getElem?_toList] at ho;exact List.mem_of_getElem? ho);unfold wpOp;simp only[ho];rcases hbr with ⟨_,hS,s',⟨v,rfl,⟨hg,hop⟩ | ⟨hg,rfl⟩⟩,hrest⟩ | ⟨_,hg,post,hop,hrest⟩
    · rw[if_pos (cn r hN hg)]
      refine .inl (hop c.H c.n hS c a rfl rfl g (r.loc o.op) _ _ ?_);rintro v1 x c' ⟨rfl,hH,hn⟩ hrep hgood hkeep;exact js.sound hN hQ fuel _ _ c' _ (hk.trans hkeep) hgood ((r.keeps hkeep).put hd hrep) (by rw[hH,hn];exact hrest)
    · rw[if_neg (by rw[cn r hN hg];simp)]
      exact js.sound hN hQ fuel _ _ c _ hk g (r.put hd (.v _)) hrest
    · rw[if_pos (cn r hN hg)]
      refine .inl (hop c a rfl rfl g (r.loc o.op) _ _ ?_);rintro v1 x c' hpost hrep hgood hkeep;exact js.sound hN hQ fuel _ _ c' _ (hk.trans hkeep) hgood ((r.keeps hkeep).put hd hrep) (hrest v1 c'.H c'.n hpost).2
end
section
variable {P:Program} {f:FuncId} {N:Nat} {k:List Item} {O:Env} {H:av} {n:Nat} {Q:I->av->Nat->Prop}
def atS (aj:Env->av->Nat->Prop):AS->Prop:=fun s=>aj s.1 s.2.1 s.2.2
theorem J.Dh (cz:av->Nat->Prop) (aS:List Nat) (t:jc) (aj:Env->av->Nat->Prop) {id:Nat} {ops:List Oper} (hm:P.follows .mixedOrders=true) (hN:ops.all (fun o=>dL N o.dst)=true) (hB:Ab.CT ops.toArray aS t=true)
    (h:RunT P N ops.toArray cz aS (atS aj) t (O,H,n)) (hR:∀ O H n,aj O H n->J P f N k O H n Q):J P f N (.code (.region id ops.toArray true)::k) O H n Q:=by
  intro c a hH hn g r b cs hf hk;subst hH;subst hn;obtain⟨d1,d2⟩:=il g;simp only[Ab.CT,Bool.and_eq_true,decide_eq_true_eq] at hB;have hany:=js.lex (P:=P) (N:=N) (cz:=cz) (aS:=aS) (ops:=ops.toArray) ops.toArray.size t (Array.replicate ops.toArray.size false) (O,c.H,c.n) hB.2 hB.1.1 hB.1.2 h;have hw:(Code.region id ops.toArray true).wp P (fun e a' w'=>e = .normal/\∃ c' ρ',c'.w=w'/\bp c c'/\Good c'/\cT N c' ρ' a'/\J P f N k ρ' c'.H c'.n Q) a c.w:=by
    refine wp_region_any hm ?_;have:=js.sound (P:=P) (N:=N) (cz:=cz) (aS:=aS) (ops:=ops.toArray) (c0:=c) (by simpa using hN) (Q:=fun e a' w'=>e = .normal/\∃ c' ρ',c'.w=w'/\bp c c'/\Good c'/\cT N c' ρ' a'/\J P f N k ρ' c'.H c'.n Q)
      (R:=atS aj) (fun a' c' ρ' V hg' hr' hR'=>⟨rfl,c',ρ',rfl,V,hg',hr',hR _ _ _ hR'⟩) ops.toArray.size (Array.replicate ops.toArray.size false) O { c with w:={ c.w with drawn:=c.w.drawn+1 } } a d1 d2 (r.keeps d1) hany
    simpa using this
  obtain⟨e,a',w',⟨rfl,c',ρ',rfl,V,hg',hr',hR⟩,harr⟩:=hw b k cs;obtain⟨x,v,c'',fr,q,hr,hg,hke,hst,rest⟩:=hR c' a' rfl rfl hg' hr' b cs hf hk;exact⟨x,v,c'',fr,q,hr,hg,V.trans hke,Steps.trans harr hst,rest⟩
theorem J.Bg (cz:av->Nat->Prop) (aS:List Nat) (t:jc) (aj:Env->av->Nat->Prop) {id:Nat} {ops:List Oper} {y:Code} (hm:P.follows .mixedOrders=true) (hN:ops.all (fun o=>dL N o.dst)=true) (hB:Ab.CT ops.toArray aS t=true)
    (h:RunT P N ops.toArray cz aS (atS aj) t (O,H,n)) (hR:∀ O H n,aj O H n->J P f N (.code y::k) O H n Q):J P f N (.code (.seq (.region id ops.toArray true) y)::k) O H n Q:=
  J.seq (J.Dh cz aS t aj hm hN hB h hR)
end
section
variable {P:Program} {N:Nat} {ops:Array Oper} {cz:av->Nat->Prop} {aS:List Nat} {R:AS->Prop} {O:Env} {H:av} {n:Nat} {i:Nat} {l:jc} {Ty:Types}
theorem RunT.fin {aj:Env->av->Nat->Prop} (h:aj O H n):RunT P N ops cz aS (atS aj) .fin (O,H,n):=h
theorem RunT.free {o:Oper} (v:I) (ho:ops.toList[i]?=some o) (hg:fv ops o O=some true) (hS:cz H n) (hop:∀ H n,cz H n->aK P N o (loc o.op O) H n (sG v H n)) (h:RunT P N ops cz aS R l (O.put o.dst v,H,n)):RunT P N ops cz aS R (.free i l) (O,H,n):=
  ⟨o,by rw[<- Array.getElem?_toList];exact ho,hS,_,⟨v,rfl,.inl ⟨hg,hop⟩⟩,h⟩
theorem RunT.zD {o:Oper} (post:I->av->Nat->Prop) (ho:ops.toList[i]?=some o) (hg:fv ops o O=some true) (hop:aK P N o (loc o.op O) H n post) (h:∀ v H' n',post v H' n'->(bh ops aS i=false->cz H' n')/\RunT P N ops cz aS R l (O.put o.dst v,H',n')):oH P N ops cz aS (RunT P N ops cz aS R l) i (O,H,n):=
  ⟨o,by rw[<- Array.getElem?_toList];exact ho,hg,post,hop,h⟩
theorem RunT.step (hT:aV P Ty) {o:Oper} {v:I} {H':av} {n':Nat} (ho:ops.toList[i]?=some o) (hg:fv ops o O=some true) (hs:a6 Ty o.dst o.op O H n=some (v,H',n')) (hS:bh ops aS i=false->cz H' n') (h:RunT P N ops cz aS R l (O.put o.dst v,H',n')):oH P N ops cz aS (RunT P N ops cz aS R l) i (O,H,n):=
  RunT.zD (sG v H' n') ho hg (aC hT (by rw[aA];exact hs)) (by rintro _ _ _ ⟨rfl,rfl,rfl⟩;exact⟨hS,h⟩)
theorem RunT.same (hT:aV P Ty) {o:Oper} {v:I} (ho:ops.toList[i]?=some o) (hg:fv ops o O=some true) (hs:a6 Ty o.dst o.op O H n=some (v,H,n)) (hS:bh ops aS i=false->cz H n) (h:RunT P N ops cz aS R l (O.put o.dst v,H,n)):oH P N ops cz aS (RunT P N ops cz aS R l) i (O,H,n):=
  RunT.step hT ho hg hs hS h
theorem eZ {d:Operand} {args:Array Operand} {ats:Array TypeId}:args.toList.map (loc (.call ⟨.value d,args,ats⟩) O).ev=args.toList.map O.ev/\(loc (.call ⟨.value d,args,ats⟩) O).ev d=O.ev d:=
  ⟨List.map_congr_left fun x hx=>dK (by simp[Op.operands,Call.operands];exact .inr (by simpa using hx)),dK (by simp[Op.operands,Call.operands])⟩
theorem RunT.lN {K:List bW} {ids:List Id} {d:Option Tmp} {g:Operand} {args:Array Operand} {ats:Array TypeId} {ty:TypeId} {pos:String} {af:Array Edge} {gu:Option (Nat × Bool)} {R':I->Prop} {f':FuncId} {as1 cu:List I} {sh:Sh}
    (ho:ops.toList[i]?=some ⟨d,.call ⟨.value g,args,ats⟩,ty,pos,af,gu⟩) (hgu:fv ops ⟨d,.call ⟨.value g,args,ats⟩,ty,pos,af,gu⟩ O=some true) (h:bL P f' cu sh R') (c8:a8 P f') (ha:ca H n as1 cu) (hs:Sep H n K ids) (hg:O.ev g = .fn (.func f') [] []) (has:args.toList.map O.ev=as1)
    (hk:∀ v H1 U r,Sep H1 U ((sh,v,r)::K) ids->R' r->n<=U->(∀ i ∈ ids,H1 i=H i)->(bh ops aS i=false->cz H1 U)/\RunT P N ops cz aS R l (O.put d v,H1,U)) :
    oH P N ops cz aS (RunT P N ops cz aS R l) i (O,H,n):=
  RunT.zD _ ho hgu (aK.lN (by rw[eZ.2];exact hg) c8 (by rw[eZ.1,has];exact ha) h hs) fun v H' n' ⟨r,h1,h2,h3,h4⟩=>hk v H' n' r h1 h2 h3 h4
theorem RunT.append (hT:aV P Ty) {d:Nat} {t:TypeId} {j:TI} {s x:Operand} {ty:TypeId} {pos:String} {af:Array Edge} {gu:Option (Nat × Bool)} {v xv:I} {l':List Sh} {es:List (List I)} {ids:List Id} (K1 K2:List bW) (add adds:List (List I))
    (ho:ops.toList[i]?=some ⟨some d,.call ⟨.builtin .append,#[s,x],#[t,t]⟩,ty,pos,af,gu⟩) (hgu:fv ops ⟨some d,.call ⟨.builtin .append,#[s,x],#[t,t]⟩,ty,pos,af,gu⟩ O=some true) (hsv:O.ev s=v) (hxv:O.ev x=xv) (h:Sep H n ((.s l',v,.list true es)::(K1++K2)) ids) (hk:kd Ty t = .slice j) (hj:j.size=l'.length) (hz:j.zero.length=j.size/\j.bytes<=131072)
    (hx:cy H xv=some add) (ho1:add.all (fun e=>e.all Ab.aE)=true) (hadd:∀ S,Row H (K1.map (·.1)) (K1.map (·.2.1)) (K1.map (·.2.2)) S->bK (Row H l') add adds S) (hne:adds ≠ []) (hlen:es.length+adds.length<=1073741824)
    (hc:∀ v' H' n',Sep H' n' ((.s l',v',.list true (es++adds))::K2) ids->(∀ i ∈ ids,H' i=H i)->n<=n'->(bh ops aS i=false->cz H' n')/\RunT P N ops cz aS R l (O.put (some d) v',H',n')):oH P N ops cz aS (RunT P N ops cz aS R l) i (O,H,n):=by
  obtain⟨v',H',n',h1,h2,h3,h4⟩:=Sep.append (d:=d) h hk hj hz hx ho1 hadd hne hlen;obtain⟨q1,q2⟩:=hc v' H' n' h2 h3 h4;refine RunT.step hT ho hgu ?_ q1 q2;show (if t=t then bj Ty (some d) t (O.ev s) (O.ev x) H n else none)=_;rw[if_pos rfl,hsv,hxv,h1]
theorem RunT.dO (hT:aV P Ty) {d:Nat} {t:TypeId} {j:TI} {s x:Operand} {ty:TypeId} {pos:String} {af:Array Edge} {gu:Option (Nat × Bool)} {v xv:I} {l':List Sh} {es:List (List I)} {K:List bW} {ids:List Id} (add:List (List I))
    (ho:ops.toList[i]?=some ⟨some d,.call ⟨.builtin .append,#[s,x],#[t,t]⟩,ty,pos,af,gu⟩) (hgu:fv ops ⟨some d,.call ⟨.builtin .append,#[s,x],#[t,t]⟩,ty,pos,af,gu⟩ O=some true) (hsv:O.ev s=v) (hxv:O.ev x=xv) (h:Sep H n ((.s l',v,.list true es)::K) ids) (hf:∀ t ∈ l',t = .c) (hk:kd Ty t = .slice j) (hj:j.size=l'.length) (hz:j.zero.length=j.size/\j.bytes<=131072)
    (hx:cy H xv=some add) (ho1:∀ e ∈ add,e.length=l'.length/\∀ a ∈ e,b4 a/\Ab.aE a=true) (hlen:es.length+add.length<=1073741824)
    (hc:∀ v' H' n',Sep H' n' ((.s l',v',.list true (es++add))::K) ids->(∀ i ∈ ids,H' i=H i)->n<=n'->(bh ops aS i=false->cz H' n')/\RunT P N ops cz aS R l (O.put (some d) v',H',n')):oH P N ops cz aS (RunT P N ops cz aS R l) i (O,H,n):=by
  obtain⟨v',H',n',h1,h2,h3,h4⟩:=Sep.dO (d:=d) h hf hk hj hz hx ho1 hlen;obtain⟨q1,q2⟩:=hc v' H' n' h2 h3 h4;refine RunT.step hT ho hgu ?_ q1 q2;show (if t=t then bj Ty (some d) t (O.ev s) (O.ev x) H n else none)=_;rw[if_pos rfl,hsv,hxv,h1]
theorem aK.stillD {d:Option Tmp} {g:Operand} {args:Array Operand} {ats:Array TypeId} {ty:TypeId} {pos:String} {af:Array Edge} {gu:Option (Nat × Bool)} {v:I} {f':FuncId} {as1:List I} (h:cU P f' as1 H n (fun r=>r=v)) (c8:a8 P f') (hg:O.ev g = .fn (.func f') [] []) (has:args.toList.map O.ev=as1) :
    aK P N ⟨d,.call ⟨.value g,args,ats⟩,ty,pos,af,gu⟩ (loc (.call ⟨.value g,args,ats⟩) O) H n (sG v H n):=
  aK.call (by rw[eZ.2];exact hg) c8 (by rw[eZ.1,has,List.nil_append,List.append_nil];exact h)
theorem aK.EO (hT:aV P Ty) {d:Option Tmp} {ty:TypeId} {pos:String} {af:Array Edge} {gu:Option (Nat × Bool)} {t:TypeId} {s x:Operand} {j:TI} {fr t':Bool} {l m:List Int} (hk:kd Ty t = .slice j) (hz:j.size=1/\j.zero.length=1/\j.bytes<=131072) (hs:O.ev s = .clip fr (l.map nb)) (hx:O.ev x = .list t' (m.map au))
    (hne:m ≠ []) (hm:l.length+m.length<=1073741824) :
    aK P N ⟨d,.call ⟨.builtin .append,#[s,x],#[t,t]⟩,ty,pos,af,gu⟩ (loc (.call ⟨.builtin .append,#[s,x],#[t,t]⟩) O) H n (sG (.list true ((l++m).map au)) H n):=by
  have e1:(loc (.call ⟨.builtin .append,#[s,x],#[t,t]⟩) O).ev s=O.ev s:=dK (by simp[Op.operands,Call.operands]);have e2:(loc (.call ⟨.builtin .append,#[s,x],#[t,t]⟩) O).ev x=O.ev x:=dK (by simp[Op.operands,Call.operands]);exact aK.Dr hT hk hz (by rw[e1];exact hs) (by rw[e2];exact hx) hne hm
end
end Go.Ab
namespace Go.Ab.Vg
abbrev lW (l:List Int) (_:Int):Prop:=l.length<=1048576
def dA (l:List Int) (s:Int):Int:=if s ∈ l then (l.idxOf s:Int) else -1
theorem BL {l:List Int} {s:Int} (h:∀ j<l.length,at' l (j:Int) ≠ s):dA l s = -1:=by
  rw[dA,if_neg];intro hm;obtain⟨j,hj,he⟩:=List.getElem_of_mem hm;exact h j hj (by rw[bo hj];exact he)
theorem xS {l:List Int} {s:Int} {k:Nat} (hk:k<l.length) (h:∀ j<k,at' l (j:Int) ≠ s) (he:at' l (k:Int)=s):dA l s=k:=by
  rw[bo hk] at he;have hm:s ∈ l:=he ▸ List.getElem_mem hk;rw[dA,if_pos hm];have h1:l.idxOf s<l.length:=List.idxOf_lt_length_iff.2 hm;have h2:l[l.idxOf s]=s:=List.getElem_idxOf h1;have h3:¬ l.idxOf s<k:=fun hlt=>h _ hlt (by rw[bo h1];exact h2)
  have h4:¬ k<l.idxOf s:=fun hlt=>by
    have:=List.not_of_lt_findIdx (p:=(· == s)) (xs:=l) hlt;simp[he] at this
  omega
theorem Br (l:List Int) (s:Int) : -1<=dA l s/\dA l s<l.length/\(0<=dA l s↔s ∈ l):=by
  rw[dA]
  split
  · rename_i h
    have h1:l.idxOf s<l.length:=List.idxOf_lt_length_iff.2 h;exact⟨by omega,by omega,fun _=>h,fun _=>by omega⟩
  · rename_i h
    exact⟨by omega,by omega,fun h2=>by omega,fun h2=>absurd h2 h⟩
def lf (s:List Int) (v_:Int) (Z:Int->Prop):Prop:=
  ∀ b6:Int,b6=(s.length:Int)->aO (σ:=Int) (fun v6 K9=>∀ c10:Bool,c10=decide (v6<b6)->((c10=true->(0<=v6/\v6<s.length)/\∀ x13:Int,x13=at' s v6->∀ c15:Bool,c15=decide (v_=x13)->((c15=true->Z v6)/\(c15=false->(bP (v6+1))/\∀ v18:Int,v18=v6+1->K9 (v18))))/\(c10=false->Z (-1)))) (0)
theorem AN (l:List Int) (s:Int) (h:lW l s):lf l s (fun y=>y=dA l s):=by
  unfold lf;rintro _ rfl;refine aO.up1 l.length (fun k=>∀ j<k,at' l (j:Int) ≠ s) (by simp) ?_;rintro k K hk hI IH;simp only[forall_eq,decide_eq_true_eq,decide_eq_false_iff_not,bP];refine⟨fun h1=>⟨by omega,fun h2=>(xS (by omega) hI h2.symm).symm,fun h2=>⟨by omega,IH (by omega) fun j hj=>?_⟩⟩,fun h1=>?_⟩
  · rcases Nat.lt_or_ge j k with h3 | h3
    · exact hI j h3
    · rw[show j=k by omega];exact fun h=>h2 h.symm
  · rw[BL fun j hj=>hI j (by omega)]
abbrev tR (l:List Int):List Int:=l
abbrev jO (l:List Int):Prop:=l.length<=1048576
def kZ (s:List Int) (Z:(List Int)->Prop):Prop:=
  ∀ c2:Bool,(c2=true->s=[])->((c2=true->Z [])/\(c2=false->(([]:List Int).length+s.length<=1073741824)/\∀ l7:List Int,l7=([]:List Int)++s->Z l7))
theorem BT (l:List Int) (h:jO l):kZ l (fun y=>y=tR l):=by
  unfold kZ;intro c hc;refine⟨fun h1=>(hc h1).symm,fun _=>⟨by simp;omega,?_⟩⟩;rintro _ rfl;simp
end Go.Ab.Vg
namespace Go.Ab.Vg
open Go.Proofs
set_option maxRecDepth 100000
attribute [local simp] au
theorem Ea:a8 prog 109:=a8.of func109 (by kernel_rfl) rfl
theorem wB (s:List Int) (v_:Int) (Z:Int->Prop) (h:lf s v_ Z):aF prog 109 [.list false (s.map au),int v_] (fun r=>∃ y:Int,Z y/\r=int y):=by
  unfold lf at h;refine aF.of func109 rfl ntmps109 (by simp) fun Q hQ=>?_
  refine J.cut (fun O H n=>(O 0 = .list false (s.map au)/\O 1=int v_)) (by simp) ?_;rintro O H U E;refine zE fun _ V=>?_
  simp[E];apply V;refine zS fun _ V=>?_
  obtain⟨b6,elen2,h⟩:=aJ h;have f3:=fun H=>aQ (H:=H) (fr:=false) (f:=au) aP elen2
  simp[E,f3,-aL];apply V;apply J.block;refine J.aO h (fun (sJ:Int) O H n=>match sJ with | v6=>(O 0 = .list false (s.map au)/\O 1=int v_/\O 7=int b6/\O 8=int v6)) (by simp[E]) ?_;clear E;rintro v6 O H n7 K h E IH8;refine zE fun _ V=>?_
  obtain⟨d,e,h⟩:=aJ h;have f11:=bc (k:=.i64) e;simp[E,f11,-ax];apply V;apply J.seq;refine J.ite (b:=d) (by simp[E]) (fun a=>?_) (fun a=>?_)
  · replace h:=h.1 a
    apply zK;apply J.block;refine zE fun _ V=>?_
    simp[E,a];apply V;refine zE fun _ V=>?_
    obtain⟨g,h⟩:=h;obtain⟨t,i,h⟩:=aJ h;have f14:=fun H=>aU (H:=H) (fr:=false) (f:=au) (k:=.i64) aP (fun _=>rfl) g i
    obtain⟨j,l,h⟩:=aJ h;have f16:=kp (k:=.i64) l;simp[E,f14,f16,a,-ar,-ax];apply V;refine J.ite (b:=j) (by simp[E,a]) (fun c=>?_) (fun c=>?_)
    · replace h:=h.1 c
      refine zE fun _ V=>?_
      simp[E,a,c];apply V;exact J.bG (v:=int v6) func109 results109 (by simp[E,a,c]) (hQ _ _ _ _ (.of (.v _)) ⟨v6,h,rfl⟩)
    replace h:=h.2 c;apply J.skip;refine zI fun _ V=>?_
    obtain⟨o,h⟩:=h;obtain⟨p,q,h⟩:=aJ h;have f19:=aR o q;simp[E,f19,a,c,-ax];apply V;refine IH8 (p) _ _ _ h (by simp[E,a,c])
  replace h:=h.2 a;refine J.exit rfl ?_;refine zE fun _ V=>?_
  simp[E,a];apply V;exact J.bG (v:=int (-1)) func109 results109 (by simp[E,a]) (hQ _ _ _ _ (.of (.v _)) ⟨(-1),h,rfl⟩)
theorem sK (s:List Int) (v_:Int) (hp:lW s v_):aF prog 109 [.list false (s.map au),int v_] (fun r=>r=int (dA s v_)):=(wB s v_ _ (AN s v_ hp)).mono (by rintro _ ⟨_,rfl,rfl⟩;rfl)
theorem e142:a8 prog 142:=a8.of func142 (by kernel_rfl) rfl
theorem rC (t:Bool) (l:List Int) (H:av) (n:Nat):cU prog 142 [.list t (l.map au)] H n (fun r=>r = .clip t (l.map nb)):=by
  refine bt.of func142 rfl ntmps142 (by simp) fun Q hQ=>?_
  refine J.cut (fun O H1 U=>O 0 = .list t (l.map au)/\H1=H/\U=n) (by simp) ?_;rintro O H U ⟨h0,rfl,rfl⟩;refine zE fun _ V=>?_
  simp[h0];apply V;refine zE fun _ V=>?_
  have f1:=fun H=>aQ (H:=H) (fr:=t) (f:=au) (l:=l) (v:=(l.length:Int)) aP rfl
  simp[h0,f1];refine bq.C6 (fr:=t) (vs:=l.map nb) (k1:=.i64) (k2:=.i64) aw (by decide) (by decide) aP (by rw[nm];simp[h0]) (by simp) (by simp) ?_;simp;apply V;exact J.bG (v:=.clip t (l.map nb)) func142 results142 (by simp) (hQ _ _ _ ⟨rfl,rfl,rfl⟩)
theorem e106:a8 prog 106:=a8.of func106 (by kernel_rfl) rfl
theorem we (s:List Int) (Z:(List Int)->Prop) (h:kZ s Z):bL prog 106 [.list false (s.map au)] (.s [.c]) (fun r=>∃ y:List Int,Z y/\r = .list true (y.map au)):=by
  unfold kZ at h;have M:Sep bu 0 [] []:=Sep.nil (by simp);refine bL.of func106 rfl ntmps106 (by simp) fun Q hQ=>?_
  refine J.cut (fun O H n=>O 0 = .list false (s.map au)/\Sep H n [] []) (by refine⟨by simp ,M⟩) ?_;rintro O H U ⟨E,M⟩;refine zE fun _ V=>?_
  simp[E];apply V;refine zS fun _ V=>?_
  simp[E];refine bq.isNil (fr:=false) (els:=s.map au) aw (by decide) (by decide) aP (by simp[E]) (by simp[E]) ?_;rintro c2 hc3;replace h:=h c2 (fun hq=>by simpa using hc3 hq);simp[E];apply V;refine J.ite (b:=c2) (by simp[E]) (fun dc2=>?_) (fun dc2=>?_)
  · replace h:=h.1 dc2
    refine zE fun _ V=>?_
    simp[E,dc2];apply V;exact J.bG (v:=.v (.slice none 0 0)) func106 results106 (by simp[E,dc2]) (hQ _ _ _ _ (Sep.sub (dQ:=[]) (Sep.fD M) (by simp)) ⟨[],h,rfl⟩)
  replace h:=h.2 dc2;apply J.skip;refine zE fun _ V=>?_
  obtain⟨hb6,h⟩:=h;obtain⟨l7,el7,h⟩:=aJ h;simp[E,dc2,-bj];refine dk (s.map au) (Sep.addEmpty (l:=[.c]) M) (by simp) aP (by simp) (by simp) (by simp[cy]) (by simp[-aE,bf]) (by simpa using hb6) ?_;rintro v8 H9 d M e g;replace M:Sep H9 d [oI v8 l7] []:=by refine Sep.ap el7 ?_;exact M
  simp[E,dc2];apply V;refine J.cut (fun O H n=>∃ (a:I),O 2=a/\Sep H n [oI a l7] []) (by refine⟨v8,by simp[E,dc2],M⟩) ?_;clear E;rintro O H n15 ⟨a,E,M⟩;exact J.bG (v:=a) func106 results106 (by simp[E]) (hQ _ _ _ _ (Sep.sub (dQ:=[]) M (by simp)) ⟨l7,h,rfl⟩)
theorem sf (s:List Int) (hp:jO s):bL prog 106 [.list false (s.map au)] (.s [.c]) (fun r=>r = .list true ((tR s).map au)):=(we s _ (BT s hp)).mono (by rintro _ ⟨_,rfl,rfl⟩;rfl)
end Go.Ab.Vg
namespace Go.Ab
theorem xg {v:I} (h:Ab.aE v=true):az v=some [v]:=by
  cases v with
  | v x=>cases x<;>first | rfl | (simp[Ab.aE,one] at h)
  | undef=>simp[Ab.aE] at h
  | agg=>simp[Ab.aE] at h
  | tup=>simp[Ab.aE] at h
  | _=>rfl
theorem gm.rS {n:Nat} {a:I} (h:gm a):oF n a:=by
  induction h with
  | v x=>exact .v x
  | agg cs _ ih=>exact .agg cs ih
  | tup cs _ ih=>exact .tup cs ih
  | list fr els _ ih=>exact .list fr els ih
  | iface t a _ ih=>exact .iface t a ih
section
variable {H:av} {n:Nat}
theorem aN.nW {X:Id} {sz:Nat} {cs ds:List I} (hX:H X=some ⟨sz,[cs]⟩) (h:ca H n cs ds):aN H n (.ptr X 1 0 0) (.iptr false ds):=by
  intro c x hH hn g r c' hw hc;obtain⟨hl,hi⟩:=h.get;rw[<- hH] at hX;cases r with
  | ptr _ _ _ _ x h1 hlt hg E=>
    obtain⟨_,rfl⟩:=E _ hX rfl;have hcell:∀ (j:Nat) (a:I),cs[j]?=some a->∃ y,c.w.cell? ⟨c.β X,0 * sz+j,none⟩=some y/\b5 c a y:=fun j a ha=>g.cell hX (i:=0) rfl ha
    have hget:∀ (j:Nat) (b:I),ds[j]?=some b->∃ a,cs[j]?=some a:=fun j b hb=>⟨_,List.getElem?_eq_getElem (show j<cs.length by rw[hl];exact (List.getElem?_eq_some_iff.1 hb).1)⟩
    refine .iptr false ds _ (fun j=>(c.w.cell? ⟨c.β X,0 * sz+j,none⟩).getD Go.undef) rfl (Df hc _) (by rw[hw];exact g.lt hX) (fun h=>by cases h) (fun j b hb=>?_) (fun j b hb=>?_)
    · obtain⟨a,ha⟩:=hget j b hb
      obtain⟨y,hy,_⟩:=hcell j a ha;rw[hw];show c.w.cell? ⟨c.β X,0 * sz+j,none⟩=_;rw[hy];rfl
    · obtain⟨a,ha⟩:=hget j b hb
      obtain⟨y,hy,hr⟩:=hcell j a ha;simp only[hy,Option.getD_some];exact hi j a b ha hb c y hH hn g hr c' hw hc
theorem ca.app {as1 as' bs bs':List I} (h:ca H n as1 as') (h':ca H n bs bs'):ca H n (as1++bs) (as'++bs'):=by
  induction h with
  | nil=>exact h'
  | cons h _ ih=>exact .cons h ih
theorem aF.args {P:Program} {f:FuncId} {as1 as':List I} {R:I->Prop} (h:aF P f as' R) (ha:ca H n as1 as'):cU P f as1 H n R:=by
  intro c xs hH hn gd hl;have hb:Good ⟨c.w.heap.size,fun _=>0,bu,0,c.w⟩:=kS c.w;obtain⟨hlen,hget⟩:=ha.get;have hrep:dD ⟨c.w.heap.size,fun _=>0,bu,0,c.w⟩ as' xs:=by
    refine⟨by rw[<- hlen];exact hl.1,fun i b x hb' hx=>?_⟩;have hi:=(List.getElem?_eq_some_iff.1 hb').1;have ha':as1[i]?=some (as1[i]'(by omega)):=List.getElem?_eq_getElem (by omega);exact hget i _ b ha' hb' c x hH hn gd (hl.2 i _ x ha' hx) _ rfl (fun _=>rfl)
  refine (h _ xs rfl rfl hb hrep).mono ?_;rintro e w' ⟨x,v,c1,he,hw,⟨r,hres,hR⟩,hrv,hg1,hk⟩;subst hw;have hnomu:∀ k,¬ Ctx.mu ⟨c.w.heap.size,fun _=>0,bu,0,c.w⟩ k:=by
    rintro k ⟨id,o,ho,_⟩;cases ho
  obtain⟨hkc,hgc⟩:=eg gd c1.w ⟨hk.os,hk.tape,hk.output⟩ hk.size (fun k V=>(hk.imm k V (hnomu k)).1);refine⟨x,r,{ c with w:=c1.w },he,rfl,⟨hR,hH,hn⟩,?_,hgc,hkc⟩;refine hres c1 x rfl rfl hg1 hrv { c with w:=c1.w } rfl ?_ ?_
  · rintro k ⟨id,o,ho,hb'⟩
    have hlt:c.β id<c.w.heap.size:=gd.lt ho;rw[hk.B];show k<c.w.heap.size;simp only at hb';omega
  · rw[hk.B]
    exact gd.Bsize
end
section
variable {P:Program} {f:FuncId} {N:Nat} {k:List Item} {Q:I->av->Nat->Prop} {Ty:Types} {l:List Oper} {O:Env} {H:av} {n:Nat}
theorem aK.sP {d:Option Tmp} {g:Operand} {args:Array Operand} {ats:Array TypeId} {ty:TypeId} {pos:String} {af:Array Edge} {gu:Option (Nat × Bool)} {v:I} {f':FuncId} {xs xs2 ys1 ys2:List I}
    (h:aF P f' (xs2++ys2) (fun r=>r=v)) (c8:a8 P f') (ha:ca H n xs xs2) (hb:ca H n ys1 ys2) (hg:O.ev g = .fn (.func f') [] ys1) (has:args.toList.map O.ev=xs) :
    aK P N ⟨d,.call ⟨.value g,args,ats⟩,ty,pos,af,gu⟩ (loc (.call ⟨.value g,args,ats⟩) O) H n (sG v H n):=by
  have h1:(loc (.call ⟨.value g,args,ats⟩) O).ev g=O.ev g:=dK (by simp[Op.operands,Call.operands]);have h2:args.toList.map (loc (.call ⟨.value g,args,ats⟩) O).ev=args.toList.map O.ev:=List.map_congr_left fun x hx=>dK (by simp[Op.operands,Call.operands];exact .inr (by simpa using hx))
  exact aK.call (by rw[h1];exact hg) c8 (by rw[h2,has,List.nil_append];exact aF.args h (ha.app hb))
theorem bA.sP (hT:aV P Ty) {κ:Op->Nat} (hκ:CM κ) {d:Option Tmp} {g:Operand} {args:Array Operand} {ats:Array TypeId} {ty:TypeId} {pos:String} {af:Array Edge} {v:I} {f':FuncId} {xs1 xs2 ys1 ys2:List I} {ops:Array Oper}
    (h:aF P f' (xs2++ys2) (fun r=>r=v)) (c8:a8 P f') (ha:ca H n xs1 xs2) (hb:ca H n ys1 ys2) (h0:κ (.call ⟨.value g,args,ats⟩) ≠ 0) (hg:O.ev g = .fn (.func f') [] ys1) (has:args.toList.map O.ev=xs1)
    (hk:dF P f N k Q Ty κ ops l (O.put d v) H n):bA P f N k Q κ ops (⟨d,.call ⟨.value g,args,ats⟩,ty,pos,af,none⟩::l) O H n:=
  bA.op hT hκ rfl h0 (fun _=>⟨rfl,rfl⟩) (aK.sP h c8 ha hb hg has) hk
theorem bq.lK (hT:aV P Ty) {ops:Array Oper} {o:Oper} {v:I} (hl:(o::l).all (fun o=>dL N o.dst)=true) (hg:o.guard=none) (hs:a6 Ty o.dst o.op O H n=some (v,H,n)) (h:bq P f N k Q ops l (O.put o.dst v) H n):bq P f N k Q ops (o::l) O H n:=by
  simp only[List.all_cons,Bool.and_eq_true] at hl;refine fX.op hg hl.1 ((aC hT hs).mono ?_);rintro _ _ _ ⟨rfl,rfl,rfl⟩;exact h
theorem bq.makeS (hT:aV P Ty) {ops:List Oper} {d len:Nat} {t:TypeId} {j:TI} {ps:Array (Nat × Operand)} {ty:TypeId} {pos:String} {af:Array Edge} {l':List Sh} {K:List bW} {ids:List Id} {cs:List I} (es:List (List I)) (h:Sep H n K ids)
    (hN:ops.all (fun o=>dL N o.dst)=true) (hl:(⟨some d,.buildSlice t len ps,ty,pos,af,none⟩::l:List Oper).all (fun o=>dL N o.dst)=true) (hf:∀ t ∈ l',t = .c) (hk:kd Ty t = .slice j) (hj:j.size=l'.length) (h0:len ≠ 0/\len * j.size<=16777216/\j.size ≠ 0/\j.zero.length=j.size)
    (hcs:ee (fun k=>some (k * j.size,j.size)) ((List.replicate len (j.zero.map I.v)).flatten) (ps.toList.map fun p=>(p.1,O.ev p.2))=some cs) (hes:chunks j.size len cs=es) (hel:es.length=len) (ho:∀ e ∈ es,e.length=l'.length/\∀ a ∈ e,flat a=true)
    (hc:∀ id H' n',Sep H' n' ((.s l',.arr id len 0 len,.list true es)::K) ids->(∀ i ∈ ids,H' i=H i)->n<=n'->cq P f N k Q Ty ops.toArray l (O.put (some d) (.arr id len 0 len)) H' n'):bq P f N k Q ops.toArray (⟨some d,.buildSlice t len ps,ty,pos,af,none⟩::l) O H n:=by
  subst hes;have e:jr Ty (some d) (.buildSlice t len ps) O H n=some (.arr (n,d) len 0 len,H.set (n,d) ⟨j.size,chunks j.size len cs⟩,n+1):=by
    simp only[jr,hk];rw[if_pos h0,hcs]
    rfl
  refine bq.op hT hN hl rfl (nc (o:=⟨some d,.buildSlice t len ps,ty,pos,af,none⟩) hT e).1 ?_;rintro _ _ _ ⟨rfl,rfl,rfl⟩;have h1:=Sep.rE (d:=d) (l:=l') (els:=chunks j.size len cs) (es:=chunks j.size len cs) h (bK.Dv ho hf);rw[hel,<- hj] at h1;exact hc (n,d) _ _ h1 (fun i hi=>av.aD _ _ (by rintro rfl;have:=h.1 _ hi;simp at this)) (Nat.le_succ n)
end
end Go.Ab
namespace Go.Ab.Vg
open Go.Proofs
section
variable {P:Program} {f:FuncId} {N:Nat} {k:List Item} {O:Env} {H:av} {n:Nat} {Q:I->av->Nat->Prop}
theorem J.subX {X:Id} {sz:Nat} {rows rows':List (List I)} (hX:H X=some ⟨sz,rows⟩) (hl:rows.length=rows'.length) (hr:∀ (i:Nat) (e e':List I),rows[i]?=some e->rows'[i]?=some e'->jM e e') (h:J P f N k O (H.set X ⟨sz,rows'⟩) n Q):J P f N k O H n Q:=by
  intro c a hH hn g r b cs hf hk;subst hH hn;have hdom:∀ id o',(c.H.set X ⟨sz,rows'⟩) id=some o'->∃ o,c.H id=some o/\o.size=o'.size/\o.els.length=o'.els.length:=by
    intro id o' ho;rw[av.aW] at ho
    split at ho
    · rename_i he;subst he;cases ho;exact⟨_,hX,rfl,hl⟩
    · exact⟨o',ho,rfl,rfl⟩
  let c2:Ctx:={ c with H:=c.H.set X ⟨sz,rows'⟩ }
  have k2:bp c c2:=by
    refine⟨Nat.le_refl _,rfl,Nat.le_refl _,rfl,rfl,rfl,fun k hk hm=>⟨rfl,?_⟩,fun id o' ho _=>?_⟩
    · rintro⟨id,o,ho,hb⟩
      obtain⟨o2,h2,_⟩:=hdom id o ho;exact hm ⟨id,o2,h2,hb⟩
    · obtain⟨o,h1,h2,h3⟩:=hdom id o' ho
      exact⟨o,h1,h2,Nat.le_of_eq h3,fun _=>⟨rfl,fun cl el fz h=>⟨cl,el,fz,h,Nat.le_refl _⟩⟩⟩
  have g2:Good c2:=by
    refine⟨fun id o ho=>?_,fun id id' o o' ho ho' hb=>?_,g.Bsize,fun id o ho=>?_⟩
    · obtain⟨o2,h2,_⟩:=hdom id o ho
      exact g.stamp id o2 h2
    · obtain⟨o2,h2,_⟩:=hdom id o ho
      obtain⟨o3,h3,_⟩:=hdom id' o' ho';exact g.inj id id' o2 o3 h2 h3 hb
    · obtain⟨o2,h2,h3,h4⟩:=hdom id o ho
      obtain⟨p1,cl,el,p2,p3,p4⟩:=g.obj id o2 h2;refine⟨p1,cl,el,p2,by rw[<- h3,<- h4];exact p3,fun i e he=>?_⟩;have ho':(c.H.set X ⟨sz,rows'⟩) id=some o:=ho;rw[av.aW] at ho'
      split at ho'
      · rename_i hid
        subst hid;cases ho';rw[hX] at h2;cases h2;obtain⟨e0,he0⟩:=ba (l:=rows) (i:=i) (by rw[hl];exact (List.getElem?_eq_some_iff.1 he).1);obtain⟨s1,s2⟩:=(hr i e0 e he0 he).get;refine⟨by rw[<- s1];exact (p4 i e0 he0).1,fun j a ha=>?_⟩;obtain⟨a0,ha0⟩:=ba (l:=e0) (i:=j) (by rw[s1];exact (List.getElem?_eq_some_iff.1 ha).1);obtain⟨x,hx,hrp⟩:=(p4 i e0 he0).2 j a0 ha0;exact⟨x,hx,s2 j a0 a ha0 ha c2 x (hrp.keeps k2)⟩
      · rw[ho'] at h2
        cases h2;obtain⟨q1,q2⟩:=p4 i e he;refine⟨q1,fun j a ha=>?_⟩;obtain⟨x,hx,hrp⟩:=q2 j a ha;exact⟨x,hx,hrp.keeps k2⟩
  obtain⟨x,v,c',fr,q,hr',hg,hke,rest⟩:=h c2 a rfl rfl g2 (r.keeps k2) b cs hf hk;exact⟨x,v,c',fr,q,hr',hg,k2.trans hke,rest⟩
def DR (K:List bW):Prop:=∀ e ∈ K,∃ v l,e=oI v l
theorem Row.allI {H:av}:∀ {K:List bW} {S:List Id},DR K->Row H (K.map (·.1)) (K.map (·.2.1)) (K.map (·.2.2)) S->(∀ i ∈ S,∃ l:List Int,H i=some ⟨1,l.map au⟩)/\∀ e ∈ K,e.2.1 = .v (.slice none 0 0)\/∃ i ∈ S,∃ g,e.2.1 = .arr i g 0 g
  | [],S,_,h=>by simp only[List.map_nil,Row] at h;subst h;exact⟨by simp,by simp⟩
  | e::K,S,hK,h=>by
    obtain⟨v,l,rfl⟩:=hK e (by simp);simp only[List.map_cons,Row] at h;obtain⟨S1,S2,h1,h2,rfl,_⟩:=h;obtain⟨q1,q2⟩:=Row.allI (fun e he=>hK e (by simp[he])) h2;simp only[Tr] at h1;rcases h1 with ⟨rfl,_,rfl⟩ | ⟨id,els,es,T,rfl,he,hm,hr,_,rfl⟩
    · refine⟨fun i hi=>q1 i (by simpa using hi),fun e he=>?_⟩
      rcases List.mem_cons.1 he with rfl | he
      · exact .inl rfl
      · rcases q2 e he with h | ⟨i,hi,g,h⟩
        · exact .inl h
        · exact .inr ⟨i,by simpa using hi,g,h⟩
    · injection he with _ he
      subst he;have hel:els=l.map au/\T=[]:=by
        have:∀ {xs bs:List (List I)} {S:List Id},bK (Row H [.c]) xs bs S->xs=bs/\S=[]:=by
          intro xs
          induction xs with
          | nil=>intro bs S hr;match bs,hr with
            | [],hr=>exact⟨rfl,hr⟩
            | _::_,hr=>exact hr.elim
          | cons a xs ih=>
            intro bs S hr
            match bs,hr with
            | b::bs,⟨T1,T2,q1,q2,q3,_⟩=>
              obtain⟨e1,e2,_⟩:=q1.fill (by simp);obtain⟨e3,e4⟩:=ih q2;exact⟨by rw[e1,e3],by rw[q3,e2,e4];rfl⟩
            | [],hr=>exact hr.elim
        exact this hr
      obtain⟨rfl,rfl⟩:=hel;refine⟨fun i hi=>?_,fun e he=>?_⟩
      · simp only[List.mem_append,List.mem_singleton] at hi
        rcases hi with rfl | hi
        · exact⟨l,hm⟩
        · exact q1 i hi
      · rcases List.mem_cons.1 he with rfl | he
        · exact .inr ⟨id,by simp,_,rfl⟩
        · rcases q2 e he with h | ⟨i,hi,g,h⟩
          · exact .inl h
          · exact .inr ⟨i,by simp[hi],g,h⟩
theorem J.fzT {v:I} {l:List Int} {K:List bW} {ids:List Id} (M:Sep H n (oI v l::K) ids) (hK:DR K)
    (h:∀ (H':av) (φ:I->I),Sep H' n K ids->(∀ i ∈ ids,H' i=(H i).map fun o=>⟨o.size,o.els.map fun e=>e.map φ⟩)->(∀ a,gm a->φ a=a)->(∀ e ∈ K,φ e.2.1=e.2.1)->(∀ i ∈ ids,∀ g x y,φ (.ptr i g x y) = .ptr i g x y/\φ (.arr i g x y) = .arr i g x y) ->
      (gm (φ v)/\Sub (φ v) (.list true (l.map au)))->J P f N k (fun t=>φ (O t)) H' n Q):J P f N k O H n Q:=by
  have hform:=Sep.E3 M (by simp);rcases hform with ⟨rfl,rfl⟩ | ⟨id,rfl,hm⟩
  · refine h H (fun a=>a) (Sep.dr M) (fun i _=>?_) (fun _ _=>rfl) (fun _ _=>rfl) (fun _ _ _ _ _=>⟨rfl,rfl⟩) ⟨.v _,Sub.nil true⟩
    cases H i with
    | none=>rfl
    | some o=>simp
  · refine J.EM id hm (by intro e he a ha;obtain⟨x,_,rfl⟩:=List.mem_map.1 he;simp only[au,List.mem_singleton] at ha;subst ha;rfl) ?_
    have hφ:∀ a,gm a->fz (fun i=>decide (i=id)) H a=a:=fun a ha=>oF.fz (n:=0) (fun _ _=>Nat.zero_le _) ha.rS
    obtain⟨h0,S1,S2,hr1,hr2,hd,hS1,hS2⟩:=Sep.split (K1:=[oI (.arr id l.length 0 l.length) l]) (K2:=K) M;have hid:id ∈ S1:=by
      simp only[List.map_cons,List.map_nil,Row,Tr] at hr1;obtain⟨T1,T2,q1,rfl,rfl,_⟩:=hr1;rcases q1 with ⟨q,_⟩ | ⟨id',els,es,T,q,_,_,_,_,rfl⟩
      · cases q
      · injection q with q;subst q;simp
    obtain⟨_,hi⟩:=hS1 id hid;obtain⟨hfl,hvs⟩:=Row.allI hK hr2;have hfr:∀ i ∈ S2,EY (fun i=>decide (i=id)) H i=H i:=fun i hi2=>by
      obtain⟨l',hl'⟩:=hfl i hi2;rw[DF (show i ≠ id from fun e=>hd id hid (e ▸ hi2)),hl'];simp only[Option.map_some,Option.some.injEq,Ob.mk.injEq,true_and];exact C1 fun e he a ha=>by obtain⟨x,_,rfl⟩:=List.mem_map.1 he;simp only[au,List.mem_singleton] at ha;subst ha;rfl
    refine h _ _ ?_ (fun i hi2=>?_) hφ (fun e he=>?_) (fun i hi2 g x y=>?_) ?_
    · exact⟨h0,S2,Row.frame hr2 hfr,hS2⟩
    · exact DF (show i ≠ id from fun e=>hi (e ▸ hi2))
    · rcases hvs e he with h1 | ⟨i,hi2,g,h1⟩
      · rw[h1];exact Bx _
      · rw[h1,p9,if_neg]
        simp only[decide_eq_true_eq];exact fun e=>hd id hid (e ▸ hi2)
    · have hne:i ≠ id:=fun e=>hi (e ▸ hi2)
      rw[yi,p9];simp[hne]
    · rw[fz_own hm (by simp)]
      refine⟨.list _ _ fun e he a ha=>?_,Sub.refl _⟩;obtain⟨x,_,rfl⟩:=List.mem_map.1 he;simp only[au,List.mem_singleton] at ha;subst ha;exact .v _
theorem J.fzS {v:I} {l:List Int} {K:List bW} {ids:List Id} (M:Sep H n (oI v l::K) ids) (hK:DR K)
    (h:∀ (H':av) (φ:I->I),Sep H' n K ids->(∀ i ∈ ids,H' i=(H i).map fun o=>⟨o.size,o.els.map fun e=>e.map φ⟩)->(∀ a,gm a->φ a=a)->(∀ e ∈ K,φ e.2.1=e.2.1)->(∀ i ∈ ids,∀ g x y,φ (.ptr i g x y) = .ptr i g x y/\φ (.arr i g x y) = .arr i g x y) ->
      Sub (φ v) (.list true (l.map au))->J P f N k (fun t=>φ (O t)) H' n Q):J P f N k O H n Q:=
  J.fzT M hK fun H' φ h1 h2 h3 h4 h5 h6=>h H' φ h1 h2 h3 h4 h5 h6.2
theorem J.E7 {ids:List Id}:∀ (es:List (I × List Int)) {O:Env} {H:av},Sep H n (es.map fun e=>oI e.1 e.2) ids ->
    (∀ (H':av) (φ:I->I),Sep H' n [] ids->(∀ i ∈ ids,H' i=(H i).map fun o=>⟨o.size,o.els.map fun e=>e.map φ⟩)->(∀ a,gm a->φ a=a)->(∀ e ∈ es,Sub (φ e.1) (.list true (e.2.map au)))->(∀ i ∈ ids,∀ g x y,φ (.ptr i g x y) = .ptr i g x y/\φ (.arr i g x y) = .arr i g x y) ->
      J P f N k (fun t=>φ (O t)) H' n Q)->J P f N k O H n Q
  | [],O,H,M,h=>h H (fun a=>a) M (fun i _=>by cases H i with
    | none=>rfl
    | some o=>simp) (fun _ _=>rfl) (by simp) (fun _ _ _ _ _=>⟨rfl,rfl⟩)
  | e::es,O,H,M,h=>by
    replace M:Sep H n (oI e.1 e.2::es.map fun e=>oI e.1 e.2) ids:=by rw[List.map_cons] at M;exact M
    refine J.fzT M (fun x hx=>by obtain⟨y,_,rfl⟩:=List.mem_map.1 hx;exact⟨_,_,rfl⟩) fun H1 φ sp1 fr1 hφ hkv hptr hsub=>?_
    refine J.E7 es sp1 fun H2 ψ sp2 fr2 hψ hes hptr2=>?_
    have:=h H2 (fun a=>ψ (φ a)) sp2 (fun i hi=>?_) (fun a ha=>by rw[hφ a ha,hψ a ha]) (fun x hx=>?_) (fun i hi g x y=>by rw[(hptr i hi g x y).1,(hptr i hi g x y).2];exact hptr2 i hi g x y)
    · exact this
    · rw[fr2 i hi,fr1 i hi]
      cases H i with
      | none=>rfl
      | some o=>simp[Function.comp_def]
    · rcases List.mem_cons.1 hx with rfl | hx
      · rw[hψ _ hsub.1];exact hsub.2
      · have h1:=hkv (oI x.1 x.2) (List.mem_map.2 ⟨x,hx,rfl⟩)
        simp only at h1;rw[h1];exact hes x hx
end
end Go.Ab.Vg
namespace Go.Ab
structure Guard where
  zone:Int
  neg:Bool
  pattern:aG
  deriving Inhabited,DecidableEq
theorem pK (t:Bool) (b:aG):∀ a ∈ b.cells t,gm a:=by
  intro a ha;simp only[aG.cells,List.mem_cons,List.not_mem_nil,or_false] at ha;rcases ha with rfl | rfl | rfl | rfl | rfl | rfl
  · exact .v _
  · exact qX t b.nodes
  · exact ng t b.sites
  · exact .v _
  · exact rr t b.outer
  · exact qZ t b.inner
section
variable {H:av} {n:Nat}
end
end Go.Ab
namespace Go.Ab
section
variable {P:Program} {N:Nat} {Ty:Types} {O:Env} {H:av} {n:Nat}
variable {d:Option Tmp} {ty:TypeId} {pos:String} {af:Array Edge} {gu:Option (Nat × Bool)}
theorem sT {a:Act} {w w':World} {s x:Operand} {t t':TypeId} {u:Value} (h:(Builtin.copy_ #[t,t'] ty #[a.eval s,a.eval x]).run P w = .ok u w') :
    (execOp a.eval ⟨d,.call ⟨.builtin .copy,#[s,x],#[t,t']⟩,ty,pos,af,gu⟩).run P w = .ok (.value u) w':=by
  simp only[execOp,resolve,invoke,builtin,Sem.run_bind,Sem.run_pure,Result.andThen_ok,List.map_toArray,List.map_cons,List.map_nil,h]
def copied (es new:List (List I)) (off len:Nat):List (List I):=es.take off++new.take (min new.length len)++es.drop (off+min new.length len)
theorem qi {es new:List (List I)} {off len:Nat} (h:off+len<=es.length):(copied es new off len).length=es.length:=by simp[copied];omega
theorem aK.EZ (hT:aV P Ty) {t t':TypeId} {dst src:Operand} {j:TI} {id:Id} {g0 off len:Nat} {o:Ob} {els:List (List I)} (hk:kd Ty t = .slice j) (hj:j.size=1) (hd:O.ev dst = .arr id g0 off len) (hl:live H id g0=some o) (ho:o.size=1)
    (hs:cy H (O.ev src)=some els) (hes:els.all (·.length == 1)=true) (h1:els.all (fun e=>e.all aE)=true) :
    aK P N ⟨d,.call ⟨.builtin .copy,#[dst,src],#[t,t']⟩,ty,pos,af,gu⟩ O H n fun v1 H1 U=>v1=int (min els.length len:Nat)/\H1=H.set id ⟨1,copied o.els els off len⟩/\U=n:=by
  refine aK.dC fun c a hH hn g r=>?_
  subst hH;obtain⟨i,e,hi,hde,hje⟩:=ct hk;obtain⟨hu,_⟩:=hT t i hi;rw[hde] at hu;obtain⟨_,info,zv,hinfo,his,_,_,_⟩:=hT e j hje;have hs1:(P.info? e).map (·.size)=some 1:=by rw[hinfo];simp[his,hj]
  have rs:=r.ev dst;rw[hd] at rs;obtain⟨l1,l2⟩:=cZ hl;have rx:=fj g (r.ev src) hs hes;generalize hsv:a.eval dst=sv at rs;generalize hxv:a.eval src=xv at rx;cases rs with
  | arr _ _ _ _ _ hone hn0 hg hp=>
  obtain⟨p1,ad,cap,rfl,hab,hsp,hlc,eS,hcl⟩:=hp o l1 l2;obtain⟨ab,ao,asp⟩:=ad;simp only at hab hsp eS;subst hab hsp;obtain⟨hB,cl,el,E,hsz,hel⟩:=g.obj id o l1;rw[ho] at hsz eS;have hsame:min els.length len=0->c.H.set id ⟨1,copied o.els els off len⟩=c.H:=fun h0=>by
    funext q
    by_cases hq:q=id
    · subst hq
      rw[av.bb,l1];have:copied o.els els off len=o.els:=by simp[copied,h0]
      rw[this,<- ho]
    · exact av.aD _ _ hq
  by_cases hm:min els.length len=0
  · have hrun:(Builtin.copy_ #[t,t'] ty #[a.eval dst,a.eval src]).run P c.w = .ok (goInt 0) c.w:=by
      rw[hsv,hxv];rcases rx with ⟨rfl,rfl⟩ | ⟨a2,cap2,news,rfl,_⟩
      · exact run_copy_nil P c.w t t' ty e _ len cap hu (by rw[hs1];rfl)
      · exact run_copy_none c.w t t' ty e _ _ len cap els.length cap2 hu hs1 hm
    exact⟨_,_,c,sT hrun,⟨by rw[hm];rfl,(hsame hm).symm,hn⟩,.v _,g,bp.refl c⟩
  · rcases rx with ⟨rfl,rfl⟩ | ⟨a2,cap2,news,rfl,hnl,hnc,hnr⟩
    · simp at hm
    have hao:ao=off:=by
      rcases eS with h | h
      · omega
      · omega
    subst hao;have hog:o.els.length=g0:=l2;have hml:(news.take (min els.length len)).length=min els.length len:=by rw[List.length_take,hnl];omega
    have hone':∀ v ∈ news.take (min els.length len),v.oneCell'=true:=fun v hv=>Dd h1 hnl hnr v (List.mem_of_mem_take hv)
    have hfit:ao+(news.take (min els.length len)).length<=cl.size:=by rw[hml];omega
    have hrun:(Builtin.copy_ #[t,t'] ty #[a.eval dst,a.eval src]).run P c.w = .ok (goInt (news.take (min els.length len)).length) (c.w.setRow (c.β id) (cl.toList.take ao++news.take (min els.length len)++cl.toList.drop (ao+(news.take (min els.length len)).length)).toArray):=by
      rw[hsv,hxv];exact run_copy_row P c.w t t' ty e (c.β id) ao len cap a2 els.length cap2 cl el _ hu hs1 E hml (fun j v hj=>hnc j v (by
        rw[List.getElem?_take] at hj
        split at hj
        · exact hj
        · cases hj)) hfit hone'
    have hov:(cl.toList.take ao++news.take (min els.length len)++cl.toList.drop (ao+(news.take (min els.length len)).length)).toArray=over cl ao (news.take (min els.length len)):=rfl;rw[hov] at hrun;have hup:=qo g l1 ⟨1,copied o.els els ao len⟩ (c.w.setRow (c.β id) (over cl ao (news.take (min els.length len)))) cl (over cl ao (news.take (min els.length len))) el el ⟨rfl,rfl,rfl⟩ (by simp[World.setRow]) E (fun k hk=>setRow_other c.w _ k _ hk) (setRow_heap c.w _ cl _ el _ E)
      (by rw[gY hfit];exact Nat.le_refl _) ho (by rw[qi (by omega)];exact Nat.le_refl _) ⟨?_,?_⟩
    · exact⟨int (min els.length len:Nat),goInt (news.take (min els.length len)).length,{ c with H:=c.H.set id ⟨1,copied o.els els ao len⟩,w:=c.w.setRow (c.β id) (over cl ao (news.take (min els.length len))) },sT hrun,⟨rfl,rfl,hn⟩,by rw[hml];exact .v _,hup.2,hup.1⟩
    · rw[gY hfit,qi (by omega)];simpa using hsz
    · intro q e' he
      simp only[copied] at he;have hcell:∀ (x:List I),o.els[q]?=some x->¬ (ao<=q/\q<ao+min els.length len)->x.length=1/\∀ (j:Nat) (y:I),x[j]?=some y->∃ z,(over cl ao (news.take (min els.length len)))[q * 1+j]?=some z/\b5 c y z:=fun x hx hnot=>by
        obtain⟨h2,h3⟩:=hel q x hx;rw[ho] at h2 h3;refine⟨h2,fun j y hy=>?_⟩;have hj0:j=0:=by have:=(List.getElem?_eq_some_iff.1 hy).1;omega
        subst hj0;have h4:=h3 0 y hy
        rwa [jw hfit,hml,if_neg (by omega)]
      by_cases c1:q<ao
      · rw[List.append_assoc,List.getElem?_append_left (by simp;omega),List.getElem?_take,if_pos c1] at he
        exact hcell e' he (by omega)
      · by_cases c2:q<ao+min els.length len
        · rw[List.append_assoc,List.getElem?_append_right (by simp;omega),List.getElem?_append_left (by simp;omega),List.getElem?_take] at he
          have hmin:min ao o.els.length=ao:=by omega
          simp only[List.length_take,hmin] at he;rw[if_pos (by omega)] at he;obtain⟨h2,h3⟩:=hnr _ e' he;refine⟨h2,fun j y hy=>?_⟩;have hj0:j=0:=by have:=(List.getElem?_eq_some_iff.1 hy).1;omega
          subst hj0;obtain⟨z,hz,hrep⟩:=h3 0 y hy;refine⟨z,?_,hrep⟩;show (over cl ao (news.take (min els.length len)))[q * 1+0]?=some z;rw[jw hfit,hml,if_pos (by omega),List.getElem?_take,if_pos (by omega)];rw[<- hz];congr 1;omega
        · rw[List.getElem?_append_right (by simp;omega)] at he
          have hmin:min ao o.els.length=ao:=by omega
          have hmin2:min (min els.length len) els.length=min els.length len:=by omega
          simp only[List.length_append,List.length_take,hmin,hmin2,List.getElem?_drop] at he;rw[show ao+min els.length len+(q - (ao+min els.length len))=q by omega] at he;exact hcell e' he (by omega)
theorem aK.copy1' (hT:aV P Ty) {t t':TypeId} {dst src:Operand} {j:TI} {id:Id} {g0 off len m:Nat} {o:Ob} {els es':List (List I)} (hk:kd Ty t = .slice j) (hj:j.size=1) (hd:O.ev dst = .arr id g0 off len) (hl:live H id g0=some o) (ho:o.size=1)
    (hs:cy H (O.ev src)=some els) (hes:els.all (·.length == 1)=true) (h1:els.all (fun e=>e.all aE)=true) (hm:min els.length len=m) (he:copied o.els els off len=es') :
    aK P N ⟨d,.call ⟨.builtin .copy,#[dst,src],#[t,t']⟩,ty,pos,af,gu⟩ O H n (sG (int m) (H.set id ⟨1,es'⟩) n):=by
  subst hm he;exact aK.EZ hT hk hj hd hl ho hs hes h1
end
end Go.Ab
namespace Go.Ab.Vg
open Go.Proofs
theorem rep_vs (c:Ctx) (vs:List Value):b5 c (.tup (vs.map I.v)) (.tuple vs.toArray):=.tup _ _ (by simp) fun i a x ha hx=>by
  rw[List.getElem?_map] at ha;rw[hx] at ha;simp only[Option.map_some,Option.some.injEq] at ha;exact ha ▸ .v x
theorem e174:a8 prog 174:=a8.of func174 (by kernel_rfl) rfl
theorem e158:a8 prog 158:=a8.of func158 (by kernel_rfl) rfl
theorem w3 (x y:Nat) (hx:x<18446744073709551616) (hy:y<18446744073709551616):aF prog 174 [.v (.int .u64 x),.v (.int .u64 y)] (fun r=>r = .tup [.v (.int .u64 ((x * y / 18446744073709551616:Nat):Int)),.v (.int .u64 ((x * y % 18446744073709551616:Nat):Int))]):=by
  refine aF.uQ fun c xs _ r=>?_
  obtain⟨a,b,rfl,ha,hb⟩:=r.two2;rw[ha.cK,hb.cK];refine (Tryz.bits_Mul x y hx hy c.w).mono ?_;rintro e w' ⟨he,rfl⟩;exact⟨_,_,he,rfl,.tup _ (by simp),fun c'=>rep_vs c' [.int .u64 ((x * y / 18446744073709551616:Nat):Int),.int .u64 ((x * y % 18446744073709551616:Nat):Int)],Go.RowKit.Below.refl _ _⟩
theorem yv {v:Int} {N m:Nat} (hm:m<=N):copied ((List.replicate m v++List.replicate (N - m) (0:Int)).map au) ((List.replicate m v).map au) m (N - m)=(List.replicate (m+min m (N - m)) v++List.replicate (N - (m+min m (N - m))) (0:Int)).map au:=by
  simp only[copied,List.length_map,List.length_replicate,<- List.map_take,<- List.map_drop,<- List.map_append]
  congr 1
  refine List.ext_getElem (by simp;omega) fun i h1 h2=>?_
  simp only[List.getElem_append,List.getElem_take,List.getElem_drop,List.getElem_replicate,List.length_append,List.length_take,List.length_replicate]
  repeat' split
  all_goals first | rfl | omega
theorem BI (v n:Int) (h:0<=n/\n<=1048576):bL prog 158 [.list false ([v].map au),int n] (.s [.c]) (fun r=>r = .list true ((List.replicate n.toNat v).map au)):=by
  obtain⟨N,rfl⟩:∃ N:Nat,n=N:=⟨n.toNat,by omega⟩
  refine bL.of func158 rfl ntmps158 (by simp) fun Q hQ=>?_
  refine zE fun _ V=>?_
  simp;apply V;refine zS fun _ V=>?_
  simp;apply V;refine J.ite rfl (fun hc1=>?_) (fun hc1=>?_)
  · simp at hc1;omega
  clear hc1 V;apply J.skip;refine zE fun _ V=>?_
  simp;have hw:IntKind.u64.wrap (N:Int)=N:=by simp[IntKind.wrap,IntKind.bits,IntKind.signed];omega
  have hw1:IntKind.u64.wrap 1=1:=by simp[IntKind.wrap,IntKind.bits,IntKind.signed]
  have hwi:IntKind.i64.wrap (N:Int)=N:=wrap64 (by omega) (by omega);refine zA (w3 1 N (by omega) (by omega)) e174 (.cons (.v _ _ _) (.cons (.v _ _ _) .nil)) (by simp[hw,hw1]) ?_;rintro _ rfl;have hd:(N:Int) / 18446744073709551616=0:=by omega
  have hm:(N:Int) % 18446744073709551616=N:=by omega
  simp[hd,hm];apply V;refine zS fun _ V=>?_
  simp;apply V;refine J.ite rfl (fun hc1=>?_) (fun hc1=>?_)
  · simp at hc1;omega
  clear hc1 V hw1 hd hm;apply J.skip;refine zE fun _ V=>?_
  simp[hwi,show (N:Int)<=1073741824 by omega];apply V;refine J.cut (fun O H n=>O 0 = .list false [au v]/\O 7 = .arr (0,30) N 0 N/\H (0,30)=some ⟨1,(List.replicate N (0:Int)).map au⟩/\n=1) (by simp[au]) ?_;clear V hw hwi;rintro O H _ ⟨h0,h7,hH,rfl⟩;refine zE fun _ V=>?_
  simp[h0,h7];refine bq.op aw (by decide) (by decide) rfl (aK.EZ (id:=(0,30)) (g0:=N) (off:=0) (len:=N) (o:=⟨1,(List.replicate N (0:Int)).map au⟩) (els:=[v].map au) aw aP rfl (by simp[h7]) (by simp[live,hH]) rfl (by simp[cy,h0]) (by simp[au]) (by simp[au])) ?_;rintro _ H' n' ⟨rfl,rfl,rfl⟩;simp;apply V;refine J.cut (fun O H n=>∃ m:Nat,O 7 = .arr (0,30) N 0 N/\O 8=int m/\m<=N/\(m=0->N=0)/\H (0,30)=some ⟨1,(List.replicate m v++List.replicate (N - m) (0:Int)).map au⟩/\n=1) ⟨min 1 N,by simp[h7],by simp,by omega,by omega,?_,rfl⟩ ?_
  · have hc:copied (List.replicate N (au 0)) [au v] 0 N=(List.replicate (min 1 N) v++List.replicate (N - min 1 N) (0:Int)).map au:=by
      rcases Nat.eq_zero_or_pos N with h1 | h1
      · subst h1;simp[copied]
      · rw[show min 1 N=1 by omega];simp[copied,show min 1 N=1 by omega]
    simp[hc]
  clear V h0 h7 hH;rintro O H _ ⟨m,h7,h8,hm,hm0,hH,rfl⟩;apply J.seq;refine J.block (J.DI (fun q O H n=>∃ m:Nat,q=N - m/\O 7 = .arr (0,30) N 0 N/\O 8=int m/\m<=N/\(m=0->N=0)/\H (0,30)=some ⟨1,(List.replicate m v++List.replicate (N - m) (0:Int)).map au⟩/\n=1) (N - m) ⟨m,rfl,h7,h8,hm,hm0,hH,rfl⟩ ?_);clear h7 h8 hm hm0 hH;rintro q O H _ ⟨m,rfl,h7,h8,hm,hm0,hH,rfl⟩ IH;refine zS fun _ V=>?_
  have hlen:((List.replicate m v++List.replicate (N - m) (0:Int)).map au).length=N:=by simp;omega
  generalize hels:(List.replicate m v++List.replicate (N - m) (0:Int)).map au=els at hH hlen;simp[h7,h8,live,hH,hlen];apply V;refine J.ite rfl (fun hc1=>?_) (fun hc1=>?_)
  · have hc1:m<N:=by simpa using hc1
    apply J.skip;apply J.block;refine J.gx aw aH bY (by decide) (by kernel_rfl) fun _ V=>?_
    simp[h7,h8,live,hH,hlen,hm];have hmm:((m:Int)+(min m (N - m):Nat))=((m+min m (N - m):Nat):Int):=by omega
    refine bA.op aw aH (v:=int (min m (N - m):Nat)) (H':=H.set (0,30) ⟨1,(List.replicate (m+min m (N - m)) v++List.replicate (N - (m+min m (N - m))) (0:Int)).map au⟩) (n':=1) rfl (by decide) (fun h=>by cases h) ?_ ?_
    · have e2:=yv (v:=v) (N:=N) (m:=m) hm
      rw[hels] at e2;exact aK.copy1' (id:=(0,30)) (g0:=N) (off:=m) (len:=N - m) (o:=⟨1,els⟩) (els:=(List.replicate m v).map au) aw aP rfl (by rw[dK (by simp[Op.operands,Call.operands])];simp) (by simp[live,hH,hlen]) rfl
        (by rw[dK (by simp[Op.operands,Call.operands])];simp[cy,live,hH,<- hels,List.take_append,show m+(N - m)=N by omega]) (by simp[au]) (by simp[au]) (by simp) e2
    have hwr:IntKind.i64.wrap ((m:Int)+(min m (N - m):Nat))=((m+min m (N - m):Nat):Int):=by rw[hmm];exact wrap64 (by omega) (by omega)
    have hz1:0<min m (N - m):=by omega
    have hz2:m+min m (N - m)<=N:=by omega
    generalize hq:m+min m (N - m)=q at hwr hz2;generalize min m (N - m)=z at hq hwr hz1;simp[hwr];apply V;apply J.inBlock;exact IH (N - q) _ _ _ (by omega) ⟨q,rfl,by simp[h7],by simp,hz2,by omega,by simp,rfl⟩
  · have hc1:¬ m<N:=by simpa using hc1
    refine J.exit rfl ?_;refine zE fun _ V=>?_
    simp[h7];apply V;have hmN:m=N:=by omega
    subst hmN;simp at hels;exact J.bG (v:=.arr (0,30) m 0 m) func158 results158 (by simp) (hQ _ _ _ _ (Sep.ofArr (els:=els) (by simp) hH hlen (by simp) (by simp) (by simp[<- hels,au]) (by simp)) (by simp[<- hels]))
end Go.Ab.Vg
