/- Merged texts (7 of 18) of the proof that ends in Sty: Gg Gh Gi Gj Gk Gl Gx Kg Se Sd Ki Kiw Sh Ke St Sc Re. -/
import Derived.Test.YtkocdlgoncmdbaaGreatDoorAbQst6
import Derived.Laws.CopyRow
import Derived.Laws.IdiomCopy
open Go.Proofs.Tryz
set_option linter.unusedSectionVars false
set_option linter.unusedSimpArgs false
set_option linter.unusedVariables false
namespace Go.Ab
open Go.Proofs
theorem Ae {sig:cZ} {i j:Nat} (hi:i<sig.length) (hj:j<i) (h:sig[j].name=sig[i].name):newName sig i=false:=by
  have hg:sig.getD i default=sig[i]:=by simp[hi]
  have:(sig.take i).any (fun d=>d.name == sig[i].name)=true:=by
    rw[List.any_eq_true];refine⟨sig[j],?_,by simpa using h⟩;rw[List.mem_take_iff_getElem];exact⟨j,by omega,rfl⟩
  rw[newName,hg,this]
  rfl
theorem vU {sig:cZ} {i:Nat} (hi:i<sig.length) (h:∀ j (hj:j<sig.length),j<i->¬ sig[j].name=sig[i].name):newName sig i=true:=by
  have hg:sig.getD i default=sig[i]:=by simp[hi]
  have:(sig.take i).any (fun d=>d.name == sig[i].name)=false:=by
    rw[List.any_eq_false];intro d hd;rw[List.mem_take_iff_getElem] at hd;obtain⟨j,hj,rfl⟩:=hd;have:=h j (by omega) (by omega);simpa using this
  rw[newName,hg,this]
  rfl
theorem D7 (sig:cZ) (hl:sig.length<=1048576) (hs:∀ c ∈ sig,c.name.length<=1048576):aC prog 75 [bF false sig] (fun r=>r=bool (fE sig)):=by
  refine aC.of func75 rfl ntmps75 (by simp) fun Q hQ=>?_
  refine zE fun k' V=>?_
  simp [bF];apply V;refine zS fun k' V=>?_
  simp;apply V;have bad:∀ k,k<sig.length->ig sig k=false->∀ H n,Q (bool false) H n:=fun k hk hb H n=>hQ _ _ _ _ (.v _ _ _) (by rw[gW,dP hk hb,Bool.and_false])
  refine J.block (J.bO sig.length (fun k O H n=>O 0 = .list false (sig.map Control.cells)/\O 3=int k/\∀ i,i<k->ig sig i=true) ?_ ?_)
  · simp
  · rintro k O H n hk ⟨h0,h3,hall⟩ IH
    refine zS fun k' V=>?_
    simp [h0, h3];apply V;refine J.ite rfl (fun hc1 => ?_) (fun hc1 => ?_)
    · have hc1:k<sig.length:=by simpa using hc1
      have hgk:sig.getD k default=sig[k]:=by simp[hc1]
      apply zK;apply J.block;refine zS fun k' V=>?_
      have fin:∀ O:Env,O 0 = .list false (sig.map Control.cells)->O 3=int k->O 35=bool (!cV sig[k])->J prog 75 55 k' O H n Q:=by
        intro O h0 h3 h35;apply V;refine J.ite h35 (fun hc2 => ?_) (fun hc2 => ?_)
        · have hb:cV sig[k]=false:=by simpa using hc2
          refine zE fun k' V=>?_
          simp;apply V;exact J.ret func75 (aR.one results75) (bad k hc1 (by rw[ig,hgk,hb,Bool.false_and]) _ _)
        · have hb:cV sig[k]=true:=by simpa using hc2
          apply J.skip;refine zE fun k' V=>?_
          simp;apply V;refine J.block (J.bO k (fun j O H n=>O 0 = .list false (sig.map Control.cells)/\O 3=int k/\O 4=int j/\∀ q (hq:q<sig.length),q<j->¬ sig[q].name=sig[k].name) ?_ ?_)
          · simp[h0,h3]
          · rintro j O H n hj ⟨h0,h3,h4,hno⟩ IH2
            refine zS fun k' V=>?_
            simp [h3, h4];apply V;refine J.ite rfl (fun hc3 => ?_) (fun hc3 => ?_)
            · have hc3:j<k:=by simpa using hc3
              have hjl:j<sig.length:=by omega
              apply zK;apply J.block;refine J.cO ay aA bq (by decide) (by kernel_rfl) fun k' V=>?_
              simp [h0, h3, h4, hc1, hjl, Control.cells];apply V;refine J.ite rfl (fun hc4 => ?_) (fun hc4 => ?_)
              · have hc4:sig[j].name=sig[k].name:=by simpa using hc4
                refine zE fun k' V=>?_
                simp;apply V;exact J.ret func75 (aR.one results75) (bad k hc1 (by rw[ig,Ae hc1 hc3 hc4,Bool.and_false]) _ _)
              · have hc4:¬ sig[j].name=sig[k].name:=by simpa using hc4
                apply J.skip;refine zI fun k' V=>?_
                simp [h4, bm (show j < 4611686018427387904 by omega)];apply V;refine IH2 hc3 _ _ _ ⟨by simp[h0,Control.cells],by simp[h3],by simp,fun q hq hqj=>?_⟩;rcases Nat.lt_or_ge q j with h | h
                · exact hno q hq h
                · have:q=j:=by omega
                  subst this;exact hc4
            · have hc3:¬ j<k:=by simpa using hc3
              have hje:j=k:=by omega
              subst hje;refine J.exit rfl ?_;refine zI fun k' V=>?_
              simp [h3, bm (show j < 4611686018427387904 by omega)];apply V;refine IH hc1 _ _ _ ⟨by simp[h0],by simp,fun i hi=>?_⟩;rcases Nat.lt_or_ge i j with h | h
              · exact hall i h
              · rw[show i=j by omega,ig,hgk,hb,vU hc1 hno]
                rfl
      simp [h0, h3, hc1, Control.cells];refine zA (sV sig[k].name (Nat.le_trans (hs _ (List.getElem_mem hc1)) (by decide))) e127 (.cons (.v _ _ _) .nil) (by simp) ?_;rintro _ rfl;cases hnm:nO sig[k].name
      · simp[guardOf]
        exact fin _ (by simp[h0,Control.cells]) (by simp[h3]) (by simp only[cV,hnm];simp)
      · simp[h0,h3,hc1,Control.cells,guardOf]
        refine zA (et sig[k].ports 0 3) Bo (.cons (.v _ _ _) (.cons (.v _ _ _) (.cons (.v _ _ _) .nil))) (by simp) ?_;rintro _ rfl;cases hpo:within sig[k].ports 0 3
        · simp[guardOf]
          exact fin _ (by simp[h0,Control.cells]) (by simp[h3]) (by simp only[cV,hnm,hpo];simp)
        · simp[h0,h3,hc1,Control.cells,guardOf]
          refine zA (et sig[k].kind 0 2) Bo (.cons (.v _ _ _) (.cons (.v _ _ _) (.cons (.v _ _ _) .nil))) (by simp) ?_;rintro _ rfl;simp[guardOf];exact fin _ (by simp[h0,Control.cells]) (by simp[h3]) (by simp only[cV,hnm,hpo];simp)
    · have hc1:¬ k<sig.length:=by simpa using hc1
      have hke:k=sig.length:=by omega
      subst hke;refine J.exit rfl ?_;refine zE fun k' V=>?_
      simp [h0];refine zA (et sig.length 1 6) Bo (.cons (.v _ _ _) (.cons (.v _ _ _) (.cons (.v _ _ _) .nil))) (by simp) ?_;rintro _ rfl;simp;apply V;exact J.ret func75 (aR.one results75) (hQ _ _ _ _ (.v _ _ _) (by rw[gW,dO hall,Bool.and_true]))
end Go.Ab
namespace Go.Ab
open Go.Proofs
theorem e40:a8 prog 40:=a8.of func40 (by kernel_rfl) rfl
theorem e95:a8 prog 95:=a8.of func95 (by kernel_rfl) rfl
theorem e97:a8 prog 97:=a8.of func97 (by kernel_rfl) rfl
theorem e99:a8 prog 99:=a8.of func99 (by kernel_rfl) rfl
structure dI (sig:cZ) (b:I):Prop where
  sigLen:sig.length<=1048576
  sigNames:∀ c ∈ sig,c.name.length<=1048576
  nodesLen:b.nodes.length<=1048576
  sitesLen:b.sites.length<=1048576
  outerLen:b.outer.length<=1048576
  innerLen:b.inner.length<=1048576
  outerNames:∀ s ∈ b.outer,s.length<=1048576
  innerNames:∀ w ∈ b.inner,w.name.length<=1048576
  linksLen:∀ x ∈ b.nodes,x.links.length<=1048576
  parents:∀ x ∈ b.nodes,bB x.parent
  sites64:∀ p ∈ b.sites,bB p
theorem clos76 {H:ax} {n:Nat} {X:Id} (b:I) (he:0<=b.edges/\b.edges<=8) (ho:b.outer.length<=1048576) (hX:H X=some ⟨6,[b.cells false]⟩) (l:Int):fP prog H n (.fn (.func 95) [] [.ptr X 1 0 0]) [int l] (fun r=>r=bool (!dp b l)):=by
  refine⟨95,[],[.ptr X 1 0 0],rfl,e95,?_⟩;have hX':=hX;simp only[I.cells] at hX';refine cB.of func95 rfl ntmps95 (by simp) fun Q hB hQ=>?_
  refine zE fun _ V=>?_
  simp;apply V;refine zE fun _ V=>?_
  simp [hX'];refine zA (tE b l he ho) e96 (.cons (aJ.cI false b) (.cons (.v _ _ _) .nil)) (by simp[cI,I.cells]) ?_;rintro _ rfl;simp;apply V;exact J.ret func95 (aR.one results95) (hQ _ _ _ _ (.p8 (.v _)) (Frame.refl _ _) (by simp))
theorem clos80 {H:ax} {n:Nat} {X:Id} (b:I) (he:0<=b.edges/\b.edges<=8) (ho:b.outer.length<=1048576) (hX:H X=some ⟨6,[b.cells false]⟩) (w:aQ):fP prog H n (.fn (.func 99) [] [.ptr X 1 0 0]) [.agg w.cells] (fun r=>r=bool (!dp b w.link)):=by
  refine⟨99,[],[.ptr X 1 0 0],rfl,e99,?_⟩;have hX':=hX;simp only[I.cells] at hX';refine cB.of func99 rfl ntmps99 (by simp) fun Q hB hQ=>?_
  have hXn:=(hB X _ hX).1;have hX2:¬ X=(n,2):=by rintro rfl;simp at hXn
  refine zE fun _ V=>?_
  simp [aQ.cells];apply V;refine zE fun _ V=>?_
  simp [hX2, hX'];refine zA (tE b w.link he ho) e96 (.cons (aJ.cI false b) (.cons (.v _ _ _) .nil)) (by simp[cI,I.cells]) ?_;rintro _ rfl;simp;apply V;exact J.ret func99 (aR.one results99) (hQ _ _ _ _ (.p8 (.v _)) (Frame.set (by simp) (Frame.refl _ _)) (by simp))
theorem clos78 {H:ax} {n:Nat} {X ak:Id} (sig:cZ) (b:I) (hr:0<=b.roots/\b.roots<=4) (hc:o9 sig b b.nodes.length) (hX:H X=some ⟨6,[b.cells false]⟩) (hY:H ak=some ⟨1,[[bF false sig]]⟩) (p:Int) :
    fP prog H n (.fn (.func 97) [] [.ptr X 1 0 0,.ptr ak 1 0 0]) [int p] (fun r=>r=bool (!b4 sig b p b.nodes.length)):=by
  refine⟨97,[],[.ptr X 1 0 0,.ptr ak 1 0 0],rfl,e97,?_⟩;have hX':=hX;simp only[I.cells,aB] at hX';have hY':=hY;simp only[bF] at hY';refine cB.of func97 rfl ntmps97 (by simp) fun Q hB hQ=>?_
  refine zE fun _ V=>?_
  simp;apply V;refine zE fun _ V=>?_
  simp [hX', hY'];refine zA (pD sig b p b.nodes.length hr (Nat.le_refl _) hc) e93 (.cons (aJ.cI false b) (.cons (aJ.bF false sig) (.cons (.v _ _ _) (.cons (.v _ _ _) .nil)))) (by simp[cI,I.cells,aB,bF]) ?_;rintro _ rfl;simp;apply V;exact J.ret func97 (aR.one results97) (hQ _ _ _ _ (.p8 (.v _)) (Frame.refl _ _) (by simp))
theorem wu {sig:cZ} {b:I} {k:Nat} (h:cr sig b k=true) (hk:o9 sig b k):o9 sig b (k+1):=by
  intro i hi;rcases Nat.lt_or_ge i k with h1 | h1
  · exact hk i h1
  · have:i=k:=by omega
    subst this;simp only[cr,within,Bool.and_eq_true,decide_eq_true_eq] at h;omega
def dL (sig:cZ) (b:I):Bool:=
  fE sig && within b.roots 0 4 && decide (b.nodes.length<=8) && decide (b.sites.length<=4) && within b.edges 0 8 && cT b.outer && cT (names b)
theorem eI (sig:cZ) (b:I):gU sig b=(dL sig b && (List.range b.nodes.length).all (cr sig b) && b.sites.all (fun p=>b4 sig b p b.nodes.length) && b.inner.all (fun w=>dp b w.link)):=rfl
theorem vb {α:Type} (l:List α) (p:α->Bool):(l.any fun x => !p x) = !l.all p:=by
  induction l with
  | nil=>rfl
  | cons a l ih=>simp[ih]
theorem uD (sig:cZ) (b:I) (hs:dI sig b):aC prog 40 [bF false sig,cI false b] (fun r=>r=bool (gU sig b)):=by
  obtain⟨s1,s2,s3,s4,s5,s6,s7,s8,s9,_,_⟩:=hs;have hnl:(names b).length<=1048576:=by simpa[names] using s6
  have hnn:∀ s ∈ names b,s.length<=1048576:=by
    intro s hs;obtain⟨w,hw,rfl⟩:=List.mem_map.1 hs;exact s8 w hw
  refine aC.of func40 rfl ntmps40 (by simp) fun Q hQ=>?_
  refine zE fun k' V=>?_
  simp [bF, cI, I.cells];apply V;refine J.cut (fun O H n=>O 2 = .ptr (0,2) 1 0 0/\O 3 = .ptr (1,3) 1 0 0/\H (0,2)=some ⟨1,[[bF false sig]]⟩/\H (1,3)=some ⟨6,[b.cells false]⟩) ⟨by simp,by simp,by simp[bF],by simp[I.cells]⟩ ?_;clear V;rintro O H n ⟨h2,h3,hm2,hm3⟩;have hm2':=hm2;simp only[bF] at hm2';have hm3':=hm3;simp only[I.cells,aB,encI,encS,aD] at hm3';refine zS fun k' V=>?_
  have fin:∀ O:Env,O 2 = .ptr (0,2) 1 0 0->O 3 = .ptr (1,3) 1 0 0->O 45=bool (!dL sig b)->J prog 40 101 k' O H n Q:=by
    intro O h2 h3 h45;apply V;refine J.ite h45 (fun hc1 => ?_) (fun hc1 => ?_)
    · have hb:dL sig b=false:=by simpa using hc1
      refine zE fun k' V=>?_
      simp;apply V;exact J.ret func40 (aR.one results40) (hQ _ _ _ _ (.v _ _ _) (by rw[eI,hb];rfl))
    · have hb:dL sig b=true:=by simpa using hc1
      have hb':=hb;simp only[dL,within,Bool.and_eq_true,decide_eq_true_eq] at hb';obtain⟨⟨⟨⟨⟨⟨_,hr⟩,hn8⟩,_⟩,hed⟩,_⟩,_⟩:=hb';apply J.skip;refine zS fun k' V=>?_
      simp [h3, hm3'];apply V;refine J.block (J.bO b.nodes.length (fun k O H n=>O 2 = .ptr (0,2) 1 0 0/\O 3 = .ptr (1,3) 1 0 0/\O 47 = .list false (b.nodes.map (az.cells false))/\O 48=int b.nodes.length/\O 49=int k /\
        H (0,2)=some ⟨1,[[bF false sig]]⟩/\H (1,3)=some ⟨6,[b.cells false]⟩/\o9 sig b k/\(∀ i,i<k->cr sig b i=true)) ?_ ?_)
      · exact⟨by simp[h2],by simp[h3],by simp,by simp,by simp,hm2,hm3,fun i hi=>by omega,fun i hi=>by omega⟩
      · clear h2 h3 hm2' hm3'
        rintro k O H n hk ⟨h2,h3,h47,h48,h49,hm2,hm3,hctl,hall⟩ IH;have hm2':=hm2;simp only[bF] at hm2';have hm3':=hm3;simp only[I.cells,aB,encI,encS,aD] at hm3';refine zE fun k' V=>?_
        simp [h48, h49];apply V;apply J.seq;refine J.ite rfl (fun hc2 => ?_) (fun hc2 => ?_)
        · have hc2:k<b.nodes.length:=by simpa using hc2
          have hgk:b.nodes.getD k default=b.nodes[k]:=by simp[hc2]
          apply zK;apply J.block;refine zE fun k' V=>?_
          simp [h47, h49, hc2, az.cells];apply V;refine J.cut (fun O H m=>O 2 = .ptr (0,2) 1 0 0/\O 3 = .ptr (1,3) 1 0 0/\O 47 = .list false (b.nodes.map (az.cells false))/\O 48=int b.nodes.length/\O 49=int k/\O 5=int k/\O 6 = .ptr (n,6) 1 0 0 /\
            H (0,2)=some ⟨1,[[bF false sig]]⟩/\H (1,3)=some ⟨6,[b.cells false]⟩/\H (n,6)=some ⟨3,[b.nodes[k].cells false]⟩/\m=n+1) ?_ ?_
          · exact⟨by simp[h2],by simp[h3],by simp[h47],by simp[h48],by simp[h49],by simp,by simp,by simp[hm2],by simp[hm3],by simp[az.cells],rfl⟩
          clear V h2 h3 h47 h48 h49 hm2 hm3 hm2' hm3';rintro O H m ⟨h2,h3,h47,h48,h49,h5,h6,hm2,hm3,hm6,rfl⟩;have hm2':=hm2;simp only[bF] at hm2';have hm3':=hm3;simp only[I.cells,aB,encI,encS,aD] at hm3';have hm6':=hm6;simp only[az.cells] at hm6';refine J.cO ay aA bq (by decide) (by kernel_rfl) fun k' V=>?_
          have fin:∀ O:Env,O 2 = .ptr (0,2) 1 0 0->O 3 = .ptr (1,3) 1 0 0->O 47 = .list false (b.nodes.map (az.cells false))->O 48=int b.nodes.length->O 49=int k->O 87=bool (!cr sig b k)->J prog 40 101 k' O H (n+1) Q:=by
            intro O h2 h3 h47 h48 h49 h87;apply V;refine J.ite h87 (fun hc3 => ?_) (fun hc3 => ?_)
            · have hb:cr sig b k=false:=by simpa using hc3
              refine zE fun k' V=>?_
              simp;apply V;exact J.ret func40 (aR.one results40) (hQ _ _ _ _ (.v _ _ _) (by rw[eI,dP hc2 hb,Bool.and_false];rfl))
            · have hb:cr sig b k=true:=by simpa using hc3
              apply J.skip;refine zI fun k' V=>?_
              simp [h49, bm (show k < 4611686018427387904 by omega)];apply V;refine IH hc2 _ _ _ ⟨by simp[h2],by simp[h3],by simp[h47],by simp[h48],by simp,hm2,hm3,wu hb hctl,fun i hi=>?_⟩;rcases Nat.lt_or_ge i k with h | h
              · exact hall i h
              · rw[show i=k by omega];exact hb
          have hw:IntKind.i64.wrap ((sig.length:Int) - 1)=(sig.length:Int) - 1:=by rw[wrap64]<;>omega
          simp [h2, h6, hm2', hm6', hw];refine bf.bN ay aA (db b.nodes[k].control 0 ((sig.length:Int) - 1)) Dg (.cons (.v _ _ _) (.cons (.v _ _ _) (.cons (.v _ _ _) .nil))) (by decide) rfl (by simp) ?_;cases q1:within b.nodes[k].control 0 ((sig.length:Int) - 1)
          · simp[guardOf]
            exact fin _ (by simp[h2]) (by simp[h3]) (by simp[h47]) (by simp[h48]) (by simp[h49]) (by simp only[cr,hgk,q1];simp)
          simp[h2,h3,h5,h6,hm2',hm3',hm6',guardOf];refine bf.bN ay aA (pD sig b b.nodes[k].parent k hr (by omega) hctl) e93 (.cons (aJ.cI false b) (.cons (aJ.bF false sig) (.cons (.v _ _ _) (.cons (.v _ _ _) .nil)))) (by decide) rfl (by simp[cI,I.cells,aB,encI,encS,aD,bF]) ?_;cases q2:b4 sig b b.nodes[k].parent k
          · simp[guardOf]
            exact fin _ (by simp[h2]) (by simp[h3]) (by simp[h47]) (by simp[h48]) (by simp[h49]) (by simp only[cr,hgk,q2];simp)
          have q1':=q1;simp only[within,Bool.and_eq_true,decide_eq_true_eq] at q1';obtain⟨c,hc⟩:∃ c:Nat,b.nodes[k].control=c:=⟨b.nodes[k].control.toNat,by omega⟩
          have hcl:c<sig.length:=by omega
          have q1c:=q1;rw[hc] at q1c;have hgc:sig.getD c default=sig[c]:=by simp[hcl]
          by_cases q3:(b.nodes[k].links.length:Int)=sig[c].ports
          · have q3':((b.nodes[k].links.length:Int) != sig[c].ports)=false:=by simpa using q3
            simp[h2,h3,h6,hm2',hm6',hc,hcl,q3',Control.cells,guardOf];refine bf.iX ay aA (jc false b.nodes[k].links (fun l => !dp b l) (s9 _ (List.getElem_mem hc2)) (fun l _=>clos76 b hed s5 hm3 l)) e94 (by decide) rfl (by simp) ?_;simp;refine fin _ (by simp[h2]) (by simp[h3]) (by simp[h47]) (by simp[h48]) (by simp[h49]) ?_;simp only[cr,hgk,q1c,q2,hc,Int.toNat_natCast,hgc,q3,vb];simp
          · have q3':((b.nodes[k].links.length:Int) != sig[c].ports)=true:=by simpa using q3
            simp[h2,h3,h6,hm2',hm6',hc,hcl,q3',Control.cells,guardOf];exact fin _ (by simp[h2]) (by simp[h3]) (by simp[h47]) (by simp[h48]) (by simp[h49]) (by simp only[cr,hgk,q1c,q2,hc,Int.toNat_natCast,hgc,q3];simp)
        · have hc2:¬ k<b.nodes.length:=by simpa using hc2
          have hke:k=b.nodes.length:=by omega
          subst hke;have hnodes:=dO hall;refine J.exit rfl ?_;refine zE fun k' V=>?_
          simp [h2, h3, hm3'];refine bz.iX ay (jc false b.sites (fun p => !b4 sig b p b.nodes.length) s4 (fun p _=>clos78 sig b hr hctl hm3 hm2 p)) e94 (by decide) (by decide) rfl (by simp) ?_;rintro _ rfl;rw[vb];cases r1:b.sites.all (fun p=>b4 sig b p b.nodes.length)
          · simp[guardOf]
            apply V;exact J.ret func40 (aR.one results40) (hQ _ _ _ _ (.v _ _ _) (by rw[eI,r1];simp))
          · simp[h3,hm3',guardOf]
            refine bz.iX ay (oP false b.inner (fun w => !dp b w.link) s6 (fun w _=>clos80 b hed s5 hm3 w)) e98 (by decide) (by decide) rfl (by simp) ?_;rintro _ rfl;rw[vb];simp;apply V;exact J.ret func40 (aR.one results40) (hQ _ _ _ _ (.v _ _ _) (by rw[eI,hb,hnodes,r1];simp))
  simp [h2, hm2'];refine zA (qX sig s1 s2) e89 (.cons (aJ.bF false sig) .nil) (by simp[bF]) ?_;rintro _ rfl;cases p1:fE sig
  · simp[guardOf]
    exact fin _ (by simp[h2]) (by simp[h3]) (by simp only[dL,p1];simp)
  simp[h3,hm3',guardOf];refine zA (db b.roots 0 4) Dg (.cons (.v _ _ _) (.cons (.v _ _ _) (.cons (.v _ _ _) .nil))) (by simp) ?_;rintro _ rfl;cases p2:within b.roots 0 4
  · simp[guardOf]
    exact fin _ (by simp[h2]) (by simp[h3]) (by simp only[dL,p2];simp)
  by_cases p3:(8:Int)<b.nodes.length
  · simp[h3,hm3',p3,guardOf]
    exact fin _ (by simp[h2]) (by simp[h3]) (by simp only[dL,show ¬ b.nodes.length<=8 by omega];simp)
  by_cases p4:(4:Int)<b.sites.length
  · simp[h3,hm3',p3,p4,guardOf]
    exact fin _ (by simp[h2]) (by simp[h3]) (by simp only[dL,show ¬ b.sites.length<=4 by omega];simp)
  simp[h3,hm3',p3,p4,guardOf];refine zA (db b.edges 0 8) Dg (.cons (.v _ _ _) (.cons (.v _ _ _) (.cons (.v _ _ _) .nil))) (by simp) ?_;rintro _ rfl;cases p5:within b.edges 0 8
  · simp[guardOf]
    exact fin _ (by simp[h2]) (by simp[h3]) (by simp only[dL,p5];simp)
  simp[h3,hm3',guardOf];refine zA (pr b.outer s5 s7) e91 (.cons (aJ.encS false b.outer) .nil) (by simp[encS]) ?_;rintro _ rfl;cases p6:cT b.outer
  · simp[guardOf]
    exact fin _ (by simp[h2]) (by simp[h3]) (by simp only[dL,p6];simp)
  simp[h3,hm3',guardOf];refine zA (sM b s6) e92 (.cons (aJ.cI false b) .nil) (by simp[cI,I.cells,aB,encI,encS,aD]) ?_;rintro _ rfl;simp;refine zA (pr (names b) hnl hnn) e91 (.cons (aJ.encS true (names b)) .nil) (by simp[encS]) ?_;rintro _ rfl;simp;exact fin _ (by simp[h2]) (by simp[h3]) (by simp only[dL,p1,p2,p5,p6,show b.nodes.length<=8 by omega,show b.sites.length<=4 by omega];simp)
end Go.Ab
namespace Go.Ab
open Go.Proofs
theorem e32:a8 prog 32:=a8.of func32 (by kernel_rfl) rfl
theorem e79:a8 prog 79:=a8.of func79 (by kernel_rfl) rfl
theorem uW {α:Type} {l:List α} {p:α->Bool} {k:Nat} (hk:k<l.length) (h:p l[k]=false):l.all p=false:=by
  rw[List.all_eq_false];exact⟨l[k],List.getElem_mem hk,by simp[h]⟩
theorem vg {α:Type} {l:List α} {p:α->Bool} (h:∀ i (hi:i<l.length),p l[i]=true):l.all p=true:=by
  rw[List.all_eq_true];intro x hx;obtain⟨i,hi,rfl⟩:=List.getElem_of_mem hx;exact h i hi
theorem A4 (sig:cZ) (b:I) (hs:dI sig b) (k:Nat) (hk:k<b.nodes.length) (hr:0<=b.roots/\b.roots<=4) (he:0<=b.edges/\b.edges<=8) (hctl:o9 sig b k) :
    aC prog 79 [bF false sig,cI false b,int k] (fun r=>r=bool (cr sig b k)):=by
  have hgk:b.nodes.getD k default=b.nodes[k]:=by simp[hk]
  have hll:=hs.linksLen _ (List.getElem_mem hk);have hpar:=hs.parents _ (List.getElem_mem hk);have hol:=hs.outerLen;have hsl:=hs.sigLen;refine aC.of func79 rfl ntmps79 (by simp) fun Q hQ=>?_
  refine zE fun k' V=>?_
  simp [bF, cI, I.cells];apply V;refine zE fun k' V=>?_
  simp [aB, hk, az.cells];apply V;refine J.cut (fun O H n=>O 0 = .list false (sig.map Control.cells)/\O 2=int k/\O 4 = .ptr (0,4) 1 0 0/\O 7 = .ptr (1,7) 1 0 0/\H (0,4)=some ⟨6,[b.cells false]⟩/\H (1,7)=some ⟨3,[b.nodes[k].cells false]⟩) ⟨by simp,by simp,by simp,by simp,by simp[I.cells,aB,az.cells],by simp[az.cells]⟩ ?_;clear V;rintro O H n ⟨h0,h2,h4,h7,hm4,hm7⟩;have hm4':=hm4;simp only[I.cells,aB,encI,encS,aD] at hm4';have hm7':=hm7;simp only[az.cells] at hm7';apply J.seq;refine J.cO ay aA bq (by decide) (by kernel_rfl) fun k' V=>?_
  have fin:∀ (O:Env) (pre:Bool),O 4 = .ptr (0,4) 1 0 0->O 7 = .ptr (1,7) 1 0 0->O 41=bool (!pre)->cr sig b k=(pre && b.nodes[k].links.all (dp b))->J prog 79 57 k' O H n Q:=by
    intro O pre h4 h7 h41 hpre;apply V;refine J.ite h41 (fun hc1 => ?_) (fun hc1 => ?_)
    · have hb:pre=false:=by simpa using hc1
      refine zE fun k' V=>?_
      simp;apply V;exact J.ret func79 (aR.one results79) (hQ _ _ _ _ (.v _ _ _) (by rw[hpre,hb];rfl))
    · have hb:pre=true:=by simpa using hc1
      rw[hb,Bool.true_and] at hpre;apply J.skip;refine zS fun k' V=>?_
      simp;apply V;refine J.block (J.bO b.nodes[k].links.length (fun j ρ' H' n'=>ρ' 4 = .ptr (0,4) 1 0 0/\ρ' 7 = .ptr (1,7) 1 0 0/\ρ' 8=int j/\H'=H/\n'=n/\∀ i (hi:i<b.nodes[k].links.length),i<j->dp b b.nodes[k].links[i]=true) ?_ ?_)
      · exact⟨by simp[h4],by simp[h7],by simp,rfl,rfl,fun i hi h=>by omega⟩
      · clear h4 h7
        rintro j O H' n' hj ⟨h4,h7,h8,rfl,rfl,hall⟩ IH;refine zS fun k' V=>?_
        simp [h7, h8, hm7'];apply V;refine J.ite rfl (fun hc2 => ?_) (fun hc2 => ?_)
        · have hc2:j<b.nodes[k].links.length:=by simpa using hc2
          apply zK;apply J.block;refine J.cO ay aA bq (by decide) (by kernel_rfl) fun k' V=>?_
          simp [h4, h7, h8, hm4', hm7', hc2, av];refine bf.bN ay aA (tt b b.nodes[k].links[j] he hol) e81 (.cons (aJ.cI false b) (.cons (.v _ _ _) .nil)) (by decide) rfl (by simp[cI,I.cells,aB,encI,encS,aD,av]) ?_;simp;apply V;refine J.ite rfl (fun hc3 => ?_) (fun hc3 => ?_)
          · have hb3:dp b b.nodes[k].links[j]=false:=by simpa using hc3
            refine zE fun k' V=>?_
            simp;apply V;exact J.ret func79 (aR.one results79) (hQ _ _ _ _ (.v _ _ _) (by rw[hpre,uW hc2 hb3]))
          · have hb3:dp b b.nodes[k].links[j]=true:=by simpa using hc3
            apply J.skip;refine zI fun k' V=>?_
            simp [h8, bm (show j < 4611686018427387904 by omega)];apply V;refine IH hc2 _ _ _ ⟨by simp[h4],by simp[h7],by simp,rfl,rfl,fun i hi hij=>?_⟩;rcases Nat.lt_or_ge i j with h | h
            · exact hall i hi h
            · have:i=j:=by omega
              subst this;exact hb3
        · have hc2:¬ j<b.nodes[k].links.length:=by simpa using hc2
          have hje:j=b.nodes[k].links.length:=by omega
          subst hje;refine J.exit rfl ?_;refine zE fun k' V=>?_
          simp;apply V;exact J.ret func79 (aR.one results79) (hQ _ _ _ _ (.v _ _ _) (by rw[hpre,vg fun i hi=>hall i hi hi]))
  have hw:IntKind.i64.wrap ((sig.length:Int) - 1)=(sig.length:Int) - 1:=by rw[wrap64]<;>omega
  simp [h0, h7, hm7', hw];refine bf.bN ay aA (et b.nodes[k].control 0 ((sig.length:Int) - 1)) Bo (.cons (.v _ _ _) (.cons (.v _ _ _) (.cons (.v _ _ _) .nil))) (by decide) rfl (by simp) ?_;cases q1:within b.nodes[k].control 0 ((sig.length:Int) - 1)
  · simp[guardOf]
    exact fin _ false (by simp[h4]) (by simp[h7]) (by simp) (by simp only[cr,hgk,q1];simp)
  simp[h0,h2,h4,h7,hm4',hm7',guardOf];refine bf.bN ay aA (qL sig b b.nodes[k].parent k hpar hr (by omega) hctl) e80 (.cons (aJ.bF false sig) (.cons (aJ.cI false b) (.cons (.v _ _ _) (.cons (.v _ _ _) .nil)))) (by decide) rfl (by simp[cI,I.cells,aB,encI,encS,aD,bF]) ?_;cases q2:b4 sig b b.nodes[k].parent k
  · simp[guardOf]
    exact fin _ false (by simp[h4]) (by simp[h7]) (by simp) (by simp only[cr,hgk,q2];simp)
  have q1':=q1;simp only[within,Bool.and_eq_true,decide_eq_true_eq] at q1';obtain⟨c,hc⟩:∃ c:Nat,b.nodes[k].control=c:=⟨b.nodes[k].control.toNat,by omega⟩
  have hcl:c<sig.length:=by omega
  have q1c:=q1;rw[hc] at q1c;have hgc:sig.getD c default=sig[c]:=by simp[hcl]
  by_cases q3:(b.nodes[k].links.length:Int)=sig[c].ports
  · have q3':((b.nodes[k].links.length:Int) != sig[c].ports)=false:=by simpa using q3
    simp[h0,h7,hm7',hc,hcl,q3',Control.cells,guardOf];exact fin _ true (by simp[h4]) (by simp[h7]) (by simp) (by simp only[cr,hgk,q1c,q2,hc,Int.toNat_natCast,hgc,q3];simp)
  · have q3':((b.nodes[k].links.length:Int) != sig[c].ports)=true:=by simpa using q3
    simp[h0,h7,hm7',hc,hcl,q3',Control.cells,guardOf];exact fin _ false (by simp[h4]) (by simp[h7]) (by simp) (by simp only[cr,hgk,q1c,q2,hc,Int.toNat_natCast,hgc,q3];simp)
end Go.Ab
namespace Go.Ab
open Go.Proofs
theorem Ah {sig:cZ} {b:I} {k:Nat} (h:∀ i,i<k->cr sig b i=true):o9 sig b k:=by
  induction k with
  | zero=>intro i hi;omega
  | succ k ih=>exact wu (h k (by omega)) (ih fun i hi=>h i (by omega))
def qB (sig:cZ) (b:I):Bool:=fE sig && within b.roots 0 4 && decide (b.nodes.length<=8) && decide (b.sites.length<=4) && within b.edges 0 8
def wP (b:I):Bool:=cT b.outer && cT (names b)
theorem mh (sig:cZ) (b:I):dL sig b=(qB sig b && wP b):=by
  simp only[dL,qB,wP,Bool.and_assoc]
theorem Bw (sig:cZ) (b:I) (hs:dI sig b):aC prog 32 [bF false sig,cI false b] (fun r=>r=bool (gU sig b)):=by
  obtain⟨s1,s2,s3,s4,s5,s6,s7,s8,s9,s10,s11⟩:=id hs;have hnl:(names b).length<=1048576:=by simpa[names] using s6
  have hnn:∀ s ∈ names b,s.length<=1048576:=by
    intro s hs;obtain⟨w,hw,rfl⟩:=List.mem_map.1 hs;exact s8 w hw
  refine aC.of func32 rfl ntmps32 (by simp) fun Q hQ=>?_
  have no:gU sig b=false->∀ H n,Q (bool false) H n:=fun h H n=>hQ _ _ _ _ (.v _ _ _) (by rw[h])
  refine zE fun k' V=>?_
  simp [bF, cI, I.cells];apply V;refine J.cut (fun O H n=>O 0 = .list false (sig.map Control.cells)/\O 3 = .ptr (0,3) 1 0 0/\H (0,3)=some ⟨6,[b.cells false]⟩) ⟨by simp,by simp,by simp[I.cells]⟩ ?_;clear V;rintro O H n ⟨h0,h3,hm3⟩;have hm3':=hm3;simp only[I.cells,aB,encI,encS,aD] at hm3';refine zS fun k' V=>?_
  have fin:∀ O:Env,O 0 = .list false (sig.map Control.cells)->O 3 = .ptr (0,3) 1 0 0->O 34=bool (!qB sig b)->J prog 32 98 k' O H n Q:=by
    clear h0 h3;intro O h0 h3 h34;apply V;refine J.ite h34 (fun hc1 => ?_) (fun hc1 => ?_)
    · have hb:qB sig b=false:=by simpa using hc1
      refine zE fun k' V=>?_
      simp;apply V;exact J.ret func32 (aR.one results32) (no (by rw[eI,mh,hb];rfl) _ _)
    · have hb1:qB sig b=true:=by simpa using hc1
      have hb':=hb1;simp only[qB,within,Bool.and_eq_true,decide_eq_true_eq] at hb';obtain⟨⟨⟨⟨_,hr⟩,hn8⟩,_⟩,hed⟩:=hb';apply J.skip;refine zS fun k' V=>?_
      have fin2:∀ O:Env,O 0 = .list false (sig.map Control.cells)->O 3 = .ptr (0,3) 1 0 0->O 50=bool (!wP b)->J prog 32 98 k' O H n Q:=by
        clear h0 h3;intro O h0 h3 h50;apply V;refine J.ite h50 (fun hc1 => ?_) (fun hc1 => ?_)
        · have hb:wP b=false:=by simpa using hc1
          refine zE fun k' V=>?_
          simp;apply V;exact J.ret func32 (aR.one results32) (no (by rw[eI,mh,hb,Bool.and_false];rfl) _ _)
        · have hb2:wP b=true:=by simpa using hc1
          have hpre:dL sig b=true:=by rw[mh,hb1,hb2];rfl
          apply J.skip;refine zS fun k' V=>?_
          simp;apply V;refine J.block (J.bO b.nodes.length (fun k ρ' H' n'=>ρ' 0 = .list false (sig.map Control.cells)/\ρ' 3 = .ptr (0,3) 1 0 0/\ρ' 5=int k/\H'=H/\n'=n/\∀ i,i<k->cr sig b i=true) ?_ ?_)
          · exact⟨by simp[h0],by simp[h3],by simp,rfl,rfl,fun i hi=>by omega⟩
          · clear h0 h3
            rintro k O H' n' hk ⟨h0,h3,h5,rfl,rfl,hall⟩ IH;refine zS fun k' V=>?_
            simp [h3, h5, hm3'];apply V;refine J.ite rfl (fun hc2 => ?_) (fun hc2 => ?_)
            · have hc2:k<b.nodes.length:=by simpa using hc2
              apply zK;apply J.block;refine zE fun k' V=>?_
              simp [h0, h3, h5, hm3'];refine zA (A4 sig b hs k hc2 hr hed (Ah hall)) e79 (.cons (aJ.bF false sig) (.cons (aJ.cI false b) (.cons (.v _ _ _) .nil))) (by simp[h0,h5,bF,cI,I.cells,aB,encI,encS,aD]) ?_;rintro _ rfl;simp;apply V;refine J.ite rfl (fun hc3 => ?_) (fun hc3 => ?_)
              · have hb3:cr sig b k=false:=by simpa using hc3
                refine zE fun k' V=>?_
                simp;apply V;exact J.ret func32 (aR.one results32) (no (by rw[eI,dP hc2 hb3,Bool.and_false];rfl) _ _)
              · have hb3:cr sig b k=true:=by simpa using hc3
                apply J.skip;refine zI fun k' V=>?_
                simp [h5, bm (show k < 4611686018427387904 by omega)];apply V;refine IH hc2 _ _ _ ⟨by simp[h0],by simp[h3],by simp,rfl,rfl,fun i hi=>?_⟩;rcases Nat.lt_or_ge i k with h | h
                · exact hall i h
                · rw[show i=k by omega];exact hb3
            · have hc2:¬ k<b.nodes.length:=by simpa using hc2
              have hke:k=b.nodes.length:=by omega
              subst hke;have hnodes:=dO hall;have hctl:=Ah hall;refine J.exit rfl ?_;refine zS fun k' V=>?_
              simp;apply V;clear IH hall h5;refine J.block (J.bO b.sites.length (fun k ρ' H2 n2=>ρ' 0 = .list false (sig.map Control.cells)/\ρ' 3 = .ptr (0,3) 1 0 0/\ρ' 6=int k/\H2=H'/\n2=n'/\∀ i (hi:i<b.sites.length),i<k->b4 sig b b.sites[i] b.nodes.length=true) ?_ ?_)
              · exact⟨by simp[h0],by simp[h3],by simp,rfl,rfl,fun i hi h=>by omega⟩
              · clear h0 h3
                rintro k O H2 n2 hk2 ⟨h0,h3,h6,rfl,rfl,hall⟩ IH;refine zS fun k' V=>?_
                simp [h3, h6, hm3'];apply V;refine J.ite rfl (fun hc4 => ?_) (fun hc4 => ?_)
                · have hc4:k<b.sites.length:=by simpa using hc4
                  apply zK;apply J.block;refine J.cO ay aA bq (by decide) (by kernel_rfl) fun k' V=>?_
                  simp [h0, h3, h6, hm3', hc4, av];refine bf.bN ay aA (qL sig b b.sites[k] b.nodes.length (s11 _ (List.getElem_mem hc4)) hr (Nat.le_refl _) hctl) e80 (.cons (aJ.bF false sig) (.cons (aJ.cI false b) (.cons (.v _ _ _) (.cons (.v _ _ _) .nil)))) (by decide) rfl (by simp[h0,bF,cI,I.cells,aB,encI,encS,aD,av]) ?_;simp;apply V;refine J.ite rfl (fun hc5 => ?_) (fun hc5 => ?_)
                  · have hb3:b4 sig b b.sites[k] b.nodes.length=false:=by simpa using hc5
                    refine zE fun k' V=>?_
                    simp;apply V;exact J.ret func32 (aR.one results32) (no (by rw[eI,uW hc4 hb3,Bool.and_false];rfl) _ _)
                  · have hb3:b4 sig b b.sites[k] b.nodes.length=true:=by simpa using hc5
                    apply J.skip;refine zI fun k' V=>?_
                    simp [h6, bm (show k < 4611686018427387904 by omega)];apply V;refine IH hc4 _ _ _ ⟨by simp[h0],by simp[h3],by simp,rfl,rfl,fun i hi hij=>?_⟩;rcases Nat.lt_or_ge i k with h | h
                    · exact hall i hi h
                    · have:i=k:=by omega
                      subst this;exact hb3
                · have hc4:¬ k<b.sites.length:=by simpa using hc4
                  have hke:k=b.sites.length:=by omega
                  subst hke;have hsites:=vg (l:=b.sites) (p:=fun p=>b4 sig b p b.nodes.length) fun i hi=>hall i hi hi
                  refine J.exit rfl ?_;refine zS fun k' V=>?_
                  simp;apply V;clear IH hall h6;refine J.block (J.bO b.inner.length (fun k ρ' H3 n3=>ρ' 3 = .ptr (0,3) 1 0 0/\ρ' 7=int k/\H3=H2/\n3=n2/\∀ i (hi:i<b.inner.length),i<k->dp b b.inner[i].link=true) ?_ ?_)
                  · exact⟨by simp[h3],by simp,rfl,rfl,fun i hi h=>by omega⟩
                  · clear h0 h3
                    rintro k O H3 n3 hk3 ⟨h3,h7,rfl,rfl,hall⟩ IH;refine zS fun k' V=>?_
                    simp [h3, h7, hm3'];apply V;refine J.ite rfl (fun hc6 => ?_) (fun hc6 => ?_)
                    · have hc6:k<b.inner.length:=by simpa using hc6
                      apply zK;apply J.block;refine J.cO ay aA bq (by decide) (by kernel_rfl) fun k' V=>?_
                      simp [h3, h7, hm3', hc6, aQ.cells];refine bf.bN ay aA (tt b b.inner[k].link hed s5) e81 (.cons (aJ.cI false b) (.cons (.v _ _ _) .nil)) (by decide) rfl (by simp[cI,I.cells,aB,encI,encS,aD,aQ.cells]) ?_;simp;apply V;refine J.ite rfl (fun hc7 => ?_) (fun hc7 => ?_)
                      · have hb3:dp b b.inner[k].link=false:=by simpa using hc7
                        refine zE fun k' V=>?_
                        simp;apply V;exact J.ret func32 (aR.one results32) (no (by rw[eI,uW (l:=b.inner) (p:=fun w=>dp b w.link) hc6 hb3,Bool.and_false]) _ _)
                      · have hb3:dp b b.inner[k].link=true:=by simpa using hc7
                        apply J.skip;refine zI fun k' V=>?_
                        simp [h7, bm (show k < 4611686018427387904 by omega)];apply V;refine IH hc6 _ _ _ ⟨by simp[h3],by simp,rfl,rfl,fun i hi hij=>?_⟩;rcases Nat.lt_or_ge i k with h | h
                        · exact hall i hi h
                        · have:i=k:=by omega
                          subst this;exact hb3
                    · have hc6:¬ k<b.inner.length:=by simpa using hc6
                      have hke:k=b.inner.length:=by omega
                      subst hke;have hinner:=vg (l:=b.inner) (p:=fun w=>dp b w.link) fun i hi=>hall i hi hi
                      refine J.exit rfl ?_;refine zE fun k' V=>?_
                      simp;apply V;exact J.ret func32 (aR.one results32) (hQ _ _ _ _ (.v _ _ _) (by rw[eI,hpre,hnodes,hsites,hinner];rfl))
      simp [h3, hm3'];refine zA (qK b.outer s5 s7) e77 (.cons (aJ.encS false b.outer) .nil) (by simp[encS]) ?_;rintro _ rfl;cases p6:cT b.outer
      · simp[guardOf]
        exact fin2 _ (by simp[h0]) (by simp[h3]) (by simp only[wP,p6];simp)
      by_cases p7:(16:Int)<b.inner.length
      · simp[h3,hm3',p7,guardOf]
        refine fin2 _ (by simp[h0]) (by simp[h3]) ?_;have:cT (names b)=false:=by
          rw[fj,show decide ((names b).length<=16)=false by simp[names];omega,Bool.false_and]
        simp only[wP,this];simp
      simp[h3,hm3',p7,guardOf];refine zA (zt b s6) e78 (.cons (aJ.cI false b) .nil) (by simp[cI,I.cells,aB,encI,encS,aD]) ?_;rintro _ rfl;simp;refine zA (qK (names b) hnl hnn) e77 (.cons (aJ.encS true (names b)) .nil) (by simp[encS]) ?_;rintro _ rfl;simp;exact fin2 _ (by simp[h0]) (by simp[h3]) (by simp only[wP,p6];simp)
  simp [h0];refine zA (D7 sig s1 s2) e75 (.cons (aJ.bF false sig) .nil) (by simp[bF,h0]) ?_;rintro _ rfl;cases p1:fE sig
  · simp[guardOf]
    exact fin _ (by simp[h0]) (by simp[h3]) (by simp only[qB,p1];simp)
  simp[h3,hm3',guardOf];refine zA (et b.roots 0 4) Bo (.cons (.v _ _ _) (.cons (.v _ _ _) (.cons (.v _ _ _) .nil))) (by simp) ?_;rintro _ rfl;cases p2:within b.roots 0 4
  · simp[guardOf]
    exact fin _ (by simp[h0]) (by simp[h3]) (by simp only[qB,p2];simp)
  by_cases p3:(8:Int)<b.nodes.length
  · simp[h3,hm3',p3,guardOf]
    exact fin _ (by simp[h0]) (by simp[h3]) (by simp only[qB,show ¬ b.nodes.length<=8 by omega];simp)
  by_cases p4:(4:Int)<b.sites.length
  · simp[h3,hm3',p3,p4,guardOf]
    exact fin _ (by simp[h0]) (by simp[h3]) (by simp only[qB,show ¬ b.sites.length<=4 by omega];simp)
  simp[h3,hm3',p3,p4,guardOf];refine zA (et b.edges 0 8) Bo (.cons (.v _ _ _) (.cons (.v _ _ _) (.cons (.v _ _ _) .nil))) (by simp) ?_;rintro _ rfl;simp;exact fin _ (by simp[h0]) (by simp[h3]) (by simp only[qB,p1,p2,show b.nodes.length<=8 by omega,show b.sites.length<=4 by omega];simp)
end Go.Ab
namespace Go.Ab
open Go.Proofs
theorem Gp:a8 prog 109:=a8.of func109 (by kernel_rfl) rfl
theorem e107:a8 prog 107:=a8.of func107 (by kernel_rfl) rfl
theorem e135:a8 prog 135:=a8.of func135 (by kernel_rfl) rfl
theorem El (t:Bool) (l:List Int) (x:Int) (hl:l.length<=1048576):aC prog 109 [encI t l,int x] (fun r=>r=int (mT l (fun y=>x == y))):=by
  refine aC.of func109 rfl ntmps109 (by simp) fun Q hQ=>?_
  refine zE fun _ V=>?_
  simp [encI];apply V;refine zS fun _ V=>?_
  simp;apply V;refine J.block (J.bO l.length (fun k O H' n'=>O 0 = .list t (l.map av)/\O 1=int x/\O 7=int l.length/\O 8=int k/\∀ i (h:i<l.length),i<k->(x == l[i])=false) ?_ ?_)
  · simp
  · rintro k O H' n' hk ⟨h0,h1,h7,h8,hno⟩ IH
    refine zE fun _ V=>?_
    simp [h7, h8];apply V;apply J.seq;refine J.ite rfl (fun hc1 => ?_) (fun hc1 => ?_)
    · have hc1:k<l.length:=by simpa using hc1
      apply zK;apply J.block;refine zE fun _ V=>?_
      simp [h8];apply V;refine zE fun _ V=>?_
      simp [h0, h1, hc1, av];apply V;refine J.ite rfl (fun hc2 => ?_) (fun hc2 => ?_)
      · have hc2:(x == l[k])=true:=by simpa using hc2
        refine zE fun _ V=>?_
        simp;apply V;refine J.ret func109 (aR.one results109) (hQ _ _ _ _ (.v _ _ _) ?_);simp[nu (p:=fun y=>x == y) hc1 hc2 hno]
      · have hc2:(x == l[k])=false:=by simpa using hc2
        apply J.skip;refine zI fun _ V=>?_
        simp [h8, bm (show k < 4611686018427387904 by omega)];apply V;refine IH hc1 _ _ _ ⟨by simp[h0,av],by simp[h1],by simp[h7],by simp,fun i h hi=>?_⟩;rcases Nat.lt_or_ge i k with hik | hik
        · exact hno i h hik
        · have:i=k:=by omega
          subst this;exact hc2
    · have hc1:¬ k<l.length:=by simpa using hc1
      have hke:k=l.length:=by omega
      subst hke;refine J.exit rfl ?_;refine zE fun _ V=>?_
      simp;apply V;refine J.ret func109 (aR.one results109) (hQ _ _ _ _ (.v _ _ _) ?_);simp[mz (p:=fun y=>x == y) fun i h=>hno i h h]
theorem py (l:List Int) (x:Int) (hl:l.length<=1048576):aC prog 107 [encI false l,int x] (fun r=>r=bool (l.any (fun y=>x == y))):=by
  refine aC.of func107 rfl ntmps107 (by simp) fun Q hQ=>?_
  refine zE fun _ V=>?_
  simp [encI];apply V;refine zE fun _ V=>?_
  simp;refine zA (El false l x hl) Gp (.cons (aJ.encI false l) (.cons (.v _ _ _) .nil)) (by simp[encI]) ?_;rintro _ rfl;simp;apply V;refine J.ret func107 (aR.one results107) (hQ _ _ _ _ (.v _ _ _) ?_);have:=nK l (fun y=>x == y);simp only[Env.put];simp[this]
theorem ER (l:List Int) (x:Int) (hl:l.length<=1048576):aC prog 135 [encI false l,int x] (fun r=>r=bool (l.any (fun y=>x == y))):=by
  refine aC.of func135 rfl ntmps135 (by simp) fun Q hQ=>?_
  refine zE fun _ V=>?_
  simp [encI];apply V;refine zS fun _ V=>?_
  simp;apply V;refine J.block (J.bO l.length (fun k O H' n'=>O 0 = .list false (l.map av)/\O 1=int x/\O 5=int k/\∀ i (h:i<l.length),i<k->¬ l[i]=x) ?_ ?_)
  · simp
  · rintro k O H' n' hk ⟨h0,h1,h5,hno⟩ IH
    refine zS fun _ V=>?_
    simp [h0, h5];apply V;refine J.ite rfl (fun hc1 => ?_) (fun hc1 => ?_)
    · have hc1:k<l.length:=by simpa using hc1
      apply zK;apply J.block;refine zE fun _ V=>?_
      simp [h0, h1, h5, hc1, av];apply V;refine J.ite rfl (fun hc2 => ?_) (fun hc2 => ?_)
      · have hc2:l[k]=x:=by simpa using hc2
        refine zE fun _ V=>?_
        simp;apply V;refine J.ret func135 (aR.one results135) (hQ _ _ _ _ (.v _ _ _) ?_);have:l.any (fun y=>x == y)=true:=by
          rw[List.any_eq_true];exact⟨l[k],List.getElem_mem hc1,by simp[hc2]⟩
        rw[this];try rfl
      · have hc2:¬ l[k]=x:=by simpa using hc2
        apply J.skip;refine zI fun _ V=>?_
        simp [h5, bm (show k < 4611686018427387904 by omega)];apply V;refine IH hc1 _ _ _ ⟨by simp[h0,av],by simp[h1],by simp,fun i h hi=>?_⟩;rcases Nat.lt_or_ge i k with hik | hik
        · exact hno i h hik
        · have:i=k:=by omega
          subst this;exact hc2
    · have hc1:¬ k<l.length:=by simpa using hc1
      have hke:k=l.length:=by omega
      subst hke;refine J.exit rfl ?_;refine zE fun _ V=>?_
      simp;apply V;refine J.ret func135 (aR.one results135) (hQ _ _ _ _ (.v _ _ _) ?_);have:l.any (fun y=>x == y)=false:=by
        rw[List.any_eq_false];intro y hy;obtain⟨i,hi,rfl⟩:=List.getElem_of_mem hy;have:=hno i hi hi;simpa using fun h=>this h.symm
      rw[this];try rfl
end Go.Ab
namespace Go.Ab
open Go.Proofs
end Go.Ab
namespace Go.Ab.Vg
structure E2 (sig:cZ):Prop where
  len:1<=sig.length/\sig.length<=6
  ports:∀ c ∈ sig,0<=c.ports/\c.ports<=3
  kind:∀ c ∈ sig,0<=c.kind/\c.kind<=2
structure bA (sig:cZ) (b:I):Prop where
  sg:E2 sig
  roots:0<=b.roots/\b.roots<=4
  len:b.nodes.length<=8
  slen:b.sites.length<=4
  edges:0<=b.edges/\b.edges<=8
  outer:b.outer.length<=16
  inner:b.inner.length<=16
  ctl:∀ i (h:i<b.nodes.length),0<=b.nodes[i].control/\b.nodes[i].control<sig.length
  par:∀ i (h:i<b.nodes.length),-b.roots<=b.nodes[i].parent/\b.nodes[i].parent<i
  ports:∀ i (h:i<b.nodes.length),(b.nodes[i].links.length:Int)=(sig.getD b.nodes[i].control.toNat default).ports
  links:∀ i (h:i<b.nodes.length),∀ l ∈ b.nodes[i].links,0<=l/\l<b.edges+b.outer.length
  sites:∀ p ∈ b.sites,-b.roots<=p/\p<b.nodes.length
  wires:∀ w ∈ b.inner,0<=w.link/\w.link<b.edges+b.outer.length
theorem sQ {sig:cZ} (h:fE sig=true):E2 sig:=by
  simp only[fE,within,cV,Bool.and_eq_true,decide_eq_true_eq,List.all_eq_true,List.mem_range] at h;obtain⟨h1,h2⟩:=h;refine⟨by omega,fun c hc=>?_,fun c hc=>?_⟩<;>obtain⟨i,hi,rfl⟩:=List.getElem_of_mem hc<;>have:=h2 i hi<;>simp only[List.getD_eq_getElem?_getD,List.getElem?_eq_getElem hi,Option.getD_some] at this
  · exact this.1.1.2
  · exact this.1.2
theorem fR {sig:cZ} {b:I} (h:gU sig b=true):bA sig b:=by
  simp only[gU,Bool.and_eq_true,decide_eq_true_eq,List.all_eq_true,List.mem_range] at h;obtain⟨⟨⟨⟨⟨⟨⟨⟨⟨hs,hr⟩,hn⟩,hst⟩,he⟩,ho⟩,hi⟩,hno⟩,hsi⟩,hw⟩:=h;have hV:=sQ hs;simp only[within,Bool.and_eq_true,decide_eq_true_eq] at hr he;simp only[cT,Bool.and_eq_true,decide_eq_true_eq,List.length_map] at ho hi;have hno2:∀ i (h:i<b.nodes.length),(0<=b.nodes[i].control/\b.nodes[i].control<=(sig.length:Int) - 1)/\b4 sig b b.nodes[i].parent i=true/\(b.nodes[i].links.length:Int)=(sig.getD b.nodes[i].control.toNat default).ports/\∀ l ∈ b.nodes[i].links,dp b l=true:=fun i h=>by
    have:=hno i h;simp only[cr,within,Bool.and_eq_true,decide_eq_true_eq,List.all_eq_true,List.getD_eq_getElem?_getD,List.getElem?_eq_getElem h,Option.getD_some] at this;exact⟨this.1.1.1,this.1.1.2,by simpa using this.1.2,this.2⟩
  have hp:∀ p (m:Nat),b4 sig b p m=true -> -b.roots<=p/\p<m:=fun p m h=>by
    simp only[b4] at h
    split at h
    · simp only[decide_eq_true_eq] at h;omega
    · simp only[Bool.and_eq_true,decide_eq_true_eq] at h;omega
  have hl:∀ l,dp b l=true->0<=l/\l<b.edges+b.outer.length:=fun l h=>by
    simp only[dp,within,Bool.and_eq_true,decide_eq_true_eq] at h;omega
  exact⟨hV,hr,hn,hst,he,ho.1,hi.1,fun i h=>by have:=(hno2 i h).1;omega,fun i h=>hp _ _ (hno2 i h).2.1,fun i h=>(hno2 i h).2.2.1,fun i h l hm=>hl l ((hno2 i h).2.2.2 l hm),fun p hm=>hp _ _ (hsi p hm),fun w hm=>hl _ (hw w hm)⟩
theorem at_mem {α:Type} [Inhabited α] {l:List α} {i:Int} (h:0<=i/\i<l.length):at' l i ∈ l:=by
  obtain⟨h1,h2⟩:=qY h rfl;exact h2 ▸ List.getElem_mem h1
theorem xo {α:Type} [Inhabited α] {l:List α} {i:Int} (h:0<=i/\i<l.length):∃ h':i.toNat<l.length,at' l i=l[i.toNat]:=by
  obtain⟨h1,h2⟩:=qY h rfl;exact⟨h1,h2.symm⟩
theorem bA.ctlAt {sig:cZ} {b:I} (h:bA sig b) {i:Int} (hi:0<=i/\i<b.nodes.length):0<=(at' b.nodes i).control/\(at' b.nodes i).control<sig.length:=by
  obtain⟨h1,h2⟩:=xo hi;rw[h2];exact h.ctl _ h1
theorem bA.lN {sig:cZ} {b:I} (h:bA sig b) {i:Int} (hi:0<=i/\i<b.nodes.length) : -b.roots<=(at' b.nodes i).parent/\(at' b.nodes i).parent<i:=by
  obtain⟨h1,h2⟩:=xo hi;rw[h2];have:=h.par _ h1;omega
theorem bA.uq {sig:cZ} {b:I} (h:bA sig b) {i:Int} (hi:0<=i/\i<b.nodes.length):((at' b.nodes i).links.length:Int)=(at' sig (at' b.nodes i).control).ports:=by
  obtain⟨h1,h2⟩:=xo hi;have h3:=h.ports _ h1;have h4:=h.ctl _ h1;rw[h2,h3];simp[at']
theorem bA.kJ {sig:cZ} {b:I} (h:bA sig b) {i:Int} (hi:0<=i/\i<b.nodes.length):∀ l ∈ (at' b.nodes i).links,0<=l/\l<b.edges+b.outer.length:=by
  obtain⟨h1,h2⟩:=xo hi;rw[h2];exact h.links _ h1
theorem bA.ga {sig:cZ} {b:I} (h:bA sig b) {i:Int} (hi:0<=i/\i<b.nodes.length):(at' b.nodes i).links.length<=3:=by
  have h1:=h.uq hi;have h2:=h.ctlAt hi;have h3:=h.sg.ports _ (at_mem h2);omega
end Go.Ab.Vg
namespace Go.Ab.Vg
abbrev gX (many:Int):List Int:=List.replicate many.toNat (-1)
abbrev gI (many:Int):Prop:=0<=many/\many<=1048576
def my (many:Int) (Z:(List Int)->Prop):Prop:=
  aO (σ:=Int × (List Int)) (fun (i12,l13) K17=>∀ c18:Bool,c18=decide (i12<many)->((c18=true->(l13.length+1<=1073741824)/\∀ l21:List Int,l21=l13++[(-1)]->(bB (i12+1))/\∀ v31:Int,v31=i12+1->K17 (v31,l21))/\(c18=false->Z l13))) (0,([]:List Int))
theorem Ef (many:Int) (h:gI many):my many (fun y=>y=gX many):=by
  unfold my;obtain⟨h1,h2⟩:=h;refine aO.pN many.toNat (fun k out=>out=List.replicate k (-1)) [] rfl ?_;rintro k _ K hk rfl IH;simp only[forall_eq,decide_eq_true_eq,decide_eq_false_iff_not,bB];refine⟨fun h3=>⟨by simp;omega,by omega,IH (by omega) _ List.replicate_succ'.symm⟩,fun h3=>?_⟩;rw[show k=many.toNat by omega]
abbrev vm (l:List Int):List Int:=l
abbrev fV (l:List Int):Prop:=l.length<=1048576
def pW (l:List Int) (Z:(List Int)->Prop):Prop:=
  (([]:List Int).length+l.length<=1073741824)/\∀ l4:List Int,l4=([]:List Int)++l->Z l4
theorem Ge (l:List Int) (h:fV l):pW l (fun y=>y=vm l):=by
  unfold pW;exact⟨by simp;omega,fun _ h=>by simpa using h⟩
def gA (l:List Int):Int:=((l.filter fun x=>decide (0<=x)).length:Int)
abbrev na (l:List Int):Prop:=l.length<=1048576
def qd (edges:List Int) (Z:Int->Prop):Prop:=
  aO (σ:=Int × Int) (fun (many5,i6) K9=>∀ gk:Int,gk=(edges.length:Int)->∀ c12:Bool,c12=decide (i6<gk)->((c12=true->(0<=i6/\i6<edges.length)/\∀ x15:Int,x15=at' edges i6->∀ c17:Bool,c17=decide (0<=x15)->((c17=true->(bB (many5+1))/\∀ v20:Int,v20=many5+1->(bB (i6+1))/\∀ v23:Int,v23=i6+1->K9 (v20,v23))/\(c17=false->(bB (i6+1))/\∀ v27:Int,v27=i6+1->K9 (many5,v27))))/\(c12=false->Z many5))) (0,0)
theorem F8 (l:List Int) (h:na l):qd l (fun y=>y=gA l):=by
  unfold qd;refine aO.upR l.length (fun k c=>c=(((l.take k).filter fun x=>decide (0<=x)).length:Int)) 0 (by simp) ?_;rintro k _ K hk rfl IH;have hl:((l.take k).filter fun x=>decide (0<=x)).length<=k:=Nat.le_trans (List.length_filter_le _ _) (by simp;omega);have h':l.length<=1048576:=h;simp only[forall_eq,decide_eq_true_eq,decide_eq_false_iff_not,bB];refine⟨fun h3=>?_,fun h3=>?_⟩
  · have hkl:k<l.length:=by omega
    rw[bp hkl];refine⟨by omega,fun h4=>⟨by omega,by omega,IH hkl _ ?_⟩,fun h4=>⟨by omega,IH hkl _ ?_⟩⟩
    · rw[<- List.take_append_getElem hkl,List.filter_append];simp[h4]
    · rw[<- List.take_append_getElem hkl,List.filter_append];simp[h4]
  · rw[show k=l.length by omega,List.take_length];rfl
abbrev BP (p:Int) (pl:List Int):Int:=cp pl p
abbrev gL (p:Int) (pl:List Int):Prop:=p<pl.length/\bB (-1 - p)/\(0<=p->bB (4+at' pl p))
def pQ (parent:Int) (places:List Int) (Z:Int->Prop):Prop:=
  ∀ c2:Bool,c2=decide (parent<0)->((c2=true->(bB ((-1) - parent))/\∀ v5:Int,v5=(-1) - parent->Z v5)/\(c2=false->(0<=parent/\parent<places.length)/\∀ x8:Int,x8=at' places parent->(bB (4+x8))/\∀ v11:Int,v11=4+x8->Z v11))
theorem Gf (p:Int) (pl:List Int) (h:gL p pl):pQ p pl (fun y=>y=BP p pl):=by
  unfold pQ;obtain⟨h1,h2,h3⟩:=h;simp only[forall_eq,decide_eq_true_eq,decide_eq_false_iff_not];exact⟨fun h4=>⟨h2,by rw[BP,cp,if_pos h4]⟩,fun h4=>⟨by omega,h3 (by omega),by rw[BP,cp,if_neg h4]⟩⟩
def eR (b:I):List Int->List Int->List Int × List Int
  | now,[]=>([],now)
  | now,l::t=>
    if l >= b.edges then let r:=eR b now t;((l - b.edges)::r.1,r.2)
    else let now2:=if at' now l<0 then now.set l.toNat (gA now) else now
      let r:=eR b now2 t;((16+at' now2 l)::r.1,r.2)
theorem fB (b:I):∀ (l now:List Int),(eR b now l).1.length=l.length
  | [],_=>rfl
  | x::l,now=>by
    simp only[eR]
    split
    · simp[fB b l now]
    · simp[fB b l _]
structure kA (b:I) (now:List Int):Prop where
  ed:0<=b.edges/\b.edges<=8
  len:(now.length:Int)=b.edges
  val:∀ v ∈ now,-1<=v/\v<=8
theorem AJ (l:List Int):0<=gA l/\gA l<=l.length:=by
  have:=List.length_filter_le (fun x=>decide (0<=x)) l;simp only[gA];omega
theorem kA.set {b:I} {now:List Int} (h:kA b now) (l:Int):kA b (now.set l.toNat (gA now)):=by
  have h1:=AJ now;have h2:=h.len;have h3:=h.ed;refine⟨h.ed,by simpa using h.len,fun v hv=>?_⟩;rcases List.mem_or_eq_of_mem_set hv with hv | rfl
  · exact h.val v hv
  · omega
theorem mU {b:I}:∀ (l now:List Int),kA b now->kA b (eR b now l).2
  | [],_,h=>h
  | x::l,now,h=>by
    simp only[eR]
    split
    · exact mU l now h
    · split
      · exact mU l _ (h.set x)
      · exact mU l _ h
theorem drop_at {l:List Int} {k:Nat} (h:k<l.length):l.drop k=at' l (k:Int)::l.drop (k+1):=by rw[bp h,List.drop_eq_getElem_cons h]
abbrev kh (b:I) (links edges:List Int):List Int × List Int:=eR b edges links
abbrev eQ (b:I) (links edges:List Int):Prop:=kA b edges/\links.length<=1048576/\∀ l ∈ links,0<=l/\l<=1048576
def kU (b:I) (links:List Int) (edges:List Int) (Z:((List Int) × (List Int))->Prop):Prop:=
  (fV edges)/\∀ r8:List Int,r8=vm edges->aO (σ:=Int × (List Int) × (List Int)) (fun (i29,l30,l31) K36=>∀ len37:Int,len37=(links.length:Int)->∀ c39:Bool,c39=decide (i29<len37)->((c39=true->(0<=i29/\i29<links.length)/\∀ x42:Int,x42=at' links i29->∀ c44:Bool,c44=decide (b.edges<=x42)->((c44=true->(0<=i29/\i29<links.length)/\∀ x47:Int,x47=at' links i29->(bB (x42 - b.edges))/\∀ v51:Int,v51=x42 - b.edges->(l30.length+1<=1073741824)/\∀ l54:List Int,l54=l30++[v51]->(bB (i29+1))/\∀ v65:Int,v65=i29+1->K36 (v65,l54,l31))/\(c44=false->(0<=i29/\i29<links.length)/\∀ x68:Int,x68=at' links i29->(0<=x42/\x42<l31.length)/\∀ x76:Int,x76=at' l31 x42->∀ c79:Bool,c79=decide (x76<0)->((c79=true->(0<=i29/\i29<links.length)/\∀ x85:Int,x85=at' links i29->(na l31)/\∀ r88:Int,r88=gA l31->(0<=x85/\x85<l31.length)/\∀ x94:Int,x94=at' l31 x85->∀ l97:List Int,l97=l31.set x85.toNat r88->(0<=i29/\i29<links.length)/\∀ x105:Int,x105=at' links i29->(0<=x105/\x105<l97.length)/\∀ x112:Int,x112=at' l97 x105->(bB (16+x112))/\∀ v116:Int,v116=16+x112->(l30.length+1<=1073741824)/\∀ l119:List Int,l119=l30++[v116]->(bB (i29+1))/\∀ v130:Int,v130=i29+1->K36 (v130,l119,l97))/\(c79=false->(0<=i29/\i29<links.length)/\∀ x133:Int,x133=at' links i29->(0<=x133/\x133<l31.length)/\∀ x140:Int,x140=at' l31 x133->(bB (16+x140))/\∀ v144:Int,v144=16+x140->(l30.length+1<=1073741824)/\∀ l147:List Int,l147=l30++[v144]->(bB (i29+1))/\∀ v158:Int,v158=i29+1->K36 (v158,l147,l31))))))/\(c39=false->Z (l30,l31)))) (0,([]:List Int),r8)
theorem B4 (b:I) (links edges:List Int) (h:eQ b links edges):kU b links edges (fun y=>y=kh b links edges):=by
  unfold kU;obtain⟨h1,h2,h3⟩:=h;have hE:=h1.ed;have hL:=h1.len;refine⟨by simp only[fV];omega,?_⟩;intro r8 hr8;rw[show r8=edges from hr8];refine aO.pN (τ:=List Int × List Int) links.length (fun k t=>kA b t.2/\t.1.length=k/\eR b edges links=(t.1++(eR b t.2 (links.drop k)).1,(eR b t.2 (links.drop k)).2)) ([],edges) ⟨h1,rfl,rfl⟩ ?_;rintro k ⟨out,now⟩ K hk ⟨hN,hlen,hI⟩ IH;simp only at hN hlen hI;have hnl:=hN.len;simp only[forall_eq,decide_eq_true_eq,decide_eq_false_iff_not];refine⟨fun h4=>?_,fun h4=>?_⟩
  · have hkl:k<links.length:=by omega
    rw[drop_at hkl] at hI;have hx:=h3 (at' links (k:Int)) (by rw[bp hkl];exact List.getElem_mem hkl);generalize at' links (k:Int)=x at hI hx;refine⟨by omega,fun h5=>?_,fun h5=>?_⟩
    · refine⟨by omega,⟨by omega,by omega⟩,by omega,⟨by omega,by omega⟩,IH hkl (_,_) ⟨hN,by simp[hlen],?_⟩⟩
      rw[hI,eR,if_pos h5];simp
    · have h5':¬ x >= b.edges:=h5
      have hr:0<=x/\x<now.length:=⟨hx.1,by omega⟩
      refine⟨by omega,hr,fun h6=>?_,fun h6=>?_⟩
      · have hv:=at_mem (l:=now.set x.toNat (gA now)) (i:=x) ⟨hr.1,by simpa using hr.2⟩
        have hv2:=(hN.set x).val _ hv;refine⟨by omega,by simp only[na];omega,hr,by omega,⟨hr.1,by simpa using hr.2⟩,⟨by omega,by omega⟩,by omega,⟨by omega,by omega⟩,IH hkl (_,_) ⟨hN.set x,by simp[hlen],?_⟩⟩;rw[hI,eR,if_neg h5'];simp[h6]
      · have hv:=at_mem (l:=now) (i:=x) hr
        have hv2:=hN.val _ hv;refine⟨by omega,hr,⟨by omega,by omega⟩,by omega,⟨by omega,by omega⟩,IH hkl (_,_) ⟨hN,by simp[hlen],?_⟩⟩;rw[hI,eR,if_neg h5'];simp[h6]
  · have hkl:k=links.length:=by omega
    rw[hkl,List.drop_length] at hI;simp only[kh,hI,eR,List.append_nil]
def ep (b:I) (node:Int) (places edges:List Int):List Int × List Int:=((at' b.nodes node).control::cp places (at' b.nodes node).parent::(eR b edges (at' b.nodes node).links).1,(eR b edges (at' b.nodes node).links).2)
abbrev eO (b:I) (node:Int) (places edges:List Int):Prop:=(0<=node/\node<b.nodes.length)/\eQ b (at' b.nodes node).links edges/\gL (at' b.nodes node).parent places
def kG (b:I) (node:Int) (places:List Int) (edges:List Int) (Z:((List Int) × (List Int))->Prop):Prop:=
  (0<=node/\node<b.nodes.length)/\∀ x5:az,x5=at' b.nodes node->(eQ b x5.links edges)/\∀ r10:(List Int) × (List Int),r10=kh b x5.links edges->(gL x5.parent places)/\∀ r27:Int,r27=BP x5.parent places->∀ l28:List Int,l28=[x5.control,r27]->(l28.length+r10.1.length<=1073741824)/\∀ l37:List Int,l37=l28++r10.1->Z (l37,r10.2)
theorem BW (b:I) (node:Int) (places edges:List Int) (h:eO b node places edges):kG b node places edges (fun y=>y=ep b node places edges):=by
  unfold kG;obtain⟨h1,h2,h3⟩:=h;simp only[forall_eq];refine⟨h1,h2,h3,?_,?_⟩
  · have h4:(kh b (at' b.nodes node).links edges).1.length=(at' b.nodes node).links.length:=fB b _ _
    have:=h2.2.1;simp;omega
  · simp[ep]
def lH (b:I) (places edges:List Int):List Int × List Int:=(b.sites.map (cp places)++(eR b edges (b.inner.map fun w=>w.link)).1,(eR b edges (b.inner.map fun w=>w.link)).2)
abbrev iY (b:I) (places edges:List Int):Prop:=eQ b (b.inner.map fun w=>w.link) edges/\b.sites.length<=1048576/\∀ p ∈ b.sites,gL p places
def nT (b:I) (places:List Int) (edges:List Int) (Z:((List Int) × (List Int))->Prop):Prop:=
  aO (σ:=Int × (List Int)) (fun (i14,l15) K19=>∀ len20:Int,len20=(b.sites.length:Int)->∀ c22:Bool,c22=decide (i14<len20)->((c22=true->(0<=i14/\i14<b.sites.length)/\∀ x25:Int,x25=at' b.sites i14->(gL x25 places)/\∀ r28:Int,r28=BP x25 places->(l15.length+1<=1073741824)/\∀ l30:List Int,l30=l15++[r28]->(bB (i14+1))/\∀ v40:Int,v40=i14+1->K19 (v40,l30))/\(c22=false->aO (σ:=Int × (List Int)) (fun (i55,l56) K61=>∀ len62:Int,len62=(b.inner.length:Int)->∀ c64:Bool,c64=decide (i55<len62)->((c64=true->(0<=i55/\i55<b.inner.length)/\∀ x67:aQ,x67=at' b.inner i55->(l56.length+1<=1073741824)/\∀ l70:List Int,l70=l56++[x67.link]->(bB (i55+1))/\∀ v81:Int,v81=i55+1->K61 (v81,l70))/\(c64=false->(eQ b l56 edges)/\∀ r84:(List Int) × (List Int),r84=kh b l56 edges->(l15.length+r84.1.length<=1073741824)/\∀ l102:List Int,l102=l15++r84.1->Z (l102,r84.2)))) (0,([]:List Int))))) (0,([]:List Int))
theorem EG (b:I) (places edges:List Int) (h:iY b places edges):nT b places edges (fun y=>y=lH b places edges):=by
  unfold nT;obtain⟨h1,h2,h3⟩:=h;have hi:b.inner.length<=1048576:=by have:=h1.2.1;simpa using this
  refine aO.pN b.sites.length (fun k out=>out=(b.sites.take k).map (cp places)) [] (by simp) ?_;rintro k _ K hk rfl IH;simp only[forall_eq,decide_eq_true_eq,decide_eq_false_iff_not,bB];refine⟨fun h4=>?_,fun h4=>?_⟩
  · have hkl:k<b.sites.length:=by omega
    rw[bp hkl];refine⟨by omega,h3 _ (List.getElem_mem hkl),by simp;omega,by omega,IH hkl _ ?_⟩;rw[<- List.take_append_getElem hkl,List.map_append];rfl
  · refine aO.pN b.inner.length (fun k out=>out=(b.inner.take k).map fun w=>w.link) [] (by simp) ?_
    rintro j _ K2 hj rfl IH2;simp only[forall_eq,decide_eq_true_eq,decide_eq_false_iff_not];refine⟨fun h5=>?_,fun h5=>?_⟩
    · have hjl:j<b.inner.length:=by omega
      rw[bp hjl];refine⟨by omega,by simp;omega,by omega,IH2 hjl _ ?_⟩;rw[<- List.take_append_getElem hjl,List.map_append];rfl
    · rw[show k=b.sites.length by omega,show j=b.inner.length by omega,List.take_length,List.take_length]
      refine⟨h1,?_,rfl⟩;have h6:(kh b (b.inner.map fun w=>w.link) edges).1.length=(b.inner.map fun w=>w.link).length:=fB b _ _;simp only[List.length_map] at h6 ⊢;omega
structure Rz where
  out:List Int
  ed:List Int
  pl:List Int
def oT (b:I) (s:Rz) (k:Int) (i:Nat):Rz:=⟨s.out++(ep b k s.pl s.ed).1,(ep b k s.pl s.ed).2,s.pl.set k.toNat (i:Int)⟩
def lD (b:I) (order:List Int):Nat->Rz
  | 0=>⟨[],gX b.edges,gX b.nodes.length⟩
  | i+1=>oT b (lD b order i) (at' order (i:Int)) i
structure ox (b:I) (i:Nat) (s:Rz):Prop where
  nums:kA b s.ed
  pl:s.pl.length=b.nodes.length
  lo:∀ v ∈ s.pl,-1<=v/\v<=8
  out:s.out.length<=5 * i
theorem ox.told {sig:cZ} {b:I} {i:Nat} {s:Rz} (hv:bA sig b) (h:ox b i s) {k:Int} (hk:0<=k/\k<b.nodes.length):eQ b (at' b.nodes k).links s.ed:=by
  have h1:=hv.ga hk;refine⟨h.nums,by omega,fun l hl=>?_⟩;have h2:=hv.kJ hk l hl;have h3:=hv.edges;have h4:=hv.outer;omega
theorem ox.par {b:I} {i:Nat} {s:Rz} (h:ox b i s) (hn:b.nodes.length<=8) {p:Int} (h1 : -4<=p) (h2:p<b.nodes.length):gL p s.pl:=by
  refine⟨by rw[h.pl];omega,⟨by omega,by omega⟩,fun h0=>?_⟩;have:=h.lo _ (at_mem (l:=s.pl) (i:=p) ⟨h0,by rw[h.pl];omega⟩);exact⟨by omega,by omega⟩
theorem ox.chunk {sig:cZ} {b:I} {i:Nat} {s:Rz} (hv:bA sig b) (h:ox b i s) {k:Int} (hk:0<=k/\k<b.nodes.length):eO b k s.pl s.ed:=by
  have h1:=hv.lN hk;have h2:=hv.roots;exact⟨hk,h.told hv hk,h.par hv.len (by omega) (by omega)⟩
theorem ox.tail {sig:cZ} {b:I} {i:Nat} {s:Rz} (hv:bA sig b) (h:ox b i s):iY b s.pl s.ed:=by
  have h1:=hv.slen;have h2:=hv.inner;have h3:=hv.edges;have h4:=hv.outer;have h5:=hv.roots;refine⟨⟨h.nums,by simp;omega,fun l hl=>?_⟩,by omega,fun p hp=>?_⟩
  · obtain⟨w,hw,rfl⟩:=List.mem_map.1 hl
    have:=hv.wires w hw;omega
  · have:=hv.sites p hp
    exact h.par hv.len (by omega) (by omega)
theorem ox.step {sig:cZ} {b:I} {i:Nat} {s:Rz} (hv:bA sig b) (h:ox b i s) {k:Int} (hk:0<=k/\k<b.nodes.length) (hi:i<=8):ox b (i+1) (oT b s k i):=by
  have h1:=hv.ga hk;refine⟨mU _ _ h.nums,by simpa[oT] using h.pl,fun v hx=>?_,?_⟩
  · simp only[oT] at hx
    rcases List.mem_or_eq_of_mem_set hx with hx | rfl
    · exact h.lo v hx
    · omega
  · have h2:=h.out
    simp only[oT,ep,List.length_append,List.length_cons,fB];omega
theorem G0 {sig:cZ} {b:I} {order:List Int} (hv:bA sig b) (ho:∀ k ∈ order,0<=k/\k<b.nodes.length) (hl:order.length<=8):∀ i≤order.length,ox b i (lD b order i)
  | 0,_=>by
    have h1:=hv.edges;refine⟨⟨h1,by simp[lD];omega,fun v hx=>?_⟩,by simp[lD],fun v hx=>?_,by simp[lD]⟩
    · have:=(List.mem_replicate.1 hx).2;omega
    · have:=(List.mem_replicate.1 hx).2;omega
  | i+1,h=>(G0 hv ho hl i (by omega)).step hv (ho _ (by rw[bp (show i<order.length by omega)];exact List.getElem_mem _)) (by omega)
def ma (b:I) (order:List Int):List Int × List Int:=((lD b order order.length).out++(lH b (lD b order order.length).pl (lD b order order.length).ed).1,(lH b (lD b order order.length).pl (lD b order order.length).ed).2)
abbrev mg (b:I) (order:List Int):Prop:=(∃ sig,bA sig b)/\order.length<=8/\∀ k ∈ order,0<=k/\k<b.nodes.length
def kV (b:I) (order:List Int) (Z:((List Int) × (List Int))->Prop):Prop:=
  (gI b.edges)/\∀ r8:List Int,r8=gX b.edges->∀ len19:Int,len19=(b.nodes.length:Int)->(gI len19)/\∀ r22:List Int,r22=gX len19->aO (σ:=Int × (List Int) × (List Int) × (List Int)) (fun (i47,l48,l49,l50) K56=>∀ len57:Int,len57=(order.length:Int)->∀ c59:Bool,c59=decide (i47<len57)->((c59=true->(0<=i47/\i47<order.length)/\∀ x66:Int,x66=at' order i47->(eO b x66 l48 l49)/\∀ r69:(List Int) × (List Int),r69=ep b x66 l48 l49->(0<=i47/\i47<order.length)/\∀ x172:Int,x172=at' order i47->(0<=x172/\x172<l48.length)/\∀ x179:Int,x179=at' l48 x172->∀ l182:List Int,l182=l48.set x172.toNat i47->(l50.length+r69.1.length<=1073741824)/\∀ l192:List Int,l192=l50++r69.1->(bB (i47+1))/\∀ v204:Int,v204=i47+1->K56 (v204,l182,r69.2,l192))/\(c59=false->(iY b l48 l49)/\∀ r207:(List Int) × (List Int),r207=lH b l48 l49->(l50.length+r207.1.length<=1073741824)/\∀ l225:List Int,l225=l50++r207.1->Z (l225,r207.2)))) (0,r22,r8,([]:List Int))
theorem CK (b:I) (order:List Int) (h:mg b order):kV b order (fun y=>y=ma b order):=by
  unfold kV;obtain⟨⟨sig,hv⟩,h2,h3⟩:=h;have h4:=hv.edges;have h5:=hv.len;have h6:=hv.slen;have h7:=hv.inner;refine⟨⟨h4.1,by omega⟩,?_⟩;rintro _ rfl _ rfl;refine⟨⟨by omega,by omega⟩,?_⟩;rintro _ rfl;refine aO.pN (τ:=List Int × List Int × List Int) order.length (fun k t=>t.1=(lD b order k).pl/\t.2.1=(lD b order k).ed/\t.2.2=(lD b order k).out) (gX b.nodes.length,gX b.edges,[]) ⟨rfl,rfl,rfl⟩ ?_;rintro k ⟨pl,ed,out⟩ K hk ⟨e1,e2,e3⟩ IH;simp only at e1 e2 e3;subst e1 e2 e3;have hR:=G0 hv h3 h2 k hk;simp only[forall_eq,decide_eq_true_eq,decide_eq_false_iff_not];refine⟨fun h8=>?_,fun h8=>?_⟩
  · have hkl:k<order.length:=by omega
    have hm:=h3 (at' order (k:Int)) (by rw[bp hkl];exact List.getElem_mem hkl);have hl3:=hv.ga hm;have ho:=hR.out;refine⟨by omega,hR.chunk hv hm,by omega,⟨hm.1,by rw[hR.pl];exact hm.2⟩,?_,⟨by omega,by omega⟩,IH hkl (_,_,_) ⟨rfl,rfl,rfl⟩⟩;simp only[ep,List.length_cons,fB];omega
  · have hkl:k=order.length:=by omega
    subst hkl;have ho:=hR.out;refine⟨hR.tail hv,?_,rfl⟩;simp only[lH,List.length_append,List.length_map,fB];omega
end Go.Ab.Vg
namespace Go.Ab
section
variable {H:ax} {n:Nat} {K K':List bX} {ids:List Id}
end
section
variable {P:Program} {f:FuncId} {N:Nat} {k:List Item} {Q:au->ax->Nat->Prop} {Ty:Types} {l:List Oper} {O:Env} {H:ax} {n:Nat}
theorem jK.append {as1 bs cs ds:List au} (h:jK as1 bs) (h':jK cs ds):jK (as1++cs) (bs++ds):=by
  induction h with
  | nil=>exact h'
  | cons h _ ih=>exact .cons h ih
end
end Go.Ab
namespace Go.Ab
section
variable (P:Program) (N:Nat) (ops:Array Oper) (cm:ax->Nat->Prop) (aV:List Nat)
def bn (j:Nat):Bool:=(List.range ops.size).all fun k=>aV.contains k || (behind ops k).contains j
def Et (o:Oper) (s s':AS):Prop:=∃ v,s'=(s.1.put o.dst v,s.2)/\((fm ops o s.1=some true/\∀ H n,cm H n->aN P N o (loc o.op s.1) H n (rX v H n))\/(fm ops o s.1=some false/\v=lU))
def iU (R:AS->Prop):Nat->Array Bool->AS->Prop
  | 0,listed,s=>Region.ready .any ops listed=[]/\R s
  | fuel+1,listed,s=>(Region.ready .any ops listed=[]->R s)/\∀ i ∈ Region.ready .any ops listed,∃ o,ops[i]?=some o /\
      ((i ∉ aV/\cm s.2.1 s.2.2/\∃ s',Et P N ops cm o s s'/\iU R fuel (listed.setIfInBounds i true) s') \/
       (i ∈ aV/\fm ops o s.1=some true/\∃ post:au->ax->Nat->Prop,aN P N o (loc o.op s.1) s.2.1 s.2.2 post/\∀ v H' n',post v H' n'->(bn ops aV i=false->cm H' n')/\iU R fuel (listed.setIfInBounds i true) (s.1.put o.dst v,H',n')))
inductive iC where
  | fin
  | stop
  | free (i:Nat) (t:iC)
  | aV (i:Nat) (t a:iC)
def iC.alts:iC->List Nat
  | .aV i _ a=>i::a.alts
  | _=>[]
def iC.depth:iC->Nat
  | .free _ t=>t.depth+1
  | .aV _ t a=>max (t.depth+1) a.depth
  | _=>0
def tv (t:iC) (listed:Array Bool):Bool:=match t with
  | .aV _ _ _ => !(Region.ready .any ops listed).isEmpty && (Region.ready .any ops listed).all fun i=>t.alts.contains i
  | .stop=>false
  | _=>true
def sP:iC->Array Bool->Bool
  | .fin,listed=>(Region.ready .any ops listed).isEmpty
  | .stop,_=>true
  | .free i t,listed => !aV.contains i && (Region.ready .any ops listed).contains i && AF (fun _=>0) ops listed i && tv ops t (listed.setIfInBounds i true) && sP t (listed.setIfInBounds i true)
  | .aV i t a,listed=>aV.contains i && tv ops t (listed.setIfInBounds i true) && sP t (listed.setIfInBounds i true) && sP a listed
def pG (R':AS->Prop) (i:Nat) (s:AS):Prop:=∃ o,ops[i]?=some o/\fm ops o s.1=some true/\∃ post:au->ax->Nat->Prop,aN P N o (loc o.op s.1) s.2.1 s.2.2 post/\∀ v H' n',post v H' n'->(bn ops aV i=false->cm H' n')/\R' (s.1.put o.dst v,H',n')
def RunT (R:AS->Prop):iC->AS->Prop
  | .fin,s=>R s
  | .stop,_=>True
  | .free i t,s=>∃ o,ops[i]?=some o/\cm s.2.1 s.2.2/\∃ s',Et P N ops cm o s s'/\RunT R t s'
  | .aV i t a,s=>pG P N ops cm aV (RunT R t) i s/\RunT R a s
def DZ (t:iC):Bool:=tv ops t (Array.replicate ops.size false) && sP ops aV t (Array.replicate ops.size false) && decide (t.depth<=ops.size)
end
section
variable {P:Program} {N:Nat} {ops:Array Oper} {cm:ax->Nat->Prop} {aV:List Nat}
theorem iU.first {R:AS->Prop} {i:Nat} {oi:Oper} (hi:ops[i]?=some oi) (hih:i ∉ aV) (hD:∀ j oj,ops[j]?=some oj->j ∈ behind ops i->j ≠ i->∃ e ∈ oj.after,Region.binds .any e=true/\e.on ∈ behind ops i):∀ (fuel:Nat) (listed:Array Bool) (s s':AS),
    (∀ j ∈ behind ops i,listed.getD j true=false)->(∀ j oj,ops[j]?=some oj->j ≠ i->listed.getD j true=false->j ∉ behind ops i->oi.apart ops oj=true) ->
    i ∈ Region.ready .any ops listed->cm s.2.1 s.2.2->Et P N ops cm oi s s'->iU P N ops cm aV R fuel (listed.setIfInBounds i true) s'->iU P N ops cm aV R (fuel+1) listed s:=by
  intro fuel
  induction fuel with
  | zero=>
    intro listed s s' _ _ hr hS hst H;refine⟨fun h=>(by rw[h] at hr;cases hr),fun j hj=>?_⟩
    by_cases hji:j=i
    · subst hji;exact⟨oi,hi,.inl ⟨hih,hS,s',hst,H⟩⟩
    · have:=ready_mono hj hji
      rw[H.1] at this;cases this
  | succ fuel ih=>
    intro listed s s' hinv hfree hr hS hst H;refine⟨fun h=>(by rw[h] at hr;cases hr),fun j hj=>?_⟩
    by_cases hji:j=i
    · subst hji;exact⟨oi,hi,.inl ⟨hih,hS,s',hst,H⟩⟩
    · obtain⟨oj,hoj,hbr⟩:=H.2 j (ready_mono hj hji)
      obtain⟨hjun,oj',hoj',hall⟩:=mem_ready.1 hj;rw[hoj] at hoj';cases hoj';have hnot:j ∉ behind ops i:=fun hd=>by
        obtain⟨e,he,hb,hed⟩:=hD j oj hoj hd hji;have h1:=hall e he hb;have h0:=hinv e.on hed;rcases Nat.lt_or_ge e.on listed.size with h' | h'
        · simp[h'] at h0 h1;rw[h0] at h1;cases h1
        · simp[Array.getElem?_eq_none h'] at h1
      obtain⟨h1,h2,h3⟩:=Oper.apart_spec (hfree j oj hoj hji hjun hnot);have hinv':∀ k ∈ behind ops i,(listed.setIfInBounds j true).getD k true=false:=fun k hk=>by
        have hjk:j ≠ k:=fun he=>hnot (he ▸ hk)
        rw[getD_set_ne true hjk];exact hinv k hk
      have hfree':∀ k ok,ops[k]?=some ok->k ≠ i->(listed.setIfInBounds j true).getD k true=false->k ∉ behind ops i->oi.apart ops ok=true:=fun k ok hk hki hun hno=>by
        refine hfree k ok hk hki ?_ hno
        by_cases hjk:j=k
        · subst hjk;exact hjun
        · rw[getD_set_ne true hjk] at hun;exact hun
      obtain⟨v,rfl,hv⟩:=hst;have lj:∀ v,loc oj.op (s.1.put oi.dst v)=loc oj.op s.1:=fun v=>fI (dn h1)
      have li:∀ v,loc oi.op (s.1.put oj.dst v)=loc oi.op s.1:=fun v=>fI (dn h3)
      have gj:∀ v,fm ops oj (s.1.put oi.dst v)=fm ops oj s.1:=fun v=>ia h1
      have gi:∀ v,fm ops oi (s.1.put oj.dst v)=fm ops oi s.1:=fun v=>ia h3
      have hvi:∀ u,(fm ops oi (s.1.put oj.dst u)=some true/\∀ H n,cm H n->aN P N oi (loc oi.op (s.1.put oj.dst u)) H n (rX v H n))\/(fm ops oi (s.1.put oj.dst u)=some false/\v=lU):=fun u=>by
        rw[gi,li];exact hv
      rcases hbr with ⟨hjh,_,s'',⟨u,rfl,hu⟩,hrest⟩ | ⟨hjh,hgj,post,hoq,hrest⟩
      · simp only[lj,gj] at hu
        refine⟨oj,hoj,.inl ⟨hjh,hS,_,⟨u,rfl,hu⟩,ih (listed.setIfInBounds j true) (s.1.put oj.dst u,s.2) ((s.1.put oj.dst u).put oi.dst v,s.2) hinv' hfree' (ready_mono hr (Ne.symm hji)) hS ⟨v,rfl,hvi u⟩ ?_⟩⟩;rw[Array.setIfInBounds_comm _ _ hji,<- put_comm v u h2];exact hrest
      · simp only[lj,gj] at hoq hgj
        refine⟨oj,hoj,.inr ⟨hjh,hgj,post,hoq,fun u H' n' hp=>?_⟩⟩;obtain⟨hS',hrest'⟩:=hrest u H' n' hp;refine⟨hS',?_⟩;have hlate:bn ops aV j=false:=by
          rw[Bool.eq_false_iff];intro hl;have:=List.all_eq_true.1 hl i (List.mem_range.2 (Array.getElem?_eq_some_iff.1 hi).1);simp only[Bool.or_eq_true,List.contains_iff_mem] at this;exact this.elim hih hnot
        refine ih (listed.setIfInBounds j true) (s.1.put oj.dst u,H',n') ((s.1.put oj.dst u).put oi.dst v,H',n') hinv' hfree' (ready_mono hr (Ne.symm hji)) (hS' hlate) ⟨v,rfl,hvi u⟩ ?_;rw[Array.setIfInBounds_comm _ _ hji,<- put_comm v u h2];exact hrest'
theorem RunT.alt {R:AS->Prop} {s:AS} {listed:Array Bool} {j:Nat}:∀ {t:iC},RunT P N ops cm aV R t s->sP ops aV t listed=true->j ∈ t.alts->j ∈ aV/\∃ t',t'.depth+1<=t.depth/\tv ops t' (listed.setIfInBounds j true)=true/\sP ops aV t' (listed.setIfInBounds j true)=true/\pG P N ops cm aV (RunT P N ops cm aV R t') j s
  | .aV i t a,h,hl,hj=>by
    simp only[sP,Bool.and_eq_true,List.contains_iff_mem] at hl;rcases List.mem_cons.1 hj with rfl | hj
    · exact⟨hl.1.1.1,t,by simp only[iC.depth];omega,hl.1.1.2,hl.1.2,h.1⟩
    · obtain⟨h1,t',h2,h3⟩:=RunT.alt (t:=a) h.2 hl.2 hj
      exact⟨h1,t',by simp only[iC.depth];omega,h3⟩
  | .fin,_,_,hj=>by cases hj
  | .stop,_,_,hj=>by cases hj
  | .free _ _,_,_,hj=>by cases hj
theorem iU.none {R:AS->Prop} {fuel:Nat} {listed:Array Bool} {s:AS} (h:Region.ready .any ops listed=[]) (hR:R s):iU P N ops cm aV R fuel listed s:=by
  cases fuel with
  | zero=>exact⟨h,hR⟩
  | succ fuel=>exact⟨fun _=>hR,fun i hi=>by rw[h] at hi;cases hi⟩
theorem iU.lex {R:AS->Prop}:∀ (fuel:Nat) (t:iC) (listed:Array Bool) (s:AS),t.depth<=fuel->tv ops t listed=true->sP ops aV t listed=true->RunT P N ops cm aV R t s->iU P N ops cm aV R fuel listed s
  | _,.fin,listed,s,_,_,hB,h=>iU.none (by simpa[sP] using hB) h
  | _,.stop,_,_,_,E,_,_=>by cases E
  | 0,.free i t,_,_,hd,_,_,_=>by simp[iC.depth] at hd
  | fuel+1,.free i t,listed,s,hd,_,hB,⟨o,ho,hS,s',hst,hrest⟩=>by
    simp only[sP,Bool.and_eq_true,Bool.not_eq_true',List.contains_iff_mem] at hB;obtain⟨⟨⟨⟨h1,h2⟩,h3⟩,h4⟩,h5⟩:=hB;obtain⟨f1,f2,f3⟩:=qS ho h3;exact iU.first ho (by simpa using h1) f1 fuel listed s s' f2 (fun j oj h1 h2 h3 h4=>(f3 j oj h1 h2 h3 h4).1) h2 hS hst (iU.lex fuel t _ _ (by simp only[iC.depth] at hd;omega) h4 h5 hrest)
  | 0,.aV i t a,_,_,hd,_,_,_=>by simp only[iC.depth] at hd;omega
  | fuel+1,.aV i t a,listed,s,hd,E,hB,h=>by
    simp only[tv,Bool.and_eq_true,Bool.not_eq_true',List.isEmpty_eq_false_iff] at E;refine⟨fun h=>absurd h E.1,fun j hj=>?_⟩;have hja:j ∈ (iC.aV i t a).alts:=by
      have:=List.all_eq_true.1 E.2 j hj;simpa using this
    obtain⟨hjh,t',hd',h1,h2,o,ho,hg,post,hop,hrest⟩:=RunT.alt h hB hja;exact⟨o,ho,.inr ⟨hjh,hg,post,hop,fun v H' n' hp=>⟨(hrest v H' n' hp).1,iU.lex fuel t' _ _ (by omega) h1 h2 (hrest v H' n' hp).2⟩⟩⟩
theorem iU.sound {R:AS->Prop} (hN:ops.toList.all (fun o=>dC N o.dst)=true) {Q:Exit->Act->World->Prop} {c0:Ctx} (hQ:∀ a c O,bD c0 c->Good c->cJ N c O a->R (O,c.H,c.n)->Q .normal a c.w) :
    ∀ (fuel:Nat) (listed:Array Bool) (O:Env) (c:Ctx) (a:Act),bD c0 c->Good c->cJ N c O a->iU P N ops cm aV R fuel listed (O,c.H,c.n)->wpAny P .any ops Q fuel listed a c.w
  | 0,_,_,_,_,hk,g,r,h=>⟨h.1,hQ _ _ _ hk g r h.2⟩
  | fuel+1,listed,O,c,a,hk,g,r,h=>by
    refine⟨fun h0=>hQ _ _ _ hk g r (h.1 h0),fun i hi=>?_⟩;obtain⟨o,ho,hbr⟩:=h.2 i hi;have hd:dC N o.dst=true:=List.all_eq_true.1 hN o (by rw[<- Array.getElem?_toList] at ho;exact List.mem_of_getElem? ho);unfold wpOp;simp only[ho];rcases hbr with ⟨_,hS,s',⟨v,rfl,⟨hg,hop⟩ | ⟨hg,rfl⟩⟩,hrest⟩ | ⟨_,hg,post,hop,hrest⟩
    · rw[if_pos (ca r hN hg)]
      refine .inl (hop c.H c.n hS c a rfl rfl g (r.loc o.op) _ _ ?_);rintro v1 x c' ⟨rfl,hH,hn⟩ hrep hgood hkeep;exact iU.sound hN hQ fuel _ _ c' _ (hk.trans hkeep) hgood ((r.keeps hkeep).put hd hrep) (by rw[hH,hn];exact hrest)
    · rw[if_neg (by rw[ca r hN hg];simp)]
      exact iU.sound hN hQ fuel _ _ c _ hk g (r.put hd (.v _)) hrest
    · rw[if_pos (ca r hN hg)]
      refine .inl (hop c a rfl rfl g (r.loc o.op) _ _ ?_);rintro v1 x c' hpost hrep hgood hkeep;exact iU.sound hN hQ fuel _ _ c' _ (hk.trans hkeep) hgood ((r.keeps hkeep).put hd hrep) (hrest v1 c'.H c'.n hpost).2
end
section
variable {P:Program} {f:FuncId} {N:Nat} {k:List Item} {O:Env} {H:ax} {n:Nat} {Q:au->ax->Nat->Prop}
def atS (aj:Env->ax->Nat->Prop):AS->Prop:=fun s=>aj s.1 s.2.1 s.2.2
theorem J.Em (cm:ax->Nat->Prop) (aV:List Nat) (t:iC) (aj:Env->ax->Nat->Prop) {id:Nat} {ops:List Oper} (hm:P.follows .mixedOrders=true) (hN:ops.all (fun o=>dC N o.dst)=true) (hB:Ab.DZ ops.toArray aV t=true)
    (h:RunT P N ops.toArray cm aV (atS aj) t (O,H,n)) (hR:∀ O H n,aj O H n->J P f N k O H n Q):J P f N (.code (.region id ops.toArray true)::k) O H n Q:=by
  intro c a hH hn g r b cs hf hk;subst hH;subst hn;obtain⟨d1,d2⟩:=hC g;simp only[Ab.DZ,Bool.and_eq_true,decide_eq_true_eq] at hB;have hany:=iU.lex (P:=P) (N:=N) (cm:=cm) (aV:=aV) (ops:=ops.toArray) ops.toArray.size t (Array.replicate ops.toArray.size false) (O,c.H,c.n) hB.2 hB.1.1 hB.1.2 h;have hw:(Code.region id ops.toArray true).wp P (fun e a' w'=>e = .normal/\∃ c' ρ',c'.w=w'/\bD c c'/\Good c'/\cJ N c' ρ' a'/\J P f N k ρ' c'.H c'.n Q) a c.w:=by
    refine wp_region_any hm ?_;have:=iU.sound (P:=P) (N:=N) (cm:=cm) (aV:=aV) (ops:=ops.toArray) (c0:=c) (by simpa using hN) (Q:=fun e a' w'=>e = .normal/\∃ c' ρ',c'.w=w'/\bD c c'/\Good c'/\cJ N c' ρ' a'/\J P f N k ρ' c'.H c'.n Q)
      (R:=atS aj) (fun a' c' ρ' V hg' hr' hR'=>⟨rfl,c',ρ',rfl,V,hg',hr',hR _ _ _ hR'⟩) ops.toArray.size (Array.replicate ops.toArray.size false) O { c with w:={ c.w with drawn:=c.w.drawn+1 } } a d1 d2 (r.keeps d1) hany
    simpa using this
  obtain⟨e,a',w',⟨rfl,c',ρ',rfl,V,hg',hr',hR⟩,harr⟩:=hw b k cs;obtain⟨x,v,c'',fr,q,hr,hg,hke,hst,rest⟩:=hR c' a' rfl rfl hg' hr' b cs hf hk;exact⟨x,v,c'',fr,q,hr,hg,V.trans hke,Steps.trans harr hst,rest⟩
theorem J.C3 (cm:ax->Nat->Prop) (aV:List Nat) (t:iC) (aj:Env->ax->Nat->Prop) {id:Nat} {ops:List Oper} {y:Code} (hm:P.follows .mixedOrders=true) (hN:ops.all (fun o=>dC N o.dst)=true) (hB:Ab.DZ ops.toArray aV t=true)
    (h:RunT P N ops.toArray cm aV (atS aj) t (O,H,n)) (hR:∀ O H n,aj O H n->J P f N (.code y::k) O H n Q):J P f N (.code (.seq (.region id ops.toArray true) y)::k) O H n Q:=
  J.seq (J.Em cm aV t aj hm hN hB h hR)
end
section
variable {P:Program} {N:Nat} {ops:Array Oper} {cm:ax->Nat->Prop} {aV:List Nat} {R:AS->Prop} {O:Env} {H:ax} {n:Nat} {i:Nat} {l:iC} {Ty:Types}
theorem RunT.fin {aj:Env->ax->Nat->Prop} (h:aj O H n):RunT P N ops cm aV (atS aj) .fin (O,H,n):=h
theorem RunT.free {o:Oper} (v:au) (ho:ops.toList[i]?=some o) (hg:fm ops o O=some true) (hS:cm H n) (hop:∀ H n,cm H n->aN P N o (loc o.op O) H n (rX v H n)) (h:RunT P N ops cm aV R l (O.put o.dst v,H,n)):RunT P N ops cm aV R (.free i l) (O,H,n):=
  ⟨o,by rw[<- Array.getElem?_toList];exact ho,hS,_,⟨v,rfl,.inl ⟨hg,hop⟩⟩,h⟩
theorem RunT.As {o:Oper} (post:au->ax->Nat->Prop) (ho:ops.toList[i]?=some o) (hg:fm ops o O=some true) (hop:aN P N o (loc o.op O) H n post) (h:∀ v H' n',post v H' n'->(bn ops aV i=false->cm H' n')/\RunT P N ops cm aV R l (O.put o.dst v,H',n')):pG P N ops cm aV (RunT P N ops cm aV R l) i (O,H,n):=
  ⟨o,by rw[<- Array.getElem?_toList];exact ho,hg,post,hop,h⟩
theorem RunT.step (hT:aW P Ty) {o:Oper} {v:au} {H':ax} {n':Nat} (ho:ops.toList[i]?=some o) (hg:fm ops o O=some true) (hs:bc Ty o.dst o.op O H n=some (v,H',n')) (hS:bn ops aV i=false->cm H' n') (h:RunT P N ops cm aV R l (O.put o.dst v,H',n')):pG P N ops cm aV (RunT P N ops cm aV R l) i (O,H,n):=
  RunT.As (rX v H' n') ho hg (aH hT (by rw[aF];exact hs)) (by rintro _ _ _ ⟨rfl,rfl,rfl⟩;exact⟨hS,h⟩)
theorem RunT.same (hT:aW P Ty) {o:Oper} {v:au} (ho:ops.toList[i]?=some o) (hg:fm ops o O=some true) (hs:bc Ty o.dst o.op O H n=some (v,H,n)) (hS:bn ops aV i=false->cm H n) (h:RunT P N ops cm aV R l (O.put o.dst v,H,n)):pG P N ops cm aV (RunT P N ops cm aV R l) i (O,H,n):=
  RunT.step hT ho hg hs hS h
theorem eW {d:Operand} {args:Array Operand} {ats:Array TypeId}:args.toList.map (loc (.call ⟨.value d,args,ats⟩) O).ev=args.toList.map O.ev/\(loc (.call ⟨.value d,args,ats⟩) O).ev d=O.ev d:=
  ⟨List.map_congr_left fun x hx=>dm (by simp[Op.operands,Call.operands];exact .inr (by simpa using hx)),dm (by simp[Op.operands,Call.operands])⟩
theorem RunT.lK {K:List bX} {ids:List Id} {d:Option Tmp} {g:Operand} {args:Array Operand} {ats:Array TypeId} {ty:TypeId} {pos:String} {af:Array Edge} {gu:Option (Nat × Bool)} {R':au->Prop} {f':FuncId} {as1 cz:List au} {sh:Sh}
    (ho:ops.toList[i]?=some ⟨d,.call ⟨.value g,args,ats⟩,ty,pos,af,gu⟩) (hgu:fm ops ⟨d,.call ⟨.value g,args,ats⟩,ty,pos,af,gu⟩ O=some true) (h:bG P f' cz sh R') (c9:a8 P f') (ha:bS H n as1 cz) (hs:Sep H n K ids) (hg:O.ev g = .fn (.func f') [] []) (has:args.toList.map O.ev=as1)
    (hk:∀ v H1 U r,Sep H1 U ((sh,v,r)::K) ids->R' r->n<=U->(∀ i ∈ ids,H1 i=H i)->(bn ops aV i=false->cm H1 U)/\RunT P N ops cm aV R l (O.put d v,H1,U)) :
    pG P N ops cm aV (RunT P N ops cm aV R l) i (O,H,n):=
  RunT.As _ ho hgu (aN.lK (by rw[eW.2];exact hg) c9 (by rw[eW.1,has];exact ha) h hs) fun v H' n' ⟨r,h1,h2,h3,h4⟩=>hk v H' n' r h1 h2 h3 h4
theorem RunT.append (hT:aW P Ty) {d:Nat} {t:TypeId} {j:TI} {s x:Operand} {ty:TypeId} {pos:String} {af:Array Edge} {gu:Option (Nat × Bool)} {v xv:au} {l':List Sh} {es:List (List au)} {ids:List Id} (K1 K2:List bX) (add adds:List (List au))
    (ho:ops.toList[i]?=some ⟨some d,.call ⟨.builtin .append,#[s,x],#[t,t]⟩,ty,pos,af,gu⟩) (hgu:fm ops ⟨some d,.call ⟨.builtin .append,#[s,x],#[t,t]⟩,ty,pos,af,gu⟩ O=some true) (hsv:O.ev s=v) (hxv:O.ev x=xv) (h:Sep H n ((.s l',v,.list true es)::(K1++K2)) ids) (hk:kd Ty t = .slice j) (hj:j.size=l'.length) (hz:j.zero.length=j.size/\j.bytes<=131072)
    (hx:cA H xv=some add) (ho1:add.all (fun e=>e.all Ab.aM)=true) (hadd:∀ S,Row H (K1.map (·.1)) (K1.map (·.2.1)) (K1.map (·.2.2)) S->bM (Row H l') add adds S) (hne:adds ≠ []) (hlen:es.length+adds.length<=1073741824)
    (hc:∀ v' H' n',Sep H' n' ((.s l',v',.list true (es++adds))::K2) ids->(∀ i ∈ ids,H' i=H i)->n<=n'->(bn ops aV i=false->cm H' n')/\RunT P N ops cm aV R l (O.put (some d) v',H',n')):pG P N ops cm aV (RunT P N ops cm aV R l) i (O,H,n):=by
  obtain⟨v',H',n',h1,h2,h3,h4⟩:=Sep.append (d:=d) h hk hj hz hx ho1 hadd hne hlen;obtain⟨q1,q2⟩:=hc v' H' n' h2 h3 h4;refine RunT.step hT ho hgu ?_ q1 q2;show (if t=t then bo Ty (some d) t (O.ev s) (O.ev x) H n else none)=_;rw[if_pos rfl,hsv,hxv,h1]
theorem RunT.dH (hT:aW P Ty) {d:Nat} {t:TypeId} {j:TI} {s x:Operand} {ty:TypeId} {pos:String} {af:Array Edge} {gu:Option (Nat × Bool)} {v xv:au} {l':List Sh} {es:List (List au)} {K:List bX} {ids:List Id} (add:List (List au))
    (ho:ops.toList[i]?=some ⟨some d,.call ⟨.builtin .append,#[s,x],#[t,t]⟩,ty,pos,af,gu⟩) (hgu:fm ops ⟨some d,.call ⟨.builtin .append,#[s,x],#[t,t]⟩,ty,pos,af,gu⟩ O=some true) (hsv:O.ev s=v) (hxv:O.ev x=xv) (h:Sep H n ((.s l',v,.list true es)::K) ids) (hf:∀ t ∈ l',t = .c) (hk:kd Ty t = .slice j) (hj:j.size=l'.length) (hz:j.zero.length=j.size/\j.bytes<=131072)
    (hx:cA H xv=some add) (ho1:∀ e ∈ add,e.length=l'.length/\∀ a ∈ e,bY a/\Ab.aM a=true) (hlen:es.length+add.length<=1073741824)
    (hc:∀ v' H' n',Sep H' n' ((.s l',v',.list true (es++add))::K) ids->(∀ i ∈ ids,H' i=H i)->n<=n'->(bn ops aV i=false->cm H' n')/\RunT P N ops cm aV R l (O.put (some d) v',H',n')):pG P N ops cm aV (RunT P N ops cm aV R l) i (O,H,n):=by
  obtain⟨v',H',n',h1,h2,h3,h4⟩:=Sep.dH (d:=d) h hf hk hj hz hx ho1 hlen;obtain⟨q1,q2⟩:=hc v' H' n' h2 h3 h4;refine RunT.step hT ho hgu ?_ q1 q2;show (if t=t then bo Ty (some d) t (O.ev s) (O.ev x) H n else none)=_;rw[if_pos rfl,hsv,hxv,h1]
theorem aN.stillD {d:Option Tmp} {g:Operand} {args:Array Operand} {ats:Array TypeId} {ty:TypeId} {pos:String} {af:Array Edge} {gu:Option (Nat × Bool)} {v:au} {f':FuncId} {as1:List au} (h:cB P f' as1 H n (fun r=>r=v)) (c9:a8 P f') (hg:O.ev g = .fn (.func f') [] []) (has:args.toList.map O.ev=as1) :
    aN P N ⟨d,.call ⟨.value g,args,ats⟩,ty,pos,af,gu⟩ (loc (.call ⟨.value g,args,ats⟩) O) H n (rX v H n):=
  aN.call (by rw[eW.2];exact hg) c9 (by rw[eW.1,has,List.nil_append,List.append_nil];exact h)
theorem aN.GH (hT:aW P Ty) {d:Option Tmp} {ty:TypeId} {pos:String} {af:Array Edge} {gu:Option (Nat × Bool)} {t:TypeId} {s x:Operand} {j:TI} {fr t':Bool} {l m:List Int} (hk:kd Ty t = .slice j) (hz:j.size=1/\j.zero.length=1/\j.bytes<=131072) (hs:O.ev s = .clip fr (l.map mR)) (hx:O.ev x = .list t' (m.map av))
    (hne:m ≠ []) (hm:l.length+m.length<=1073741824) :
    aN P N ⟨d,.call ⟨.builtin .append,#[s,x],#[t,t]⟩,ty,pos,af,gu⟩ (loc (.call ⟨.builtin .append,#[s,x],#[t,t]⟩) O) H n (rX (.list true ((l++m).map av)) H n):=by
  have e1:(loc (.call ⟨.builtin .append,#[s,x],#[t,t]⟩) O).ev s=O.ev s:=dm (by simp[Op.operands,Call.operands]);have e2:(loc (.call ⟨.builtin .append,#[s,x],#[t,t]⟩) O).ev x=O.ev x:=dm (by simp[Op.operands,Call.operands]);exact aN.DY hT hk hz (by rw[e1];exact hs) (by rw[e2];exact hx) hne hm
end
end Go.Ab
namespace Go.Ab.Vg
abbrev lS (l:List Int) (_:Int):Prop:=l.length<=1048576
def dw (l:List Int) (s:Int):Int:=if s ∈ l then (l.idxOf s:Int) else -1
theorem Bt {l:List Int} {s:Int} (h:∀ j<l.length,at' l (j:Int) ≠ s):dw l s = -1:=by
  rw[dw,if_neg];intro hm;obtain⟨j,hj,he⟩:=List.getElem_of_mem hm;exact h j hj (by rw[bp hj];exact he)
theorem yQ {l:List Int} {s:Int} {k:Nat} (hk:k<l.length) (h:∀ j<k,at' l (j:Int) ≠ s) (he:at' l (k:Int)=s):dw l s=k:=by
  rw[bp hk] at he;have hm:s ∈ l:=he ▸ List.getElem_mem hk;rw[dw,if_pos hm];have h1:l.idxOf s<l.length:=List.idxOf_lt_length_iff.2 hm;have h2:l[l.idxOf s]=s:=List.getElem_idxOf h1;have h3:¬ l.idxOf s<k:=fun hlt=>h _ hlt (by rw[bp h1];exact h2)
  have h4:¬ k<l.idxOf s:=fun hlt=>by
    have:=List.not_of_lt_findIdx (p:=(· == s)) (xs:=l) hlt;simp[he] at this
  omega
theorem Ck (l:List Int) (s:Int) : -1<=dw l s/\dw l s<l.length/\(0<=dw l s↔s ∈ l):=by
  rw[dw]
  split
  · rename_i h
    have h1:l.idxOf s<l.length:=List.idxOf_lt_length_iff.2 h;exact⟨by omega,by omega,fun _=>h,fun _=>by omega⟩
  · rename_i h
    exact⟨by omega,by omega,fun h2=>by omega,fun h2=>absurd h2 h⟩
def kX (s:List Int) (v_:Int) (Z:Int->Prop):Prop:=
  ∀ bh:Int,bh=(s.length:Int)->aO (σ:=Int) (fun v6 K9=>∀ c10:Bool,c10=decide (v6<bh)->((c10=true->(0<=v6/\v6<s.length)/\∀ x13:Int,x13=at' s v6->∀ c15:Bool,c15=decide (v_=x13)->((c15=true->Z v6)/\(c15=false->(bB (v6+1))/\∀ v18:Int,v18=v6+1->K9 (v18))))/\(c10=false->Z (-1)))) (0)
theorem BJ (l:List Int) (s:Int) (h:lS l s):kX l s (fun y=>y=dw l s):=by
  unfold kX;rintro _ rfl;refine aO.xj l.length (fun k=>∀ j<k,at' l (j:Int) ≠ s) (by simp) ?_;rintro k K hk hI IH;simp only[forall_eq,decide_eq_true_eq,decide_eq_false_iff_not,bB];refine⟨fun h1=>⟨by omega,fun h2=>(yQ (by omega) hI h2.symm).symm,fun h2=>⟨by omega,IH (by omega) fun j hj=>?_⟩⟩,fun h1=>?_⟩
  · rcases Nat.lt_or_ge j k with h3 | h3
    · exact hI j h3
    · rw[show j=k by omega];exact fun h=>h2 h.symm
  · rw[Bt fun j hj=>hI j (by omega)]
abbrev uI (l:List Int):List Int:=l
abbrev jO (l:List Int):Prop:=l.length<=1048576
def k8 (s:List Int) (Z:(List Int)->Prop):Prop:=
  ∀ c2:Bool,(c2=true->s=[])->((c2=true->Z [])/\(c2=false->(([]:List Int).length+s.length<=1073741824)/\∀ l7:List Int,l7=([]:List Int)++s->Z l7))
theorem Bu (l:List Int) (h:jO l):k8 l (fun y=>y=uI l):=by
  unfold k8;intro c hc;refine⟨fun h1=>(hc h1).symm,fun _=>⟨by simp;omega,?_⟩⟩;rintro _ rfl;simp
end Go.Ab.Vg
namespace Go.Ab.Vg
open Go.Proofs
set_option maxRecDepth 100000
attribute [local simp] av
theorem Gp:a8 prog 109:=a8.of func109 (by kernel_rfl) rfl
theorem vR (s:List Int) (v_:Int) (Z:Int->Prop) (h:kX s v_ Z):aC prog 109 [.list false (s.map av),int v_] (fun r=>∃ y:Int,Z y/\r=int y):=by
  unfold kX at h;refine aC.of func109 rfl ntmps109 (by simp) fun Q hQ=>?_
  refine J.cut (fun O H n=>(O 0 = .list false (s.map av)/\O 1=int v_)) (by simp) ?_;rintro O H U E;refine zE fun _ V=>?_
  simp[E];apply V;refine zS fun _ V=>?_
  obtain⟨bh,elen2,h⟩:=aK h;have f3:=fun H=>aI (H:=H) (fr:=false) (f:=av) aS elen2
  simp[E,f3,-aL];apply V;apply J.block;refine J.aO h (fun (sJ:Int) O H n=>match sJ with | v6=>(O 0 = .list false (s.map av)/\O 1=int v_/\O 7=int bh/\O 8=int v6)) (by simp[E]) ?_;clear E;rintro v6 O H n7 K h E IH8;refine zE fun _ V=>?_
  obtain⟨d,e,h⟩:=aK h;have f11:=aY (k:=.i64) e;simp[E,f11,-aw];apply V;apply J.seq;refine J.ite (b:=d) (by simp[E]) (fun a=>?_) (fun a=>?_)
  · replace h:=h.1 a
    apply zK;apply J.block;refine zE fun _ V=>?_
    simp[E,a];apply V;refine zE fun _ V=>?_
    obtain⟨g,h⟩:=h;obtain⟨t,i,h⟩:=aK h;have f14:=fun H=>aP (H:=H) (fr:=false) (f:=av) (k:=.i64) aS (fun _=>rfl) g i
    obtain⟨j,l,h⟩:=aK h;have f16:=eg (k:=.i64) l;simp[E,f14,f16,a,-ar,-aw];apply V;refine J.ite (b:=j) (by simp[E,a]) (fun c=>?_) (fun c=>?_)
    · replace h:=h.1 c
      refine zE fun _ V=>?_
      simp[E,a,c];apply V;exact J.bj (v:=int v6) func109 results109 (by simp[E,a,c]) (hQ _ _ _ _ (.of (.v _)) ⟨v6,h,rfl⟩)
    replace h:=h.2 c;apply J.skip;refine zI fun _ V=>?_
    obtain⟨o,h⟩:=h;obtain⟨p,q,h⟩:=aK h;have f19:=aU o q;simp[E,f19,a,c,-aw];apply V;refine IH8 (p) _ _ _ h (by simp[E,a,c])
  replace h:=h.2 a;refine J.exit rfl ?_;refine zE fun _ V=>?_
  simp[E,a];apply V;exact J.bj (v:=int (-1)) func109 results109 (by simp[E,a]) (hQ _ _ _ _ (.of (.v _)) ⟨(-1),h,rfl⟩)
theorem tl (s:List Int) (v_:Int) (hp:lS s v_):aC prog 109 [.list false (s.map av),int v_] (fun r=>r=int (dw s v_)):=(vR s v_ _ (BJ s v_ hp)).mono (by rintro _ ⟨_,rfl,rfl⟩;rfl)
theorem e142:a8 prog 142:=a8.of func142 (by kernel_rfl) rfl
theorem qQ (t:Bool) (l:List Int) (H:ax) (n:Nat):cB prog 142 [.list t (l.map av)] H n (fun r=>r = .clip t (l.map mR)):=by
  refine bE.of func142 rfl ntmps142 (by simp) fun Q hQ=>?_
  refine J.cut (fun O H1 U=>O 0 = .list t (l.map av)/\H1=H/\U=n) (by simp) ?_;rintro O H U ⟨h0,rfl,rfl⟩;refine zE fun _ V=>?_
  simp[h0];apply V;refine zE fun _ V=>?_
  have f1:=fun H=>aI (H:=H) (fr:=t) (f:=av) (l:=l) (v:=(l.length:Int)) aS rfl
  simp[h0,f1];refine bz.DP (fr:=t) (vs:=l.map mR) (k1:=.i64) (k2:=.i64) ay (by decide) (by decide) aS (by rw[nc];simp[h0]) (by simp) (by simp) ?_;simp;apply V;exact J.bj (v:=.clip t (l.map mR)) func142 results142 (by simp) (hQ _ _ _ ⟨rfl,rfl,rfl⟩)
theorem e106:a8 prog 106:=a8.of func106 (by kernel_rfl) rfl
theorem wH (s:List Int) (Z:(List Int)->Prop) (h:k8 s Z):bG prog 106 [.list false (s.map av)] (.s [.c]) (fun r=>∃ y:List Int,Z y/\r = .list true (y.map av)):=by
  unfold k8 at h;have M:Sep bw 0 [] []:=Sep.nil (by simp);refine bG.of func106 rfl ntmps106 (by simp) fun Q hQ=>?_
  refine J.cut (fun O H n=>O 0 = .list false (s.map av)/\Sep H n [] []) (by refine⟨by simp ,M⟩) ?_;rintro O H U ⟨E,M⟩;refine zE fun _ V=>?_
  simp[E];apply V;refine zS fun _ V=>?_
  simp[E];refine bz.isNil (fr:=false) (els:=s.map av) ay (by decide) (by decide) aS (by simp[E]) (by simp[E]) ?_;rintro c2 hc3;replace h:=h c2 (fun hq=>by simpa using hc3 hq);simp[E];apply V;refine J.ite (b:=c2) (by simp[E]) (fun dc2=>?_) (fun dc2=>?_)
  · replace h:=h.1 dc2
    refine zE fun _ V=>?_
    simp[E,dc2];apply V;exact J.bj (v:=.v (.slice none 0 0)) func106 results106 (by simp[E,dc2]) (hQ _ _ _ _ (Sep.sub (dK:=[]) (Sep.ju M) (by simp)) ⟨[],h,rfl⟩)
  replace h:=h.2 dc2;apply J.skip;refine zE fun _ V=>?_
  obtain⟨hb6,h⟩:=h;obtain⟨l7,el7,h⟩:=aK h;simp[E,dc2,-bo];refine dg (s.map av) (Sep.addEmpty (l:=[.c]) M) (by simp) aS (by simp) (by simp) (by simp[cA]) (by simp[-aM,bu]) (by simpa using hb6) ?_;rintro v8 H9 d M e g;replace M:Sep H9 d [oI v8 l7] []:=by refine Sep.ap el7 ?_;exact M
  simp[E,dc2];apply V;refine J.cut (fun O H n=>∃ (a:au),O 2=a/\Sep H n [oI a l7] []) (by refine⟨v8,by simp[E,dc2],M⟩) ?_;clear E;rintro O H n15 ⟨a,E,M⟩;exact J.bj (v:=a) func106 results106 (by simp[E]) (hQ _ _ _ _ (Sep.sub (dK:=[]) M (by simp)) ⟨l7,h,rfl⟩)
theorem tG (s:List Int) (hp:jO s):bG prog 106 [.list false (s.map av)] (.s [.c]) (fun r=>r = .list true ((uI s).map av)):=(wH s _ (Bu s hp)).mono (by rintro _ ⟨_,rfl,rfl⟩;rfl)
end Go.Ab.Vg
namespace Go.Ab
theorem yL {v:au} (h:Ab.aM v=true):aE v=some [v]:=by
  cases v with
  | v x=>cases x<;>first | rfl | (simp[Ab.aM,one] at h)
  | undef=>simp[Ab.aM] at h
  | agg=>simp[Ab.aM] at h
  | tup=>simp[Ab.aM] at h
  | _=>rfl
theorem fY.p8 {n:Nat} {a:au} (h:fY a):pn n a:=by
  induction h with
  | v x=>exact .v x
  | agg cs _ ih=>exact .agg cs ih
  | tup cs _ ih=>exact .tup cs ih
  | list fr els _ ih=>exact .list fr els ih
  | iface t a _ ih=>exact .iface t a ih
section
variable {H:ax} {n:Nat}
theorem aJ.oX {X:Id} {sz:Nat} {cs ds:List au} (hX:H X=some ⟨sz,[cs]⟩) (h:bS H n cs ds):aJ H n (.ptr X 1 0 0) (.iptr false ds):=by
  intro c x hH hn g r c' hw hc;obtain⟨hl,hi⟩:=h.get;rw[<- hH] at hX;cases r with
  | ptr _ _ _ _ x h1 hlt hg E=>
    obtain⟨_,rfl⟩:=E _ hX rfl;have hcell:∀ (j:Nat) (a:au),cs[j]?=some a->∃ y,c.w.cell? ⟨c.β X,0 * sz+j,none⟩=some y/\bW c a y:=fun j a ha=>g.cell hX (i:=0) rfl ha
    have hget:∀ (j:Nat) (b:au),ds[j]?=some b->∃ a,cs[j]?=some a:=fun j b hb=>⟨_,List.getElem?_eq_getElem (show j<cs.length by rw[hl];exact (List.getElem?_eq_some_iff.1 hb).1)⟩
    refine .iptr false ds _ (fun j=>(c.w.cell? ⟨c.β X,0 * sz+j,none⟩).getD Go.undef) rfl (Dm hc _) (by rw[hw];exact g.lt hX) (fun h=>by cases h) (fun j b hb=>?_) (fun j b hb=>?_)
    · obtain⟨a,ha⟩:=hget j b hb
      obtain⟨y,hy,_⟩:=hcell j a ha;rw[hw];show c.w.cell? ⟨c.β X,0 * sz+j,none⟩=_;rw[hy];rfl
    · obtain⟨a,ha⟩:=hget j b hb
      obtain⟨y,hy,hr⟩:=hcell j a ha;simp only[hy,Option.getD_some];exact hi j a b ha hb c y hH hn g hr c' hw hc
theorem aJ.fnF {f:Fn} {as1 as' bs bs':List au} (h1:bS H n as1 as') (h2:bS H n bs bs'):aJ H n (.fn f as1 bs) (.fn f as' bs'):=by
  intro c x hH hn g r c' hw hc;obtain⟨l1,i1⟩:=h1.get;obtain⟨l2,i2⟩:=h2.get;cases r with
  | fn _ _ _ vs us hl hl' ha hb=>
    refine .fn f as' bs' vs us (by omega) (by omega) (fun i a x hx hv=>?_) (fun i a x hx hv=>?_)
    · have hi:=(List.getElem?_eq_some_iff.1 hx).1
      have e:as1[i]?=some (as1[i]'(by omega)):=List.getElem?_eq_getElem (by omega);exact i1 i _ a e hx c x hH hn g (ha i _ x e hv) c' hw hc
    · have hi:=(List.getElem?_eq_some_iff.1 hx).1
      have e:bs[i]?=some (bs[i]'(by omega)):=List.getElem?_eq_getElem (by omega);exact i2 i _ a e hx c x hH hn g (hb i _ x e hv) c' hw hc
theorem bS.app {as1 as' bs bs':List au} (h:bS H n as1 as') (h':bS H n bs bs'):bS H n (as1++bs) (as'++bs'):=by
  induction h with
  | nil=>exact h'
  | cons h _ ih=>exact .cons h ih
theorem aC.args {P:Program} {f:FuncId} {as1 as':List au} {R:au->Prop} (h:aC P f as' R) (ha:bS H n as1 as'):cB P f as1 H n R:=by
  intro c xs hH hn gd hl;have hb:Good ⟨c.w.heap.size,fun _=>0,bw,0,c.w⟩:=ll c.w;obtain⟨hlen,hget⟩:=ha.get;have hrep:dD ⟨c.w.heap.size,fun _=>0,bw,0,c.w⟩ as' xs:=by
    refine⟨by rw[<- hlen];exact hl.1,fun i b x hb' hx=>?_⟩;have hi:=(List.getElem?_eq_some_iff.1 hb').1;have ha':as1[i]?=some (as1[i]'(by omega)):=List.getElem?_eq_getElem (by omega);exact hget i _ b ha' hb' c x hH hn gd (hl.2 i _ x ha' hx) _ rfl (fun _=>rfl)
  refine (h _ xs rfl rfl hb hrep).mono ?_;rintro e w' ⟨x,v,c1,he,hw,⟨r,hres,hR⟩,hrv,hg1,hk⟩;subst hw;have hnomu:∀ k,¬ Ctx.mu ⟨c.w.heap.size,fun _=>0,bw,0,c.w⟩ k:=by
    rintro k ⟨id,o,ho,_⟩;cases ho
  obtain⟨hkc,hgc⟩:=ee gd c1.w ⟨hk.os,hk.tape,hk.output⟩ hk.size (fun k V=>(hk.imm k V (hnomu k)).1);refine⟨x,r,{ c with w:=c1.w },he,rfl,⟨hR,hH,hn⟩,?_,hgc,hkc⟩;refine hres c1 x rfl rfl hg1 hrv { c with w:=c1.w } rfl ?_ ?_
  · rintro k ⟨id,o,ho,hb'⟩
    have hlt:c.β id<c.w.heap.size:=gd.lt ho;rw[hk.B];show k<c.w.heap.size;simp only at hb';omega
  · rw[hk.B]
    exact gd.Bsize
end
section
variable {P:Program} {f:FuncId} {N:Nat} {k:List Item} {Q:au->ax->Nat->Prop} {Ty:Types} {l:List Oper} {O:Env} {H:ax} {n:Nat}
theorem bz.pe (hT:aW P Ty) {d:Option Tmp} {g:Operand} {args:Array Operand} {ats:Array TypeId} {ty:TypeId} {pos:String} {af:Array Edge} {R:au->Prop} {f':FuncId} {xs1 xs2 ys1 ys2:List au} {ops:List Oper}
    (h:aC P f' (xs2++ys2) R) (c9:a8 P f') (ha:bS H n xs1 xs2) (hb:bS H n ys1 ys2) (hN:ops.all (fun o=>dC N o.dst)=true) (hl:(⟨d,.call ⟨.value g,args,ats⟩,ty,pos,af,none⟩::l:List Oper).all (fun o=>dC N o.dst)=true) (hg:O.ev g = .fn (.func f') [] ys1) (has:args.toList.map O.ev=xs1)
    (hk:∀ v,R v->cd P f N k Q Ty ops.toArray l (O.put d v) H n) :
    bz P f N k Q ops.toArray (⟨d,.call ⟨.value g,args,ats⟩,ty,pos,af,none⟩::l) O H n:=
  bz.wa hT (cl:=.fn (.func f') [] ys1) ⟨f',[],ys1,rfl,c9,by rw[List.nil_append];exact aC.args h (ha.app hb)⟩ hN hl hg has hk
theorem aN.pe {d:Option Tmp} {g:Operand} {args:Array Operand} {ats:Array TypeId} {ty:TypeId} {pos:String} {af:Array Edge} {gu:Option (Nat × Bool)} {v:au} {f':FuncId} {xs xs2 ys1 ys2:List au}
    (h:aC P f' (xs2++ys2) (fun r=>r=v)) (c9:a8 P f') (ha:bS H n xs xs2) (hb:bS H n ys1 ys2) (hg:O.ev g = .fn (.func f') [] ys1) (has:args.toList.map O.ev=xs) :
    aN P N ⟨d,.call ⟨.value g,args,ats⟩,ty,pos,af,gu⟩ (loc (.call ⟨.value g,args,ats⟩) O) H n (rX v H n):=by
  have h1:(loc (.call ⟨.value g,args,ats⟩) O).ev g=O.ev g:=dm (by simp[Op.operands,Call.operands]);have h2:args.toList.map (loc (.call ⟨.value g,args,ats⟩) O).ev=args.toList.map O.ev:=List.map_congr_left fun x hx=>dm (by simp[Op.operands,Call.operands];exact .inr (by simpa using hx))
  exact aN.call (by rw[h1];exact hg) c9 (by rw[h2,has,List.nil_append];exact aC.args h (ha.app hb))
theorem bf.pe (hT:aW P Ty) {κ:Op->Nat} (hκ:Di κ) {d:Option Tmp} {g:Operand} {args:Array Operand} {ats:Array TypeId} {ty:TypeId} {pos:String} {af:Array Edge} {v:au} {f':FuncId} {xs1 xs2 ys1 ys2:List au} {ops:Array Oper}
    (h:aC P f' (xs2++ys2) (fun r=>r=v)) (c9:a8 P f') (ha:bS H n xs1 xs2) (hb:bS H n ys1 ys2) (h0:κ (.call ⟨.value g,args,ats⟩) ≠ 0) (hg:O.ev g = .fn (.func f') [] ys1) (has:args.toList.map O.ev=xs1)
    (hk:dv P f N k Q Ty κ ops l (O.put d v) H n):bf P f N k Q κ ops (⟨d,.call ⟨.value g,args,ats⟩,ty,pos,af,none⟩::l) O H n:=
  bf.op hT hκ rfl h0 (fun _=>⟨rfl,rfl⟩) (aN.pe h c9 ha hb hg has) hk
theorem bz.lF (hT:aW P Ty) {ops:Array Oper} {o:Oper} {v:au} (hl:(o::l).all (fun o=>dC N o.dst)=true) (hg:o.guard=none) (hs:bc Ty o.dst o.op O H n=some (v,H,n)) (h:bz P f N k Q ops l (O.put o.dst v) H n):bz P f N k Q ops (o::l) O H n:=by
  simp only[List.all_cons,Bool.and_eq_true] at hl;refine fA.op hg hl.1 ((aH hT hs).mono ?_);rintro _ _ _ ⟨rfl,rfl,rfl⟩;exact h
theorem bz.makeS (hT:aW P Ty) {ops:List Oper} {d len:Nat} {t:TypeId} {j:TI} {ps:Array (Nat × Operand)} {ty:TypeId} {pos:String} {af:Array Edge} {l':List Sh} {K:List bX} {ids:List Id} {cs:List au} (es:List (List au)) (h:Sep H n K ids)
    (hN:ops.all (fun o=>dC N o.dst)=true) (hl:(⟨some d,.buildSlice t len ps,ty,pos,af,none⟩::l:List Oper).all (fun o=>dC N o.dst)=true) (hf:∀ t ∈ l',t = .c) (hk:kd Ty t = .slice j) (hj:j.size=l'.length) (h0:len ≠ 0/\len * j.size<=16777216/\j.size ≠ 0/\j.zero.length=j.size)
    (hcs:dZ (fun k=>some (k * j.size,j.size)) ((List.replicate len (j.zero.map au.v)).flatten) (ps.toList.map fun p=>(p.1,O.ev p.2))=some cs) (hes:chunks j.size len cs=es) (hel:es.length=len) (ho:∀ e ∈ es,e.length=l'.length/\∀ a ∈ e,flat a=true)
    (hc:∀ id H' n',Sep H' n' ((.s l',.arr id len 0 len,.list true es)::K) ids->(∀ i ∈ ids,H' i=H i)->n<=n'->cd P f N k Q Ty ops.toArray l (O.put (some d) (.arr id len 0 len)) H' n'):bz P f N k Q ops.toArray (⟨some d,.buildSlice t len ps,ty,pos,af,none⟩::l) O H n:=by
  subst hes;have e:jd Ty (some d) (.buildSlice t len ps) O H n=some (.arr (n,d) len 0 len,H.set (n,d) ⟨j.size,chunks j.size len cs⟩,n+1):=by
    simp only[jd,hk];rw[if_pos h0,hcs]
    rfl
  refine bz.op hT hN hl rfl (oe (o:=⟨some d,.buildSlice t len ps,ty,pos,af,none⟩) hT e).1 ?_;rintro _ _ _ ⟨rfl,rfl,rfl⟩;have h1:=Sep.rK (d:=d) (l:=l') (els:=chunks j.size len cs) (es:=chunks j.size len cs) h (bM.DD ho hf);rw[hel,<- hj] at h1;exact hc (n,d) _ _ h1 (fun i hi=>ax.aG _ _ (by rintro rfl;have:=h.1 _ hi;simp at this)) (Nat.le_succ n)
end
end Go.Ab
namespace Go.Ab.Vg
open Go.Proofs
section
variable {P:Program} {f:FuncId} {N:Nat} {k:List Item} {O:Env} {H:ax} {n:Nat} {Q:au->ax->Nat->Prop}
theorem J.subX {X:Id} {sz:Nat} {rows rows':List (List au)} (hX:H X=some ⟨sz,rows⟩) (hl:rows.length=rows'.length) (hr:∀ (i:Nat) (e e':List au),rows[i]?=some e->rows'[i]?=some e'->jK e e') (h:J P f N k O (H.set X ⟨sz,rows'⟩) n Q):J P f N k O H n Q:=by
  intro c a hH hn g r b cs hf hk;subst hH hn;have hdom:∀ id o',(c.H.set X ⟨sz,rows'⟩) id=some o'->∃ o,c.H id=some o/\o.size=o'.size/\o.els.length=o'.els.length:=by
    intro id o' ho;rw[ax.aZ] at ho
    split at ho
    · rename_i he;subst he;cases ho;exact⟨_,hX,rfl,hl⟩
    · exact⟨o',ho,rfl,rfl⟩
  let c2:Ctx:={ c with H:=c.H.set X ⟨sz,rows'⟩ }
  have k2:bD c c2:=by
    refine⟨Nat.le_refl _,rfl,Nat.le_refl _,rfl,rfl,rfl,fun k hk hm=>⟨rfl,?_⟩,fun id o' ho _=>?_⟩
    · rintro⟨id,o,ho,hb⟩
      obtain⟨o2,h2,_⟩:=hdom id o ho;exact hm ⟨id,o2,h2,hb⟩
    · obtain⟨o,h1,h2,h3⟩:=hdom id o' ho
      exact⟨o,h1,h2,Nat.le_of_eq h3,fun _=>⟨rfl,fun cl el fz h=>⟨cl,el,fz,h,Nat.le_refl _⟩⟩⟩
  have g2:Good c2:=by
    refine⟨fun id o ho=>?_,fun id id' o o' ho ho' hb=>?_,g.Bsize,fun id o ho=>?_⟩
    · obtain⟨o2,h2,_⟩:=hdom id o ho
      exact g.stamp id o2 h2
    · obtain⟨o2,h2,_⟩:=hdom id o ho
      obtain⟨o3,h3,_⟩:=hdom id' o' ho';exact g.inj id id' o2 o3 h2 h3 hb
    · obtain⟨o2,h2,h3,h4⟩:=hdom id o ho
      obtain⟨p1,cl,el,p2,p3,p4⟩:=g.obj id o2 h2;refine⟨p1,cl,el,p2,by rw[<- h3,<- h4];exact p3,fun i e he=>?_⟩;have ho':(c.H.set X ⟨sz,rows'⟩) id=some o:=ho;rw[ax.aZ] at ho'
      split at ho'
      · rename_i hid
        subst hid;cases ho';rw[hX] at h2;cases h2;obtain⟨e0,he0⟩:=bk (l:=rows) (i:=i) (by rw[hl];exact (List.getElem?_eq_some_iff.1 he).1);obtain⟨s1,s2⟩:=(hr i e0 e he0 he).get;refine⟨by rw[<- s1];exact (p4 i e0 he0).1,fun j a ha=>?_⟩;obtain⟨a0,ha0⟩:=bk (l:=e0) (i:=j) (by rw[s1];exact (List.getElem?_eq_some_iff.1 ha).1);obtain⟨x,hx,hrp⟩:=(p4 i e0 he0).2 j a0 ha0;exact⟨x,hx,s2 j a0 a ha0 ha c2 x (hrp.keeps k2)⟩
      · rw[ho'] at h2
        cases h2;obtain⟨q1,q2⟩:=p4 i e he;refine⟨q1,fun j a ha=>?_⟩;obtain⟨x,hx,hrp⟩:=q2 j a ha;exact⟨x,hx,hrp.keeps k2⟩
  obtain⟨x,v,c',fr,q,hr',hg,hke,rest⟩:=h c2 a rfl rfl g2 (r.keeps k2) b cs hf hk;exact⟨x,v,c',fr,q,hr',hg,k2.trans hke,rest⟩
def F3 (K:List bX):Prop:=∀ e ∈ K,∃ v l,e=oI v l
theorem Row.allI {H:ax}:∀ {K:List bX} {S:List Id},F3 K->Row H (K.map (·.1)) (K.map (·.2.1)) (K.map (·.2.2)) S->(∀ i ∈ S,∃ l:List Int,H i=some ⟨1,l.map av⟩)/\∀ e ∈ K,e.2.1 = .v (.slice none 0 0)\/∃ i ∈ S,∃ g,e.2.1 = .arr i g 0 g
  | [],S,_,h=>by simp only[List.map_nil,Row] at h;subst h;exact⟨by simp,by simp⟩
  | e::K,S,hK,h=>by
    obtain⟨v,l,rfl⟩:=hK e (by simp);simp only[List.map_cons,Row] at h;obtain⟨S1,S2,h1,h2,rfl,_⟩:=h;obtain⟨q1,q2⟩:=Row.allI (fun e he=>hK e (by simp[he])) h2;simp only[Tr] at h1;rcases h1 with ⟨rfl,_,rfl⟩ | ⟨id,els,es,T,rfl,he,hm,hr,_,rfl⟩
    · refine⟨fun i hi=>q1 i (by simpa using hi),fun e he=>?_⟩
      rcases List.mem_cons.1 he with rfl | he
      · exact .inl rfl
      · rcases q2 e he with h | ⟨i,hi,g,h⟩
        · exact .inl h
        · exact .inr ⟨i,by simpa using hi,g,h⟩
    · injection he with _ he
      subst he;have hel:els=l.map av/\T=[]:=by
        have:∀ {xs bs:List (List au)} {S:List Id},bM (Row H [.c]) xs bs S->xs=bs/\S=[]:=by
          intro xs
          induction xs with
          | nil=>intro bs S hr;match bs,hr with
            | [],hr=>exact⟨rfl,hr⟩
            | _::_,hr=>exact hr.elim
          | cons a xs ih=>
            intro bs S hr
            match bs,hr with
            | b::bs,⟨T1,T2,q1,q2,q3,_⟩=>
              obtain⟨e1,e2,_⟩:=q1.fill (by simp);obtain⟨e3,e4⟩:=ih q2;exact⟨by rw[e1,e3],by rw[q3,e2,e4];rfl⟩
            | [],hr=>exact hr.elim
        exact this hr
      obtain⟨rfl,rfl⟩:=hel;refine⟨fun i hi=>?_,fun e he=>?_⟩
      · simp only[List.mem_append,List.mem_singleton] at hi
        rcases hi with rfl | hi
        · exact⟨l,hm⟩
        · exact q1 i hi
      · rcases List.mem_cons.1 he with rfl | he
        · exact .inr ⟨id,by simp,_,rfl⟩
        · rcases q2 e he with h | ⟨i,hi,g,h⟩
          · exact .inl h
          · exact .inr ⟨i,by simp[hi],g,h⟩
theorem J.fzT {v:au} {l:List Int} {K:List bX} {ids:List Id} (M:Sep H n (oI v l::K) ids) (hK:F3 K)
    (h:∀ (H':ax) (φ:au->au),Sep H' n K ids->(∀ i ∈ ids,H' i=(H i).map fun o=>⟨o.size,o.els.map fun e=>e.map φ⟩)->(∀ a,fY a->φ a=a)->(∀ e ∈ K,φ e.2.1=e.2.1)->(∀ i ∈ ids,∀ g x y,φ (.ptr i g x y) = .ptr i g x y/\φ (.arr i g x y) = .arr i g x y) ->
      (fY (φ v)/\Sub (φ v) (.list true (l.map av)))->J P f N k (fun t=>φ (O t)) H' n Q):J P f N k O H n Q:=by
  have hform:=Sep.G9 M (by simp);rcases hform with ⟨rfl,rfl⟩ | ⟨id,rfl,hm⟩
  · refine h H (fun a=>a) (Sep.dr M) (fun i _=>?_) (fun _ _=>rfl) (fun _ _=>rfl) (fun _ _ _ _ _=>⟨rfl,rfl⟩) ⟨.v _,Sub.nil true⟩
    cases H i with
    | none=>rfl
    | some o=>simp
  · refine J.GG id hm (by intro e he a ha;obtain⟨x,_,rfl⟩:=List.mem_map.1 he;simp only[av,List.mem_singleton] at ha;subst ha;rfl) ?_
    have hφ:∀ a,fY a->fz (fun i=>decide (i=id)) H a=a:=fun a ha=>pn.fz (n:=0) (fun _ _=>Nat.zero_le _) ha.p8
    obtain⟨h0,S1,S2,hr1,hr2,hd,hS1,hS2⟩:=Sep.split (K1:=[oI (.arr id l.length 0 l.length) l]) (K2:=K) M;have hid:id ∈ S1:=by
      simp only[List.map_cons,List.map_nil,Row,Tr] at hr1;obtain⟨T1,T2,q1,rfl,rfl,_⟩:=hr1;rcases q1 with ⟨q,_⟩ | ⟨id',els,es,T,q,_,_,_,_,rfl⟩
      · cases q
      · injection q with q;subst q;simp
    obtain⟨_,hi⟩:=hS1 id hid;obtain⟨hfl,hvs⟩:=Row.allI hK hr2;have hfr:∀ i ∈ S2,G5 (fun i=>decide (i=id)) H i=H i:=fun i hi2=>by
      obtain⟨l',hl'⟩:=hfl i hi2;rw[Ek (show i ≠ id from fun e=>hd id hid (e ▸ hi2)),hl'];simp only[Option.map_some,Option.some.injEq,Ob.mk.injEq,true_and];exact Fc fun e he a ha=>by obtain⟨x,_,rfl⟩:=List.mem_map.1 he;simp only[av,List.mem_singleton] at ha;subst ha;rfl
    refine h _ _ ?_ (fun i hi2=>?_) hφ (fun e he=>?_) (fun i hi2 g x y=>?_) ?_
    · exact⟨h0,S2,Row.frame hr2 hfr,hS2⟩
    · exact Ek (show i ≠ id from fun e=>hi (e ▸ hi2))
    · rcases hvs e he with h1 | ⟨i,hi2,g,h1⟩
      · rw[h1];exact Bb _
      · rw[h1,re,if_neg]
        simp only[decide_eq_true_eq];exact fun e=>hd id hid (e ▸ hi2)
    · have hne:i ≠ id:=fun e=>hi (e ▸ hi2)
      rw[yB,re];simp[hne]
    · rw[fz_own hm (by simp)]
      refine⟨.list _ _ fun e he a ha=>?_,Sub.refl _⟩;obtain⟨x,_,rfl⟩:=List.mem_map.1 he;simp only[av,List.mem_singleton] at ha;subst ha;exact .v _
theorem J.fzS {v:au} {l:List Int} {K:List bX} {ids:List Id} (M:Sep H n (oI v l::K) ids) (hK:F3 K)
    (h:∀ (H':ax) (φ:au->au),Sep H' n K ids->(∀ i ∈ ids,H' i=(H i).map fun o=>⟨o.size,o.els.map fun e=>e.map φ⟩)->(∀ a,fY a->φ a=a)->(∀ e ∈ K,φ e.2.1=e.2.1)->(∀ i ∈ ids,∀ g x y,φ (.ptr i g x y) = .ptr i g x y/\φ (.arr i g x y) = .arr i g x y) ->
      Sub (φ v) (.list true (l.map av))->J P f N k (fun t=>φ (O t)) H' n Q):J P f N k O H n Q:=
  J.fzT M hK fun H' φ h1 h2 h3 h4 h5 h6=>h H' φ h1 h2 h3 h4 h5 h6.2
theorem J.Hf {ids:List Id}:∀ (es:List (au × List Int)) {O:Env} {H:ax},Sep H n (es.map fun e=>oI e.1 e.2) ids ->
    (∀ (H':ax) (φ:au->au),Sep H' n [] ids->(∀ i ∈ ids,H' i=(H i).map fun o=>⟨o.size,o.els.map fun e=>e.map φ⟩)->(∀ a,fY a->φ a=a)->(∀ e ∈ es,Sub (φ e.1) (.list true (e.2.map av)))->(∀ i ∈ ids,∀ g x y,φ (.ptr i g x y) = .ptr i g x y/\φ (.arr i g x y) = .arr i g x y) ->
      J P f N k (fun t=>φ (O t)) H' n Q)->J P f N k O H n Q
  | [],O,H,M,h=>h H (fun a=>a) M (fun i _=>by cases H i with
    | none=>rfl
    | some o=>simp) (fun _ _=>rfl) (by simp) (fun _ _ _ _ _=>⟨rfl,rfl⟩)
  | e::es,O,H,M,h=>by
    replace M:Sep H n (oI e.1 e.2::es.map fun e=>oI e.1 e.2) ids:=by rw[List.map_cons] at M;exact M
    refine J.fzT M (fun x hx=>by obtain⟨y,_,rfl⟩:=List.mem_map.1 hx;exact⟨_,_,rfl⟩) fun H1 φ sp1 fr1 hφ hkv hptr hsub=>?_
    refine J.Hf es sp1 fun H2 ψ sp2 fr2 hψ hes hptr2=>?_
    have:=h H2 (fun a=>ψ (φ a)) sp2 (fun i hi=>?_) (fun a ha=>by rw[hφ a ha,hψ a ha]) (fun x hx=>?_) (fun i hi g x y=>by rw[(hptr i hi g x y).1,(hptr i hi g x y).2];exact hptr2 i hi g x y)
    · exact this
    · rw[fr2 i hi,fr1 i hi]
      cases H i with
      | none=>rfl
      | some o=>simp[Function.comp_def]
    · rcases List.mem_cons.1 hx with rfl | hx
      · rw[hψ _ hsub.1];exact hsub.2
      · have h1:=hkv (oI x.1 x.2) (List.mem_map.2 ⟨x,hx,rfl⟩)
        simp only at h1;rw[h1];exact hes x hx
end
end Go.Ab.Vg
namespace Go.Ab
structure Rule where
  redex:I
  reactum:I
  copies:List Int
  deriving Inhabited,DecidableEq
structure Guard where
  zone:Int
  neg:Bool
  pattern:I
  deriving Inhabited,DecidableEq
structure Sys where
  states:List I
  steps:List (Int × Int × Int)
  deriving Inhabited,DecidableEq
def Sys.cells (t:Bool) (x:Sys):List au:=[.list t (x.states.map (I.cells t)),.list t (x.steps.map aT)]
theorem Gv (t:Bool) (b:I):(b.cells t).map old=b.cells false:=by
  have h1:=nQ t b.sites;have h2:=qJ t b.nodes;have h3:=rE t b.outer;have h4:=rY t b.inner;simp only[encI,aB,encS,aD] at h1 h2 h3 h4;simp only[I.cells,encI,aB,encS,aD,List.map_cons,List.map_nil,h1,h2,h3,h4]
  rfl
theorem mN (t:Bool) (b:I):∀ a ∈ b.cells t,fY a:=by
  intro a ha;simp only[I.cells,List.mem_cons,List.not_mem_nil,or_false] at ha;rcases ha with rfl | rfl | rfl | rfl | rfl | rfl
  · exact .v _
  · exact qq t b.nodes
  · exact od t b.sites
  · exact .v _
  · exact qn t b.outer
  · exact rO t b.inner
theorem oZ (t:Bool) (l:List I):old (.list t (l.map (I.cells t))) = .list false (l.map (I.cells false)):=by
  rw[fg,List.map_map]
  congr 1
  exact List.map_congr_left fun x _=>Gv t x
theorem aJ.bK {H:ax} {n:Nat} (t:Bool) (l:List I):aJ H n (.list t (l.map (I.cells t))) (.list false (l.map (I.cells false))):=by
  refine aJ.su (.list _ _ fun e he a ha=>?_) (oZ t l);obtain⟨x,_,rfl⟩:=List.mem_map.1 he;exact mN t x a ha
theorem ej (l:List (Int × Int × Int)):∀ e ∈ l.map aT,∀ a ∈ e,flat a=true:=by
  intro e he a ha;obtain⟨x,_,rfl⟩:=List.mem_map.1 he;simp only[aT,List.mem_cons,List.not_mem_nil,or_false] at ha;rcases ha with rfl | rfl | rfl<;>rfl
section
variable {H:ax} {n:Nat}
end
end Go.Ab
namespace Go.Ab
section
variable {P:Program} {N:Nat} {Ty:Types} {O:Env} {H:ax} {n:Nat}
variable {d:Option Tmp} {ty:TypeId} {pos:String} {af:Array Edge} {gu:Option (Nat × Bool)}
theorem td {a:Act} {w w':World} {s x:Operand} {t t':TypeId} {u:Value} (h:(Builtin.copy_ #[t,t'] ty #[a.eval s,a.eval x]).run P w = .ok u w') :
    (execOp a.eval ⟨d,.call ⟨.builtin .copy,#[s,x],#[t,t']⟩,ty,pos,af,gu⟩).run P w = .ok (.value u) w':=by
  simp only[execOp,resolve,invoke,builtin,Sem.run_bind,Sem.run_pure,Result.andThen_ok,List.map_toArray,List.map_cons,List.map_nil,h]
def copied (es new:List (List au)) (off len:Nat):List (List au):=es.take off++new.take (min new.length len)++es.drop (off+min new.length len)
theorem rh {es new:List (List au)} {off len:Nat} (h:off+len<=es.length):(copied es new off len).length=es.length:=by simp[copied];omega
theorem aN.G7 (hT:aW P Ty) {t t':TypeId} {dst src:Operand} {j:TI} {id:Id} {g0 off len:Nat} {o:Ob} {els:List (List au)} (hk:kd Ty t = .slice j) (hj:j.size=1) (hd:O.ev dst = .arr id g0 off len) (hl:live H id g0=some o) (ho:o.size=1)
    (hs:cA H (O.ev src)=some els) (hes:els.all (·.length == 1)=true) (h1:els.all (fun e=>e.all aM)=true) :
    aN P N ⟨d,.call ⟨.builtin .copy,#[dst,src],#[t,t']⟩,ty,pos,af,gu⟩ O H n fun v1 H1 U=>v1=int (min els.length len:Nat)/\H1=H.set id ⟨1,copied o.els els off len⟩/\U=n:=by
  refine aN.dA fun c a hH hn g r=>?_
  subst hH;obtain⟨i,e,hi,hde,hje⟩:=cw hk;obtain⟨hu,_⟩:=hT t i hi;rw[hde] at hu;obtain⟨_,info,zv,hinfo,his,_,_,_⟩:=hT e j hje;have hs1:(P.info? e).map (·.size)=some 1:=by rw[hinfo];simp[his,hj]
  have rs:=r.ev dst;rw[hd] at rs;obtain⟨l1,l2⟩:=cS hl;have rx:=fS g (r.ev src) hs hes;generalize hsv:a.eval dst=sv at rs;generalize hxv:a.eval src=xv at rx;cases rs with
  | arr _ _ _ _ _ hone hn0 hg hp=>
  obtain⟨p1,ad,cap,rfl,hab,hsp,hlc,hoff,hcl⟩:=hp o l1 l2;obtain⟨ab,ao,asp⟩:=ad;simp only at hab hsp hoff;subst hab hsp;obtain⟨hB,cl,el,E,hsz,hel⟩:=g.obj id o l1;rw[ho] at hsz hoff;have hsame:min els.length len=0->c.H.set id ⟨1,copied o.els els off len⟩=c.H:=fun h0=>by
    funext q
    by_cases hq:q=id
    · subst hq
      rw[ax.bl,l1];have:copied o.els els off len=o.els:=by simp[copied,h0]
      rw[this,<- ho]
    · exact ax.aG _ _ hq
  by_cases hm:min els.length len=0
  · have hrun:(Builtin.copy_ #[t,t'] ty #[a.eval dst,a.eval src]).run P c.w = .ok (goInt 0) c.w:=by
      rw[hsv,hxv];rcases rx with ⟨rfl,rfl⟩ | ⟨a2,cap2,news,rfl,_⟩
      · exact run_copy_nil P c.w t t' ty e _ len cap hu (by rw[hs1];rfl)
      · exact run_copy_none c.w t t' ty e _ _ len cap els.length cap2 hu hs1 hm
    exact⟨_,_,c,td hrun,⟨by rw[hm];rfl,(hsame hm).symm,hn⟩,.v _,g,bD.refl c⟩
  · rcases rx with ⟨rfl,rfl⟩ | ⟨a2,cap2,news,rfl,hnl,hnc,hnr⟩
    · simp at hm
    have hao:ao=off:=by
      rcases hoff with h | h
      · omega
      · omega
    subst hao;have hog:o.els.length=g0:=l2;have hml:(news.take (min els.length len)).length=min els.length len:=by rw[List.length_take,hnl];omega
    have hone':∀ v ∈ news.take (min els.length len),v.oneCell'=true:=fun v hv=>DO h1 hnl hnr v (List.mem_of_mem_take hv)
    have hfit:ao+(news.take (min els.length len)).length<=cl.size:=by rw[hml];omega
    have hrun:(Builtin.copy_ #[t,t'] ty #[a.eval dst,a.eval src]).run P c.w = .ok (goInt (news.take (min els.length len)).length) (c.w.setRow (c.β id) (cl.toList.take ao++news.take (min els.length len)++cl.toList.drop (ao+(news.take (min els.length len)).length)).toArray):=by
      rw[hsv,hxv];exact run_copy_row P c.w t t' ty e (c.β id) ao len cap a2 els.length cap2 cl el _ hu hs1 E hml (fun j v hj=>hnc j v (by
        rw[List.getElem?_take] at hj
        split at hj
        · exact hj
        · cases hj)) hfit hone'
    have hov:(cl.toList.take ao++news.take (min els.length len)++cl.toList.drop (ao+(news.take (min els.length len)).length)).toArray=over cl ao (news.take (min els.length len)):=rfl;rw[hov] at hrun;have hup:=rJ g l1 ⟨1,copied o.els els ao len⟩ (c.w.setRow (c.β id) (over cl ao (news.take (min els.length len)))) cl (over cl ao (news.take (min els.length len))) el el ⟨rfl,rfl,rfl⟩ (by simp[World.setRow]) E (fun k hk=>setRow_other c.w _ k _ hk) (setRow_heap c.w _ cl _ el _ E)
      (by rw[gD hfit];exact Nat.le_refl _) ho (by rw[rh (by omega)];exact Nat.le_refl _) ⟨?_,?_⟩
    · exact⟨int (min els.length len:Nat),goInt (news.take (min els.length len)).length,{ c with H:=c.H.set id ⟨1,copied o.els els ao len⟩,w:=c.w.setRow (c.β id) (over cl ao (news.take (min els.length len))) },td hrun,⟨rfl,rfl,hn⟩,by rw[hml];exact .v _,hup.2,hup.1⟩
    · rw[gD hfit,rh (by omega)];simpa using hsz
    · intro q e' he
      simp only[copied] at he;have hcell:∀ (x:List au),o.els[q]?=some x->¬ (ao<=q/\q<ao+min els.length len)->x.length=1/\∀ (j:Nat) (y:au),x[j]?=some y->∃ z,(over cl ao (news.take (min els.length len)))[q * 1+j]?=some z/\bW c y z:=fun x hx hnot=>by
        obtain⟨h2,h3⟩:=hel q x hx;rw[ho] at h2 h3;refine⟨h2,fun j y hy=>?_⟩;have hj0:j=0:=by have:=(List.getElem?_eq_some_iff.1 hy).1;omega
        subst hj0;have h4:=h3 0 y hy
        rwa [iH hfit,hml,if_neg (by omega)]
      by_cases c1:q<ao
      · rw[List.append_assoc,List.getElem?_append_left (by simp;omega),List.getElem?_take,if_pos c1] at he
        exact hcell e' he (by omega)
      · by_cases c2:q<ao+min els.length len
        · rw[List.append_assoc,List.getElem?_append_right (by simp;omega),List.getElem?_append_left (by simp;omega),List.getElem?_take] at he
          have hmin:min ao o.els.length=ao:=by omega
          simp only[List.length_take,hmin] at he;rw[if_pos (by omega)] at he;obtain⟨h2,h3⟩:=hnr _ e' he;refine⟨h2,fun j y hy=>?_⟩;have hj0:j=0:=by have:=(List.getElem?_eq_some_iff.1 hy).1;omega
          subst hj0;obtain⟨z,hz,hrep⟩:=h3 0 y hy;refine⟨z,?_,hrep⟩;show (over cl ao (news.take (min els.length len)))[q * 1+0]?=some z;rw[iH hfit,hml,if_pos (by omega),List.getElem?_take,if_pos (by omega)];rw[<- hz];congr 1;omega
        · rw[List.getElem?_append_right (by simp;omega)] at he
          have hmin:min ao o.els.length=ao:=by omega
          have hmin2:min (min els.length len) els.length=min els.length len:=by omega
          simp only[List.length_append,List.length_take,hmin,hmin2,List.getElem?_drop] at he;rw[show ao+min els.length len+(q - (ao+min els.length len))=q by omega] at he;exact hcell e' he (by omega)
theorem aN.copy1' (hT:aW P Ty) {t t':TypeId} {dst src:Operand} {j:TI} {id:Id} {g0 off len m:Nat} {o:Ob} {els es':List (List au)} (hk:kd Ty t = .slice j) (hj:j.size=1) (hd:O.ev dst = .arr id g0 off len) (hl:live H id g0=some o) (ho:o.size=1)
    (hs:cA H (O.ev src)=some els) (hes:els.all (·.length == 1)=true) (h1:els.all (fun e=>e.all aM)=true) (hm:min els.length len=m) (he:copied o.els els off len=es') :
    aN P N ⟨d,.call ⟨.builtin .copy,#[dst,src],#[t,t']⟩,ty,pos,af,gu⟩ O H n (rX (int m) (H.set id ⟨1,es'⟩) n):=by
  subst hm he;exact aN.G7 hT hk hj hd hl ho hs hes h1
end
end Go.Ab
namespace Go.Ab.Vg
open Go.Proofs
theorem rep_vs (c:Ctx) (vs:List Value):bW c (.tup (vs.map au.v)) (.tuple vs.toArray):=.tup _ _ (by simp) fun i a x ha hx=>by
  rw[List.getElem?_map] at ha;rw[hx] at ha;simp only[Option.map_some,Option.some.injEq] at ha;exact ha ▸ .v x
theorem e174:a8 prog 174:=a8.of func174 (by kernel_rfl) rfl
theorem e158:a8 prog 158:=a8.of func158 (by kernel_rfl) rfl
theorem yI (x y:Nat) (hx:x<18446744073709551616) (hy:y<18446744073709551616):aC prog 174 [.v (.int .u64 x),.v (.int .u64 y)] (fun r=>r = .tup [.v (.int .u64 ((x * y / 18446744073709551616:Nat):Int)),.v (.int .u64 ((x * y % 18446744073709551616:Nat):Int))]):=by
  refine aC.w4 fun c xs _ r=>?_
  obtain⟨a,b,rfl,ha,hb⟩:=r.two2;rw[ha.cE,hb.cE];refine (Tryz.bits_Mul x y hx hy c.w).mono ?_;rintro e w' ⟨he,rfl⟩;exact⟨_,_,he,rfl,.tup _ (by simp),fun c'=>rep_vs c' [.int .u64 ((x * y / 18446744073709551616:Nat):Int),.int .u64 ((x * y % 18446744073709551616:Nat):Int)],Go.RowKit.Below.refl _ _⟩
theorem yJ {v:Int} {N m:Nat} (hm:m<=N):copied ((List.replicate m v++List.replicate (N - m) (0:Int)).map av) ((List.replicate m v).map av) m (N - m)=(List.replicate (m+min m (N - m)) v++List.replicate (N - (m+min m (N - m))) (0:Int)).map av:=by
  simp only[copied,List.length_map,List.length_replicate,<- List.map_take,<- List.map_drop,<- List.map_append]
  congr 1
  refine List.ext_getElem (by simp;omega) fun i h1 h2=>?_
  simp only[List.getElem_append,List.getElem_take,List.getElem_drop,List.getElem_replicate,List.length_append,List.length_take,List.length_replicate]
  repeat' split
  all_goals first | rfl | omega
theorem B2 (v n:Int) (h:0<=n/\n<=1048576):bG prog 158 [.list false ([v].map av),int n] (.s [.c]) (fun r=>r = .list true ((List.replicate n.toNat v).map av)):=by
  obtain⟨N,rfl⟩:∃ N:Nat,n=N:=⟨n.toNat,by omega⟩
  refine bG.of func158 rfl ntmps158 (by simp) fun Q hQ=>?_
  refine zE fun _ V=>?_
  simp;apply V;refine zS fun _ V=>?_
  simp;apply V;refine J.ite rfl (fun hc1=>?_) (fun hc1=>?_)
  · simp at hc1;omega
  clear hc1 V;apply J.skip;refine zE fun _ V=>?_
  simp;have hw:IntKind.u64.wrap (N:Int)=N:=by simp[IntKind.wrap,IntKind.bits,IntKind.signed];omega
  have hw1:IntKind.u64.wrap 1=1:=by simp[IntKind.wrap,IntKind.bits,IntKind.signed]
  have hwi:IntKind.i64.wrap (N:Int)=N:=wrap64 (by omega) (by omega);refine zA (yI 1 N (by omega) (by omega)) e174 (.cons (.v _ _ _) (.cons (.v _ _ _) .nil)) (by simp[hw,hw1]) ?_;rintro _ rfl;have hd:(N:Int) / 18446744073709551616=0:=by omega
  have hm:(N:Int) % 18446744073709551616=N:=by omega
  simp[hd,hm];apply V;refine zS fun _ V=>?_
  simp;apply V;refine J.ite rfl (fun hc1=>?_) (fun hc1=>?_)
  · simp at hc1;omega
  clear hc1 V hw1 hd hm;apply J.skip;refine zE fun _ V=>?_
  simp[hwi,show (N:Int)<=1073741824 by omega];apply V;refine J.cut (fun O H n=>O 0 = .list false [av v]/\O 7 = .arr (0,30) N 0 N/\H (0,30)=some ⟨1,(List.replicate N (0:Int)).map av⟩/\n=1) (by simp[av]) ?_;clear V hw hwi;rintro O H _ ⟨h0,h7,hH,rfl⟩;refine zE fun _ V=>?_
  simp[h0,h7];refine bz.op ay (by decide) (by decide) rfl (aN.G7 (id:=(0,30)) (g0:=N) (off:=0) (len:=N) (o:=⟨1,(List.replicate N (0:Int)).map av⟩) (els:=[v].map av) ay aS rfl (by simp[h7]) (by simp[live,hH]) rfl (by simp[cA,h0]) (by simp[av]) (by simp[av])) ?_;rintro _ H' n' ⟨rfl,rfl,rfl⟩;simp;apply V;refine J.cut (fun O H n=>∃ m:Nat,O 7 = .arr (0,30) N 0 N/\O 8=int m/\m<=N/\(m=0->N=0)/\H (0,30)=some ⟨1,(List.replicate m v++List.replicate (N - m) (0:Int)).map av⟩/\n=1) ⟨min 1 N,by simp[h7],by simp,by omega,by omega,?_,rfl⟩ ?_
  · have hc:copied (List.replicate N (av 0)) [av v] 0 N=(List.replicate (min 1 N) v++List.replicate (N - min 1 N) (0:Int)).map av:=by
      rcases Nat.eq_zero_or_pos N with h1 | h1
      · subst h1;simp[copied]
      · rw[show min 1 N=1 by omega];simp[copied,show min 1 N=1 by omega]
    simp[hc]
  clear V h0 h7 hH;rintro O H _ ⟨m,h7,h8,hm,hm0,hH,rfl⟩;apply J.seq;refine J.block (J.G3 (fun q O H n=>∃ m:Nat,q=N - m/\O 7 = .arr (0,30) N 0 N/\O 8=int m/\m<=N/\(m=0->N=0)/\H (0,30)=some ⟨1,(List.replicate m v++List.replicate (N - m) (0:Int)).map av⟩/\n=1) (N - m) ⟨m,rfl,h7,h8,hm,hm0,hH,rfl⟩ ?_);clear h7 h8 hm hm0 hH;rintro q O H _ ⟨m,rfl,h7,h8,hm,hm0,hH,rfl⟩ IH;refine zS fun _ V=>?_
  have hlen:((List.replicate m v++List.replicate (N - m) (0:Int)).map av).length=N:=by simp;omega
  generalize hels:(List.replicate m v++List.replicate (N - m) (0:Int)).map av=els at hH hlen;simp[h7,h8,live,hH,hlen];apply V;refine J.ite rfl (fun hc1=>?_) (fun hc1=>?_)
  · have hc1:m<N:=by simpa using hc1
    apply J.skip;apply J.block;refine J.gf ay aA bq (by decide) (by kernel_rfl) fun _ V=>?_
    simp[h7,h8,live,hH,hlen,hm];have hmm:((m:Int)+(min m (N - m):Nat))=((m+min m (N - m):Nat):Int):=by omega
    refine bf.op ay aA (v:=int (min m (N - m):Nat)) (H':=H.set (0,30) ⟨1,(List.replicate (m+min m (N - m)) v++List.replicate (N - (m+min m (N - m))) (0:Int)).map av⟩) (n':=1) rfl (by decide) (fun h=>by cases h) ?_ ?_
    · have e2:=yJ (v:=v) (N:=N) (m:=m) hm
      rw[hels] at e2;exact aN.copy1' (id:=(0,30)) (g0:=N) (off:=m) (len:=N - m) (o:=⟨1,els⟩) (els:=(List.replicate m v).map av) ay aS rfl (by rw[dm (by simp[Op.operands,Call.operands])];simp) (by simp[live,hH,hlen]) rfl
        (by rw[dm (by simp[Op.operands,Call.operands])];simp[cA,live,hH,<- hels,List.take_append,show m+(N - m)=N by omega]) (by simp[av]) (by simp[av]) (by simp) e2
    have hwr:IntKind.i64.wrap ((m:Int)+(min m (N - m):Nat))=((m+min m (N - m):Nat):Int):=by rw[hmm];exact wrap64 (by omega) (by omega)
    have hz1:0<min m (N - m):=by omega
    have hz2:m+min m (N - m)<=N:=by omega
    generalize hq:m+min m (N - m)=q at hwr hz2;generalize min m (N - m)=z at hq hwr hz1;simp[hwr];apply V;apply J.inBlock;exact IH (N - q) _ _ _ (by omega) ⟨q,rfl,by simp[h7],by simp,hz2,by omega,by simp,rfl⟩
  · have hc1:¬ m<N:=by simpa using hc1
    refine J.exit rfl ?_;refine zE fun _ V=>?_
    simp[h7];apply V;have hmN:m=N:=by omega
    subst hmN;simp at hels;exact J.bj (v:=.arr (0,30) m 0 m) func158 results158 (by simp) (hQ _ _ _ _ (Sep.ofArr (els:=els) (by simp) hH hlen (by simp) (by simp) (by simp[<- hels,av]) (by simp)) (by simp[<- hels]))
end Go.Ab.Vg
