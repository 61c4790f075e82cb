/- Merged texts (7 of 17) of the proof that ends in Icy: Gg Gh Gi Gj Gk Gl Gx Kg Se Sd Ki Kiw Sh Ke St Sc Re. -/
import Derived.Test.YtkocdlgoncmdbaaGreatDoorAbQic6
import Derived.Laws.CopyRow
import Derived.Laws.IdiomCopy
/- Contract of spec.l2Sig. -/
namespace Go.Ab
open Go.Proofs
set_option linter.unusedSimpArgs false
theorem newName_at {sig:Sig} {i j:Nat} (hi:i<sig.length) (hj:j<i) (h:sig[j].name=sig[i].name):newName sig i=false:=by
  have hg:sig.getD i default=sig[i]:=by simp[hi]
  have:(sig.take i).any (fun d=>d.name == sig[i].name)=true:=by
    rw[List.any_eq_true]
    refine⟨sig[j],?_,by simpa using h⟩
    rw[List.mem_take_iff_getElem]
    exact⟨j,by omega,rfl⟩
  rw[newName,hg,this]
  rfl
theorem newName_end {sig:Sig} {i:Nat} (hi:i<sig.length) (h:∀ j (hj:j<sig.length),j<i→¬ sig[j].name=sig[i].name):newName sig i=true:=by
  have hg:sig.getD i default=sig[i]:=by simp[hi]
  have:(sig.take i).any (fun d=>d.name == sig[i].name)=false:=by
    rw[List.any_eq_false]
    intro d hd
    rw[List.mem_take_iff_getElem] at hd
    obtain⟨j,hj,rfl⟩:=hd
    have:=h j (by omega) (by omega)
    simpa using this
  rw[newName,hg,this]
  rfl
theorem l2Sig_ok (sig:Sig) (hl:sig.length≤1048576) (hs:∀ c ∈ sig,c.name.length≤1048576):PureC Tryz.prog 75 [encSig false sig] (fun r=>r=bool (goodSig sig)):=by
  refine PureC.of Tryz.func75 rfl Tryz.ntmps75 (by simp) fun Q hQ=>?_
  refine Runs.seqE Ty_ok (by decide) fun k' hk'=>?_
  simp [encSig]   -- R0
  apply hk'
  refine Runs.seq ?_
  refine Runs.seqE Ty_ok (by decide) fun k' hk'=>?_
  simp   -- R1
  apply hk'
  have bad:∀ k,k<sig.length→okCtl sig k=false→∀ H n,Q (bool false) H n:=fun k hk hb H n=>hQ _ _ _ _ (.v _ _ _) (by rw[goodSig_eq,all_range_bad hk hb,Bool.and_false])
  refine Runs.block (Runs.loopUp sig.length (fun k ρ H n=>ρ 0 = .list false (sig.map Control.cells)∧ρ 3=int k∧∀ i,i<k→okCtl sig i=true) ?_ ?_)
  · simp
  · rintro k ρ H n hk ⟨h0,h3,hall⟩ IH
    refine Runs.seq ?_
    refine Runs.seqE Ty_ok (by decide) fun k' hk'=>?_
    simp [h0, h3]   -- R2
    apply hk'
    refine Runs.ite rfl (fun hc1 => ?_) (fun hc1 => ?_)   -- t8
    · have hc1:k<sig.length:=by simpa using hc1
      have hgk:sig.getD k default=sig[k]:=by simp[hc1]
      refine Runs.skip ?_
      refine Runs.seq ?_
      refine Runs.block ?_
      refine Runs.seq ?_
      refine Runs.seqE Ty_ok (by decide) fun k' hk'=>?_
      have fin:∀ ρ:Env,ρ 0 = .list false (sig.map Control.cells)→ρ 3=int k→ρ 35=bool (!okControl sig[k])→Runs Tryz.prog 75 55 k' ρ H n Q:=by
        intro ρ h0 h3 h35
        apply hk'
        refine Runs.ite h35 (fun hc2 => ?_) (fun hc2 => ?_)   -- t35
        · have hb:okControl sig[k]=false:=by simpa using hc2
          refine Runs.seqE Ty_ok (by decide) fun k' hk'=>?_
          simp   -- R5
          apply hk'
          exact Runs.ret Tryz.func75 (RetOk.one Tryz.results75) (bad k hc1 (by rw[okCtl,hgk,hb,Bool.false_and]) _ _)
        · have hb:okControl sig[k]=true:=by simpa using hc2
          refine Runs.skip ?_
          refine Runs.seqE Ty_ok (by decide) fun k' hk'=>?_
          simp   -- R6
          apply hk'
          refine Runs.block (Runs.loopUp k (fun j ρ H n=>ρ 0 = .list false (sig.map Control.cells)∧ρ 3=int k∧ρ 4=int j∧∀ q (hq:q<sig.length),q<j→¬ sig[q].name=sig[k].name) ?_ ?_)
          · simp[h0,h3]
          · rintro j ρ H n hj ⟨h0,h3,h4,hno⟩ IH2
            refine Runs.seq ?_
            refine Runs.seqE Ty_ok (by decide) fun k' hk'=>?_
            simp [h3, h4]   -- R7
            apply hk'
            refine Runs.ite rfl (fun hc3 => ?_) (fun hc3 => ?_)   -- t38
            · have hc3:j<k:=by simpa using hc3
              have hjl:j<sig.length:=by omega
              refine Runs.skip ?_
              refine Runs.seq ?_
              refine Runs.block ?_
              refine Runs.seqD Ty_ok kindOp_ok draws (by decide) (by kernel_rfl) fun k' hk'=>?_
              simp [h0, h3, h4, hc1, hjl, Control.cells]   -- R9
              apply hk'
              refine Runs.ite rfl (fun hc4 => ?_) (fun hc4 => ?_)   -- t51
              · have hc4:sig[j].name=sig[k].name:=by simpa using hc4
                refine Runs.seqE Ty_ok (by decide) fun k' hk'=>?_
                simp   -- R10
                apply hk'
                exact Runs.ret Tryz.func75 (RetOk.one Tryz.results75) (bad k hc1 (by rw[okCtl,newName_at hc1 hc3 hc4,Bool.and_false]) _ _)
              · have hc4:¬ sig[j].name=sig[k].name:=by simpa using hc4
                refine Runs.skip ?_
                refine Runs.inBlock ?_
                refine Runs.evalE Ty_ok (by decide) fun k' hk'=>?_
                simp [h4, wrap_succ (show j < 4611686018427387904 by omega)]   -- R8
                apply hk'
                refine IH2 hc3 _ _ _ ⟨by simp[h0,Control.cells],by simp[h3],by simp,fun q hq hqj=>?_⟩
                rcases Nat.lt_or_ge q j with h | h
                · exact hno q hq h
                · have:q=j:=by omega
                  subst this
                  exact hc4
            · have hc3:¬ j<k:=by simpa using hc3
              have hje:j=k:=by omega
              subst hje
              refine Runs.exit rfl ?_
              refine Runs.inBlock ?_
              refine Runs.evalE Ty_ok (by decide) fun k' hk'=>?_
              simp [h3, wrap_succ (show j < 4611686018427387904 by omega)]   -- R3
              apply hk'
              refine IH hc1 _ _ _ ⟨by simp[h0],by simp,fun i hi=>?_⟩
              rcases Nat.lt_or_ge i j with h | h
              · exact hall i h
              · rw[show i=j by omega,okCtl,hgk,hb,newName_end hc1 hno]
                rfl
      simp [h0, h3, hc1, Control.cells]   -- R4
      refine RunK.callA Ty_ok (l2Name_ok sig[k].name (Nat.le_trans (hs _ (List.getElem_mem hc1)) (by decide))) e127 (.cons (.v _ _ _) .nil) (by decide) (by decide) rfl (by simp) ?_
      rintro _ rfl
      cases hnm:isNm sig[k].name
      · simp[guardOf]
        exact fin _ (by simp[h0,Control.cells]) (by simp[h3]) (by simp only[okControl,hnm];simp)
      · simp[h0,h3,hc1,Control.cells,guardOf]
        refine RunK.callA Ty_ok (l1In_ok sig[k].ports 0 3) e76 (.cons (.v _ _ _) (.cons (.v _ _ _) (.cons (.v _ _ _) .nil))) (by decide) (by decide) rfl (by simp) ?_
        rintro _ rfl
        cases hpo:within sig[k].ports 0 3
        · simp[guardOf]
          exact fin _ (by simp[h0,Control.cells]) (by simp[h3]) (by simp only[okControl,hnm,hpo];simp)
        · simp[h0,h3,hc1,Control.cells,guardOf]
          refine RunK.callA Ty_ok (l1In_ok sig[k].kind 0 2) e76 (.cons (.v _ _ _) (.cons (.v _ _ _) (.cons (.v _ _ _) .nil))) (by decide) (by decide) rfl (by simp) ?_
          rintro _ rfl
          simp[guardOf]
          exact fin _ (by simp[h0,Control.cells]) (by simp[h3]) (by simp only[okControl,hnm,hpo];simp)
    · have hc1:¬ k<sig.length:=by simpa using hc1
      have hke:k=sig.length:=by omega
      subst hke
      refine Runs.exit rfl ?_
      refine Runs.seqE Ty_ok (by decide) fun k' hk'=>?_
      simp [h0]   -- R11
      refine RunK.callA Ty_ok (l1In_ok sig.length 1 6) e76 (.cons (.v _ _ _) (.cons (.v _ _ _) (.cons (.v _ _ _) .nil))) (by decide) (by decide) rfl (by simp) ?_
      rintro _ rfl
      simp
      apply hk'
      exact Runs.ret Tryz.func75 (RetOk.one Tryz.results75) (hQ _ _ _ _ (.v _ _ _) (by rw[goodSig_eq,all_range_end hall,Bool.and_true]))
end Go.Ab
/- Contract of impl.IsBigraph. -/
namespace Go.Ab
open Go.Proofs
set_option linter.unusedSimpArgs false
theorem e40:Ent Tryz.prog 40:=Ent.of Tryz.func40 (by kernel_rfl) rfl
theorem e95:Ent Tryz.prog 95:=Ent.of Tryz.func95 (by kernel_rfl) rfl
theorem e97:Ent Tryz.prog 97:=Ent.of Tryz.func97 (by kernel_rfl) rfl
theorem e99:Ent Tryz.prog 99:=Ent.of Tryz.func99 (by kernel_rfl) rfl
structure SmallB (sig:Sig) (b:Big):Prop where
  sigLen:sig.length≤1048576
  sigNames:∀ c ∈ sig,c.name.length≤1048576
  nodesLen:b.nodes.length≤1048576
  sitesLen:b.sites.length≤1048576
  outerLen:b.outer.length≤1048576
  innerLen:b.inner.length≤1048576
  outerNames:∀ s ∈ b.outer,s.length≤1048576
  innerNames:∀ w ∈ b.inner,w.name.length≤1048576
  linksLen:∀ x ∈ b.nodes,x.links.length≤1048576
  parents:∀ x ∈ b.nodes,I64 x.parent
  sites64:∀ p ∈ b.sites,I64 p
theorem clos76 {H:Heap} {n:Nat} {X:Id} (b:Big) (he:0≤b.edges∧b.edges≤8) (ho:b.outer.length≤1048576) (hX:H X=some ⟨6,[b.cells false]⟩) (l:Int):ClosC Tryz.prog H n (.fn (.func 95) [] [.ptr X 1 0 0]) [int l] (fun r=>r=bool (!okLink b l)):=by
  refine⟨95,[],[.ptr X 1 0 0],rfl,e95,?_⟩
  have hX':=hX
  simp only[Big.cells] at hX'
  refine StillC.of Tryz.func95 rfl Tryz.ntmps95 (by simp) fun Q hB hQ=>?_
  refine Runs.seqE Ty_ok (by decide) fun k' hk'=>?_
  simp   -- R0
  apply hk'
  refine Runs.seqE Ty_ok (by decide) fun k' hk'=>?_
  simp [hX']   -- R1
  refine RunK.callA Ty_ok (isLink_ok b l he ho) e96 (.cons (ArgOk.encB false b) (.cons (.v _ _ _) .nil)) (by decide) (by decide) rfl (by simp[encB,Big.cells]) ?_
  rintro _ rfl
  simp
  apply hk'
  exact Runs.ret Tryz.func95 (RetOk.one Tryz.results95) (hQ _ _ _ _ (.bnd (.v _)) (Frame.refl _ _) (by simp))
theorem clos80 {H:Heap} {n:Nat} {X:Id} (b:Big) (he:0≤b.edges∧b.edges≤8) (ho:b.outer.length≤1048576) (hX:H X=some ⟨6,[b.cells false]⟩) (w:Wire):ClosC Tryz.prog H n (.fn (.func 99) [] [.ptr X 1 0 0]) [.agg w.cells] (fun r=>r=bool (!okLink b w.link)):=by
  refine⟨99,[],[.ptr X 1 0 0],rfl,e99,?_⟩
  have hX':=hX
  simp only[Big.cells] at hX'
  refine StillC.of Tryz.func99 rfl Tryz.ntmps99 (by simp) fun Q hB hQ=>?_
  have hXn:=(hB X _ hX).1
  have hX2:¬ X=(n,2):=by rintro rfl;simp at hXn
  refine Runs.seqE Ty_ok (by decide) fun k' hk'=>?_
  simp [Wire.cells]   -- R0
  apply hk'
  refine Runs.seqE Ty_ok (by decide) fun k' hk'=>?_
  simp [hX2, hX']   -- R1
  refine RunK.callA Ty_ok (isLink_ok b w.link he ho) e96 (.cons (ArgOk.encB false b) (.cons (.v _ _ _) .nil)) (by decide) (by decide) rfl (by simp[encB,Big.cells]) ?_
  rintro _ rfl
  simp
  apply hk'
  exact Runs.ret Tryz.func99 (RetOk.one Tryz.results99) (hQ _ _ _ _ (.bnd (.v _)) (Frame.set (by simp) (Frame.refl _ _)) (by simp))
theorem clos78 {H:Heap} {n:Nat} {X Y:Id} (sig:Sig) (b:Big) (hr:0≤b.roots∧b.roots≤4) (hc:CtlOk sig b b.nodes.length) (hX:H X=some ⟨6,[b.cells false]⟩) (hY:H Y=some ⟨1,[[encSig false sig]]⟩) (p:Int) :
    ClosC Tryz.prog H n (.fn (.func 97) [] [.ptr X 1 0 0,.ptr Y 1 0 0]) [int p] (fun r=>r=bool (!okParent sig b p b.nodes.length)):=by
  refine⟨97,[],[.ptr X 1 0 0,.ptr Y 1 0 0],rfl,e97,?_⟩
  have hX':=hX
  simp only[Big.cells,encN] at hX'
  have hY':=hY
  simp only[encSig] at hY'
  refine StillC.of Tryz.func97 rfl Tryz.ntmps97 (by simp) fun Q hB hQ=>?_
  refine Runs.seqE Ty_ok (by decide) fun k' hk'=>?_
  simp   -- R0
  apply hk'
  refine Runs.seqE Ty_ok (by decide) fun k' hk'=>?_
  simp [hX', hY']   -- R1
  refine RunK.callA Ty_ok (isParent_ok sig b p b.nodes.length hr (Nat.le_refl _) hc) e93 (.cons (ArgOk.encB false b) (.cons (ArgOk.encSig false sig) (.cons (.v _ _ _) (.cons (.v _ _ _) .nil)))) (by decide) (by decide) rfl (by simp[encB,Big.cells,encN,encSig]) ?_
  rintro _ rfl
  simp
  apply hk'
  exact Runs.ret Tryz.func97 (RetOk.one Tryz.results97) (hQ _ _ _ _ (.bnd (.v _)) (Frame.refl _ _) (by simp))
theorem ctl_step {sig:Sig} {b:Big} {k:Nat} (h:okNodeB sig b k=true) (hk:CtlOk sig b k):CtlOk sig b (k+1):=by
  intro i hi
  rcases Nat.lt_or_ge i k with h1 | h1
  · exact hk i h1
  · have:i=k:=by omega
    subst this
    simp only[okNodeB,within,Bool.and_eq_true,decide_eq_true_eq] at h
    omega
def goodPre (sig:Sig) (b:Big):Bool:=
  goodSig sig && within b.roots 0 4 && decide (b.nodes.length≤8) && decide (b.sites.length≤4) && within b.edges 0 8 && goodNames b.outer && goodNames (names b)
theorem goodB_eq (sig:Sig) (b:Big):goodB sig b=(goodPre sig b && (List.range b.nodes.length).all (okNodeB sig b) && b.sites.all (fun p=>okParent sig b p b.nodes.length) && b.inner.all (fun w=>okLink b w.link)):=rfl
theorem any_not {α:Type} (l:List α) (p:α→Bool):(l.any fun x => !p x) = !l.all p:=by
  induction l with
  | nil=>rfl
  | cons a l ih=>simp[ih]
theorem IsBigraph_ok (sig:Sig) (b:Big) (hs:SmallB sig b):PureC Tryz.prog 40 [encSig false sig,encB false b] (fun r=>r=bool (goodB sig b)):=by
  obtain⟨s1,s2,s3,s4,s5,s6,s7,s8,s9,_,_⟩:=hs
  have hnl:(names b).length≤1048576:=by simpa[names] using s6
  have hnn:∀ s ∈ names b,s.length≤1048576:=by
    intro s hs
    obtain⟨w,hw,rfl⟩:=List.mem_map.1 hs
    exact s8 w hw
  refine PureC.of Tryz.func40 rfl Tryz.ntmps40 (by simp) fun Q hQ=>?_
  refine Runs.seqE Ty_ok (by decide) fun k' hk'=>?_
  simp [encSig, encB, Big.cells]   -- R0
  apply hk'
  refine Runs.cut (fun ρ H n=>ρ 2 = .ptr (0,2) 1 0 0∧ρ 3 = .ptr (1,3) 1 0 0∧H (0,2)=some ⟨1,[[encSig false sig]]⟩∧H (1,3)=some ⟨6,[b.cells false]⟩) ⟨by simp,by simp,by simp[encSig],by simp[Big.cells]⟩ ?_
  clear hk'
  rintro ρ H n ⟨h2,h3,hm2,hm3⟩
  have hm2':=hm2
  simp only[encSig] at hm2'
  have hm3':=hm3
  simp only[Big.cells,encN,encI,encS,encW] at hm3'
  refine Runs.seq ?_
  refine Runs.seqE Ty_ok (by decide) fun k' hk'=>?_
  have fin:∀ ρ:Env,ρ 2 = .ptr (0,2) 1 0 0→ρ 3 = .ptr (1,3) 1 0 0→ρ 45=bool (!goodPre sig b)→Runs Tryz.prog 40 101 k' ρ H n Q:=by
    intro ρ h2 h3 h45
    apply hk'
    refine Runs.ite h45 (fun hc1 => ?_) (fun hc1 => ?_)   -- t45
    · have hb:goodPre sig b=false:=by simpa using hc1
      refine Runs.seqE Ty_ok (by decide) fun k' hk'=>?_
      simp   -- R2
      apply hk'
      exact Runs.ret Tryz.func40 (RetOk.one Tryz.results40) (hQ _ _ _ _ (.v _ _ _) (by rw[goodB_eq,hb];rfl))
    · have hb:goodPre sig b=true:=by simpa using hc1
      have hb':=hb
      simp only[goodPre,within,Bool.and_eq_true,decide_eq_true_eq] at hb'
      obtain⟨⟨⟨⟨⟨⟨_,hr⟩,hn8⟩,_⟩,hed⟩,_⟩,_⟩:=hb'
      refine Runs.skip ?_
      refine Runs.seq ?_
      refine Runs.seqE Ty_ok (by decide) fun k' hk'=>?_
      simp [h3, hm3']   -- R3
      apply hk'
      refine Runs.block (Runs.loopUp b.nodes.length (fun k ρ H n=>ρ 2 = .ptr (0,2) 1 0 0∧ρ 3 = .ptr (1,3) 1 0 0∧ρ 47 = .list false (b.nodes.map (GNode.cells false))∧ρ 48=int b.nodes.length∧ρ 49=int k ∧
        H (0,2)=some ⟨1,[[encSig false sig]]⟩∧H (1,3)=some ⟨6,[b.cells false]⟩∧CtlOk sig b k∧(∀ i,i<k→okNodeB sig b i=true)) ?_ ?_)
      · exact⟨by simp[h2],by simp[h3],by simp,by simp,by simp,hm2,hm3,fun i hi=>by omega,fun i hi=>by omega⟩
      · clear h2 h3 hm2' hm3'
        rintro k ρ H n hk ⟨h2,h3,h47,h48,h49,hm2,hm3,hctl,hall⟩ IH
        have hm2':=hm2
        simp only[encSig] at hm2'
        have hm3':=hm3
        simp only[Big.cells,encN,encI,encS,encW] at hm3'
        refine Runs.seqE Ty_ok (by decide) fun k' hk'=>?_
        simp [h48, h49]   -- R4
        apply hk'
        refine Runs.seq ?_
        refine Runs.ite rfl (fun hc2 => ?_) (fun hc2 => ?_)   -- t50
        · have hc2:k<b.nodes.length:=by simpa using hc2
          have hgk:b.nodes.getD k default=b.nodes[k]:=by simp[hc2]
          refine Runs.skip ?_
          refine Runs.seq ?_
          refine Runs.block ?_
          refine Runs.seqE Ty_ok (by decide) fun k' hk'=>?_
          simp [h47, h49, hc2, GNode.cells]   -- R5
          apply hk'
          refine Runs.cut (fun ρ H m=>ρ 2 = .ptr (0,2) 1 0 0∧ρ 3 = .ptr (1,3) 1 0 0∧ρ 47 = .list false (b.nodes.map (GNode.cells false))∧ρ 48=int b.nodes.length∧ρ 49=int k∧ρ 5=int k∧ρ 6 = .ptr (n,6) 1 0 0 ∧
            H (0,2)=some ⟨1,[[encSig false sig]]⟩∧H (1,3)=some ⟨6,[b.cells false]⟩∧H (n,6)=some ⟨3,[b.nodes[k].cells false]⟩∧m=n+1) ?_ ?_
          · exact⟨by simp[h2],by simp[h3],by simp[h47],by simp[h48],by simp[h49],by simp,by simp,by simp[hm2],by simp[hm3],by simp[GNode.cells],rfl⟩
          clear hk' h2 h3 h47 h48 h49 hm2 hm3 hm2' hm3'
          rintro ρ H m ⟨h2,h3,h47,h48,h49,h5,h6,hm2,hm3,hm6,rfl⟩
          have hm2':=hm2
          simp only[encSig] at hm2'
          have hm3':=hm3
          simp only[Big.cells,encN,encI,encS,encW] at hm3'
          have hm6':=hm6
          simp only[GNode.cells] at hm6'
          refine Runs.seqD Ty_ok kindOp_ok draws (by decide) (by kernel_rfl) fun k' hk'=>?_
          have fin:∀ ρ:Env,ρ 2 = .ptr (0,2) 1 0 0→ρ 3 = .ptr (1,3) 1 0 0→ρ 47 = .list false (b.nodes.map (GNode.cells false))→ρ 48=int b.nodes.length→ρ 49=int k→ρ 87=bool (!okNodeB sig b k)→Runs Tryz.prog 40 101 k' ρ H (n+1) Q:=by
            intro ρ h2 h3 h47 h48 h49 h87
            apply hk'
            refine Runs.ite h87 (fun hc3 => ?_) (fun hc3 => ?_)   -- t87
            · have hb:okNodeB sig b k=false:=by simpa using hc3
              refine Runs.seqE Ty_ok (by decide) fun k' hk'=>?_
              simp   -- R7
              apply hk'
              exact Runs.ret Tryz.func40 (RetOk.one Tryz.results40) (hQ _ _ _ _ (.v _ _ _) (by rw[goodB_eq,all_range_bad hc2 hb,Bool.and_false];rfl))
            · have hb:okNodeB sig b k=true:=by simpa using hc3
              refine Runs.skip ?_
              refine Runs.inBlock ?_
              refine Runs.evalE Ty_ok (by decide) fun k' hk'=>?_
              simp [h49, wrap_succ (show k < 4611686018427387904 by omega)]   -- R8
              apply hk'
              refine IH hc2 _ _ _ ⟨by simp[h2],by simp[h3],by simp[h47],by simp[h48],by simp,hm2,hm3,ctl_step hb hctl,fun i hi=>?_⟩
              rcases Nat.lt_or_ge i k with h | h
              · exact hall i h
              · rw[show i=k by omega];exact hb
          have hw:IntKind.i64.wrap ((sig.length:Int) - 1)=(sig.length:Int) - 1:=by rw[wrap64]<;>omega
          simp [h2, h6, hm2', hm6', hw]   -- R6
          refine RunDK.callA Ty_ok kindOp_ok (within_ok b.nodes[k].control 0 ((sig.length:Int) - 1)) e90 (.cons (.v _ _ _) (.cons (.v _ _ _) (.cons (.v _ _ _) .nil))) (by decide) rfl (by simp) ?_
          cases q1:within b.nodes[k].control 0 ((sig.length:Int) - 1)
          · simp[guardOf]
            exact fin _ (by simp[h2]) (by simp[h3]) (by simp[h47]) (by simp[h48]) (by simp[h49]) (by simp only[okNodeB,hgk,q1];simp)
          simp[h2,h3,h5,h6,hm2',hm3',hm6',guardOf]
          refine RunDK.callA Ty_ok kindOp_ok (isParent_ok sig b b.nodes[k].parent k hr (by omega) hctl) e93 (.cons (ArgOk.encB false b) (.cons (ArgOk.encSig false sig) (.cons (.v _ _ _) (.cons (.v _ _ _) .nil)))) (by decide) rfl (by simp[encB,Big.cells,encN,encI,encS,encW,encSig]) ?_
          cases q2:okParent sig b b.nodes[k].parent k
          · simp[guardOf]
            exact fin _ (by simp[h2]) (by simp[h3]) (by simp[h47]) (by simp[h48]) (by simp[h49]) (by simp only[okNodeB,hgk,q2];simp)
          have q1':=q1
          simp only[within,Bool.and_eq_true,decide_eq_true_eq] at q1'
          obtain⟨c,hc⟩:∃ c:Nat,b.nodes[k].control=c:=⟨b.nodes[k].control.toNat,by omega⟩
          have hcl:c<sig.length:=by omega
          have q1c:=q1
          rw[hc] at q1c
          have hgc:sig.getD c default=sig[c]:=by simp[hcl]
          by_cases q3:(b.nodes[k].links.length:Int)=sig[c].ports
          · have q3':((b.nodes[k].links.length:Int) != sig[c].ports)=false:=by simpa using q3
            simp[h2,h3,h6,hm2',hm6',hc,hcl,q3',Control.cells,guardOf]
            refine RunDK.callT Ty_ok kindOp_ok (containsFuncI_ok false b.nodes[k].links (fun l => !okLink b l) (s9 _ (List.getElem_mem hc2)) (fun l _=>clos76 b hed s5 hm3 l)) e94 (by decide) rfl (by simp) ?_
            simp
            refine fin _ (by simp[h2]) (by simp[h3]) (by simp[h47]) (by simp[h48]) (by simp[h49]) ?_
            simp only[okNodeB,hgk,q1c,q2,hc,Int.toNat_natCast,hgc,q3,any_not]
            simp
          · have q3':((b.nodes[k].links.length:Int) != sig[c].ports)=true:=by simpa using q3
            simp[h2,h3,h6,hm2',hm6',hc,hcl,q3',Control.cells,guardOf]
            exact fin _ (by simp[h2]) (by simp[h3]) (by simp[h47]) (by simp[h48]) (by simp[h49]) (by simp only[okNodeB,hgk,q1c,q2,hc,Int.toNat_natCast,hgc,q3];simp)
        · have hc2:¬ k<b.nodes.length:=by simpa using hc2
          have hke:k=b.nodes.length:=by omega
          subst hke
          have hnodes:=all_range_end hall
          refine Runs.exit rfl ?_
          refine Runs.seqE Ty_ok (by decide) fun k' hk'=>?_
          simp [h2, h3, hm3']   -- R9
          refine RunK.callT Ty_ok (containsFuncI_ok false b.sites (fun p => !okParent sig b p b.nodes.length) s4 (fun p _=>clos78 sig b hr hctl hm3 hm2 p)) e94 (by decide) (by decide) rfl (by simp) ?_
          rintro _ rfl
          rw[any_not]
          cases r1:b.sites.all (fun p=>okParent sig b p b.nodes.length)
          · simp[guardOf]
            apply hk'
            exact Runs.ret Tryz.func40 (RetOk.one Tryz.results40) (hQ _ _ _ _ (.v _ _ _) (by rw[goodB_eq,r1];simp))
          · simp[h3,hm3',guardOf]
            refine RunK.callT Ty_ok (containsFuncW_ok false b.inner (fun w => !okLink b w.link) s6 (fun w _=>clos80 b hed s5 hm3 w)) e98 (by decide) (by decide) rfl (by simp) ?_
            rintro _ rfl
            rw[any_not]
            simp
            apply hk'
            exact Runs.ret Tryz.func40 (RetOk.one Tryz.results40) (hQ _ _ _ _ (.v _ _ _) (by rw[goodB_eq,hb,hnodes,r1];simp))
  simp [h2, hm2']   -- R1
  refine RunK.callA Ty_ok (IsSignature_ok sig s1 s2) e89 (.cons (ArgOk.encSig false sig) .nil) (by decide) (by decide) rfl (by simp[encSig]) ?_
  rintro _ rfl
  cases p1:goodSig sig
  · simp[guardOf]
    exact fin _ (by simp[h2]) (by simp[h3]) (by simp only[goodPre,p1];simp)
  simp[h3,hm3',guardOf]
  refine RunK.callA Ty_ok (within_ok b.roots 0 4) e90 (.cons (.v _ _ _) (.cons (.v _ _ _) (.cons (.v _ _ _) .nil))) (by decide) (by decide) rfl (by simp) ?_
  rintro _ rfl
  cases p2:within b.roots 0 4
  · simp[guardOf]
    exact fin _ (by simp[h2]) (by simp[h3]) (by simp only[goodPre,p2];simp)
  by_cases p3:(8:Int)<b.nodes.length
  · simp[h3,hm3',p3,guardOf]
    exact fin _ (by simp[h2]) (by simp[h3]) (by simp only[goodPre,show ¬ b.nodes.length≤8 by omega];simp)
  by_cases p4:(4:Int)<b.sites.length
  · simp[h3,hm3',p3,p4,guardOf]
    exact fin _ (by simp[h2]) (by simp[h3]) (by simp only[goodPre,show ¬ b.sites.length≤4 by omega];simp)
  simp[h3,hm3',p3,p4,guardOf]
  refine RunK.callA Ty_ok (within_ok b.edges 0 8) e90 (.cons (.v _ _ _) (.cons (.v _ _ _) (.cons (.v _ _ _) .nil))) (by decide) (by decide) rfl (by simp) ?_
  rintro _ rfl
  cases p5:within b.edges 0 8
  · simp[guardOf]
    exact fin _ (by simp[h2]) (by simp[h3]) (by simp only[goodPre,p5];simp)
  simp[h3,hm3',guardOf]
  refine RunK.callA Ty_ok (areNames_ok b.outer s5 s7) e91 (.cons (ArgOk.encS false b.outer) .nil) (by decide) (by decide) rfl (by simp[encS]) ?_
  rintro _ rfl
  cases p6:goodNames b.outer
  · simp[guardOf]
    exact fin _ (by simp[h2]) (by simp[h3]) (by simp only[goodPre,p6];simp)
  simp[h3,hm3',guardOf]
  refine RunK.callA Ty_ok (innerNames_ok b s6) e92 (.cons (ArgOk.encB false b) .nil) (by decide) (by decide) rfl (by simp[encB,Big.cells,encN,encI,encS,encW]) ?_
  rintro _ rfl
  simp
  refine RunK.callA Ty_ok (areNames_ok (names b) hnl hnn) e91 (.cons (ArgOk.encS true (names b)) .nil) (by decide) (by decide) rfl (by simp[encS]) ?_
  rintro _ rfl
  simp
  exact fin _ (by simp[h2]) (by simp[h3]) (by simp only[goodPre,p1,p2,p5,p6,show b.nodes.length≤8 by omega,show b.sites.length≤4 by omega];simp)
end Go.Ab
/- Contracts of spec.l2Node and spec.l2Good. -/
namespace Go.Ab
open Go.Proofs
set_option linter.unusedSimpArgs false
theorem e32:Ent Tryz.prog 32:=Ent.of Tryz.func32 (by kernel_rfl) rfl
theorem e79:Ent Tryz.prog 79:=Ent.of Tryz.func79 (by kernel_rfl) rfl
theorem all_bad {α:Type} {l:List α} {p:α→Bool} {k:Nat} (hk:k<l.length) (h:p l[k]=false):l.all p=false:=by
  rw[List.all_eq_false]
  exact⟨l[k],List.getElem_mem hk,by simp[h]⟩
theorem all_end {α:Type} {l:List α} {p:α→Bool} (h:∀ i (hi:i<l.length),p l[i]=true):l.all p=true:=by
  rw[List.all_eq_true]
  intro x hx
  obtain⟨i,hi,rfl⟩:=List.getElem_of_mem hx
  exact h i hi
theorem l2Node_ok (sig:Sig) (b:Big) (hs:SmallB sig b) (k:Nat) (hk:k<b.nodes.length) (hr:0≤b.roots∧b.roots≤4) (he:0≤b.edges∧b.edges≤8) (hctl:CtlOk sig b k) :
    PureC Tryz.prog 79 [encSig false sig,encB false b,int k] (fun r=>r=bool (okNodeB sig b k)):=by
  have hgk:b.nodes.getD k default=b.nodes[k]:=by simp[hk]
  have hll:=hs.linksLen _ (List.getElem_mem hk)
  have hpar:=hs.parents _ (List.getElem_mem hk)
  have hol:=hs.outerLen
  have hsl:=hs.sigLen
  refine PureC.of Tryz.func79 rfl Tryz.ntmps79 (by simp) fun Q hQ=>?_
  refine Runs.seqE Ty_ok (by decide) fun k' hk'=>?_
  simp [encSig, encB, Big.cells]   -- R0
  apply hk'
  refine Runs.seqE Ty_ok (by decide) fun k' hk'=>?_
  simp [encN, hk, GNode.cells]   -- R1
  apply hk'
  refine Runs.cut (fun ρ H n=>ρ 0 = .list false (sig.map Control.cells)∧ρ 2=int k∧ρ 4 = .ptr (0,4) 1 0 0∧ρ 7 = .ptr (1,7) 1 0 0∧H (0,4)=some ⟨6,[b.cells false]⟩∧H (1,7)=some ⟨3,[b.nodes[k].cells false]⟩) ⟨by simp,by simp,by simp,by simp,by simp[Big.cells,encN,GNode.cells],by simp[GNode.cells]⟩ ?_
  clear hk'
  rintro ρ H n ⟨h0,h2,h4,h7,hm4,hm7⟩
  have hm4':=hm4
  simp only[Big.cells,encN,encI,encS,encW] at hm4'
  have hm7':=hm7
  simp only[GNode.cells] at hm7'
  refine Runs.seq ?_
  refine Runs.seqD Ty_ok kindOp_ok draws (by decide) (by kernel_rfl) fun k' hk'=>?_
  have fin:∀ (ρ:Env) (pre:Bool),ρ 4 = .ptr (0,4) 1 0 0→ρ 7 = .ptr (1,7) 1 0 0→ρ 41=bool (!pre)→okNodeB sig b k=(pre && b.nodes[k].links.all (okLink b))→Runs Tryz.prog 79 57 k' ρ H n Q:=by
    intro ρ pre h4 h7 h41 hpre
    apply hk'
    refine Runs.ite h41 (fun hc1 => ?_) (fun hc1 => ?_)   -- t41
    · have hb:pre=false:=by simpa using hc1
      refine Runs.seqE Ty_ok (by decide) fun k' hk'=>?_
      simp   -- R3
      apply hk'
      exact Runs.ret Tryz.func79 (RetOk.one Tryz.results79) (hQ _ _ _ _ (.v _ _ _) (by rw[hpre,hb];rfl))
    · have hb:pre=true:=by simpa using hc1
      rw[hb,Bool.true_and] at hpre
      refine Runs.skip ?_
      refine Runs.seq ?_
      refine Runs.seqE Ty_ok (by decide) fun k' hk'=>?_
      simp   -- R4
      apply hk'
      refine Runs.block (Runs.loopUp b.nodes[k].links.length (fun j ρ' H' n'=>ρ' 4 = .ptr (0,4) 1 0 0∧ρ' 7 = .ptr (1,7) 1 0 0∧ρ' 8=int j∧H'=H∧n'=n∧∀ i (hi:i<b.nodes[k].links.length),i<j→okLink b b.nodes[k].links[i]=true) ?_ ?_)
      · exact⟨by simp[h4],by simp[h7],by simp,rfl,rfl,fun i hi h=>by omega⟩
      · clear h4 h7
        rintro j ρ H' n' hj ⟨h4,h7,h8,rfl,rfl,hall⟩ IH
        refine Runs.seq ?_
        refine Runs.seqE Ty_ok (by decide) fun k' hk'=>?_
        simp [h7, h8, hm7']   -- R5
        apply hk'
        refine Runs.ite rfl (fun hc2 => ?_) (fun hc2 => ?_)   -- t46
        · have hc2:j<b.nodes[k].links.length:=by simpa using hc2
          refine Runs.skip ?_
          refine Runs.seq ?_
          refine Runs.block ?_
          refine Runs.seqD Ty_ok kindOp_ok draws (by decide) (by kernel_rfl) fun k' hk'=>?_
          simp [h4, h7, h8, hm4', hm7', hc2, intC]   -- R7
          refine RunDK.callA Ty_ok kindOp_ok (l2Link_ok b b.nodes[k].links[j] he hol) e81 (.cons (ArgOk.encB false b) (.cons (.v _ _ _) .nil)) (by decide) rfl (by simp[encB,Big.cells,encN,encI,encS,encW,intC]) ?_
          simp
          apply hk'
          refine Runs.ite rfl (fun hc3 => ?_) (fun hc3 => ?_)   -- t56
          · have hb3:okLink b b.nodes[k].links[j]=false:=by simpa using hc3
            refine Runs.seqE Ty_ok (by decide) fun k' hk'=>?_
            simp   -- R8
            apply hk'
            exact Runs.ret Tryz.func79 (RetOk.one Tryz.results79) (hQ _ _ _ _ (.v _ _ _) (by rw[hpre,all_bad hc2 hb3]))
          · have hb3:okLink b b.nodes[k].links[j]=true:=by simpa using hc3
            refine Runs.skip ?_
            refine Runs.inBlock ?_
            refine Runs.evalE Ty_ok (by decide) fun k' hk'=>?_
            simp [h8, wrap_succ (show j < 4611686018427387904 by omega)]   -- R6
            apply hk'
            refine IH hc2 _ _ _ ⟨by simp[h4],by simp[h7],by simp,rfl,rfl,fun i hi hij=>?_⟩
            rcases Nat.lt_or_ge i j with h | h
            · exact hall i hi h
            · have:i=j:=by omega
              subst this
              exact hb3
        · have hc2:¬ j<b.nodes[k].links.length:=by simpa using hc2
          have hje:j=b.nodes[k].links.length:=by omega
          subst hje
          refine Runs.exit rfl ?_
          refine Runs.seqE Ty_ok (by decide) fun k' hk'=>?_
          simp   -- R9
          apply hk'
          exact Runs.ret Tryz.func79 (RetOk.one Tryz.results79) (hQ _ _ _ _ (.v _ _ _) (by rw[hpre,all_end fun i hi=>hall i hi hi]))
  have hw:IntKind.i64.wrap ((sig.length:Int) - 1)=(sig.length:Int) - 1:=by rw[wrap64]<;>omega
  simp [h0, h7, hm7', hw]   -- R2
  refine RunDK.callA Ty_ok kindOp_ok (l1In_ok b.nodes[k].control 0 ((sig.length:Int) - 1)) e76 (.cons (.v _ _ _) (.cons (.v _ _ _) (.cons (.v _ _ _) .nil))) (by decide) rfl (by simp) ?_
  cases q1:within b.nodes[k].control 0 ((sig.length:Int) - 1)
  · simp[guardOf]
    exact fin _ false (by simp[h4]) (by simp[h7]) (by simp) (by simp only[okNodeB,hgk,q1];simp)
  simp[h0,h2,h4,h7,hm4',hm7',guardOf]
  refine RunDK.callA Ty_ok kindOp_ok (l2Under_ok sig b b.nodes[k].parent k hpar hr (by omega) hctl) e80 (.cons (ArgOk.encSig false sig) (.cons (ArgOk.encB false b) (.cons (.v _ _ _) (.cons (.v _ _ _) .nil)))) (by decide) rfl (by simp[encB,Big.cells,encN,encI,encS,encW,encSig]) ?_
  cases q2:okParent sig b b.nodes[k].parent k
  · simp[guardOf]
    exact fin _ false (by simp[h4]) (by simp[h7]) (by simp) (by simp only[okNodeB,hgk,q2];simp)
  have q1':=q1
  simp only[within,Bool.and_eq_true,decide_eq_true_eq] at q1'
  obtain⟨c,hc⟩:∃ c:Nat,b.nodes[k].control=c:=⟨b.nodes[k].control.toNat,by omega⟩
  have hcl:c<sig.length:=by omega
  have q1c:=q1
  rw[hc] at q1c
  have hgc:sig.getD c default=sig[c]:=by simp[hcl]
  by_cases q3:(b.nodes[k].links.length:Int)=sig[c].ports
  · have q3':((b.nodes[k].links.length:Int) != sig[c].ports)=false:=by simpa using q3
    simp[h0,h7,hm7',hc,hcl,q3',Control.cells,guardOf]
    exact fin _ true (by simp[h4]) (by simp[h7]) (by simp) (by simp only[okNodeB,hgk,q1c,q2,hc,Int.toNat_natCast,hgc,q3];simp)
  · have q3':((b.nodes[k].links.length:Int) != sig[c].ports)=true:=by simpa using q3
    simp[h0,h7,hm7',hc,hcl,q3',Control.cells,guardOf]
    exact fin _ false (by simp[h4]) (by simp[h7]) (by simp) (by simp only[okNodeB,hgk,q1c,q2,hc,Int.toNat_natCast,hgc,q3];simp)
end Go.Ab
/- Contract of spec.l2Good. -/
namespace Go.Ab
open Go.Proofs
set_option linter.unusedSimpArgs false
theorem ctl_all {sig:Sig} {b:Big} {k:Nat} (h:∀ i,i<k→okNodeB sig b i=true):CtlOk sig b k:=by
  induction k with
  | zero=>intro i hi;omega
  | succ k ih=>exact ctl_step (h k (by omega)) (ih fun i hi=>h i (by omega))
def pre1 (sig:Sig) (b:Big):Bool:=goodSig sig && within b.roots 0 4 && decide (b.nodes.length≤8) && decide (b.sites.length≤4) && within b.edges 0 8
def pre2 (b:Big):Bool:=goodNames b.outer && goodNames (names b)
theorem goodPre_eq (sig:Sig) (b:Big):goodPre sig b=(pre1 sig b && pre2 b):=by
  simp only[goodPre,pre1,pre2,Bool.and_assoc]
theorem l2Good_ok (sig:Sig) (b:Big) (hs:SmallB sig b):PureC Tryz.prog 32 [encSig false sig,encB false b] (fun r=>r=bool (goodB sig b)):=by
  obtain⟨s1,s2,s3,s4,s5,s6,s7,s8,s9,s10,s11⟩:=id hs
  have hnl:(names b).length≤1048576:=by simpa[names] using s6
  have hnn:∀ s ∈ names b,s.length≤1048576:=by
    intro s hs
    obtain⟨w,hw,rfl⟩:=List.mem_map.1 hs
    exact s8 w hw
  refine PureC.of Tryz.func32 rfl Tryz.ntmps32 (by simp) fun Q hQ=>?_
  have no:goodB sig b=false→∀ H n,Q (bool false) H n:=fun h H n=>hQ _ _ _ _ (.v _ _ _) (by rw[h])
  refine Runs.seqE Ty_ok (by decide) fun k' hk'=>?_
  simp [encSig, encB, Big.cells]   -- R0
  apply hk'
  refine Runs.cut (fun ρ H n=>ρ 0 = .list false (sig.map Control.cells)∧ρ 3 = .ptr (0,3) 1 0 0∧H (0,3)=some ⟨6,[b.cells false]⟩) ⟨by simp,by simp,by simp[Big.cells]⟩ ?_
  clear hk'
  rintro ρ H n ⟨h0,h3,hm3⟩
  have hm3':=hm3
  simp only[Big.cells,encN,encI,encS,encW] at hm3'
  refine Runs.seq ?_
  refine Runs.seqE Ty_ok (by decide) fun k' hk'=>?_
  have fin:∀ ρ:Env,ρ 0 = .list false (sig.map Control.cells)→ρ 3 = .ptr (0,3) 1 0 0→ρ 34=bool (!pre1 sig b)→Runs Tryz.prog 32 98 k' ρ H n Q:=by
    clear h0 h3
    intro ρ h0 h3 h34
    apply hk'
    refine Runs.ite h34 (fun hc1 => ?_) (fun hc1 => ?_)   -- t34
    · have hb:pre1 sig b=false:=by simpa using hc1
      refine Runs.seqE Ty_ok (by decide) fun k' hk'=>?_
      simp   -- R2
      apply hk'
      exact Runs.ret Tryz.func32 (RetOk.one Tryz.results32) (no (by rw[goodB_eq,goodPre_eq,hb];rfl) _ _)
    · have hb1:pre1 sig b=true:=by simpa using hc1
      have hb':=hb1
      simp only[pre1,within,Bool.and_eq_true,decide_eq_true_eq] at hb'
      obtain⟨⟨⟨⟨_,hr⟩,hn8⟩,_⟩,hed⟩:=hb'
      refine Runs.skip ?_
      refine Runs.seq ?_
      refine Runs.seqE Ty_ok (by decide) fun k' hk'=>?_
      have fin2:∀ ρ:Env,ρ 0 = .list false (sig.map Control.cells)→ρ 3 = .ptr (0,3) 1 0 0→ρ 50=bool (!pre2 b)→Runs Tryz.prog 32 98 k' ρ H n Q:=by
        clear h0 h3
        intro ρ h0 h3 h50
        apply hk'
        refine Runs.ite h50 (fun hc1 => ?_) (fun hc1 => ?_)   -- t50
        · have hb:pre2 b=false:=by simpa using hc1
          refine Runs.seqE Ty_ok (by decide) fun k' hk'=>?_
          simp   -- R4
          apply hk'
          exact Runs.ret Tryz.func32 (RetOk.one Tryz.results32) (no (by rw[goodB_eq,goodPre_eq,hb,Bool.and_false];rfl) _ _)
        · have hb2:pre2 b=true:=by simpa using hc1
          have hpre:goodPre sig b=true:=by rw[goodPre_eq,hb1,hb2];rfl
          refine Runs.skip ?_
          refine Runs.seq ?_
          refine Runs.seqE Ty_ok (by decide) fun k' hk'=>?_
          simp   -- R5
          apply hk'
          refine Runs.block (Runs.loopUp b.nodes.length (fun k ρ' H' n'=>ρ' 0 = .list false (sig.map Control.cells)∧ρ' 3 = .ptr (0,3) 1 0 0∧ρ' 5=int k∧H'=H∧n'=n∧∀ i,i<k→okNodeB sig b i=true) ?_ ?_)
          · exact⟨by simp[h0],by simp[h3],by simp,rfl,rfl,fun i hi=>by omega⟩
          · clear h0 h3
            rintro k ρ H' n' hk ⟨h0,h3,h5,rfl,rfl,hall⟩ IH
            refine Runs.seq ?_
            refine Runs.seqE Ty_ok (by decide) fun k' hk'=>?_
            simp [h3, h5, hm3']   -- R6
            apply hk'
            refine Runs.ite rfl (fun hc2 => ?_) (fun hc2 => ?_)   -- t55
            · have hc2:k<b.nodes.length:=by simpa using hc2
              refine Runs.skip ?_
              refine Runs.seq ?_
              refine Runs.block ?_
              refine Runs.seqE Ty_ok (by decide) fun k' hk'=>?_
              simp [h0, h3, h5, hm3']   -- R8
              refine RunK.callA Ty_ok (l2Node_ok sig b hs k hc2 hr hed (ctl_all hall)) e79 (.cons (ArgOk.encSig false sig) (.cons (ArgOk.encB false b) (.cons (.v _ _ _) .nil))) (by decide) (by decide) rfl (by simp[h0,h5,encSig,encB,Big.cells,encN,encI,encS,encW]) ?_
              rintro _ rfl
              simp
              apply hk'
              refine Runs.ite rfl (fun hc3 => ?_) (fun hc3 => ?_)   -- t62
              · have hb3:okNodeB sig b k=false:=by simpa using hc3
                refine Runs.seqE Ty_ok (by decide) fun k' hk'=>?_
                simp   -- R9
                apply hk'
                exact Runs.ret Tryz.func32 (RetOk.one Tryz.results32) (no (by rw[goodB_eq,all_range_bad hc2 hb3,Bool.and_false];rfl) _ _)
              · have hb3:okNodeB sig b k=true:=by simpa using hc3
                refine Runs.skip ?_
                refine Runs.inBlock ?_
                refine Runs.evalE Ty_ok (by decide) fun k' hk'=>?_
                simp [h5, wrap_succ (show k < 4611686018427387904 by omega)]   -- R7
                apply hk'
                refine IH hc2 _ _ _ ⟨by simp[h0],by simp[h3],by simp,rfl,rfl,fun i hi=>?_⟩
                rcases Nat.lt_or_ge i k with h | h
                · exact hall i h
                · rw[show i=k by omega];exact hb3
            · have hc2:¬ k<b.nodes.length:=by simpa using hc2
              have hke:k=b.nodes.length:=by omega
              subst hke
              have hnodes:=all_range_end hall
              have hctl:=ctl_all hall
              refine Runs.exit rfl ?_
              refine Runs.seq ?_
              refine Runs.seqE Ty_ok (by decide) fun k' hk'=>?_
              simp   -- R10
              apply hk'
              clear IH hall h5
              refine Runs.block (Runs.loopUp b.sites.length (fun k ρ' H2 n2=>ρ' 0 = .list false (sig.map Control.cells)∧ρ' 3 = .ptr (0,3) 1 0 0∧ρ' 6=int k∧H2=H'∧n2=n'∧∀ i (hi:i<b.sites.length),i<k→okParent sig b b.sites[i] b.nodes.length=true) ?_ ?_)
              · exact⟨by simp[h0],by simp[h3],by simp,rfl,rfl,fun i hi h=>by omega⟩
              · clear h0 h3
                rintro k ρ H2 n2 hk2 ⟨h0,h3,h6,rfl,rfl,hall⟩ IH
                refine Runs.seq ?_
                refine Runs.seqE Ty_ok (by decide) fun k' hk'=>?_
                simp [h3, h6, hm3']   -- R11
                apply hk'
                refine Runs.ite rfl (fun hc4 => ?_) (fun hc4 => ?_)   -- t67
                · have hc4:k<b.sites.length:=by simpa using hc4
                  refine Runs.skip ?_
                  refine Runs.seq ?_
                  refine Runs.block ?_
                  refine Runs.seqD Ty_ok kindOp_ok draws (by decide) (by kernel_rfl) fun k' hk'=>?_
                  simp [h0, h3, h6, hm3', hc4, intC]   -- R13
                  refine RunDK.callA Ty_ok kindOp_ok (l2Under_ok sig b b.sites[k] b.nodes.length (s11 _ (List.getElem_mem hc4)) hr (Nat.le_refl _) hctl) e80 (.cons (ArgOk.encSig false sig) (.cons (ArgOk.encB false b) (.cons (.v _ _ _) (.cons (.v _ _ _) .nil)))) (by decide) rfl (by simp[h0,encSig,encB,Big.cells,encN,encI,encS,encW,intC]) ?_
                  simp
                  apply hk'
                  refine Runs.ite rfl (fun hc5 => ?_) (fun hc5 => ?_)   -- t81
                  · have hb3:okParent sig b b.sites[k] b.nodes.length=false:=by simpa using hc5
                    refine Runs.seqE Ty_ok (by decide) fun k' hk'=>?_
                    simp   -- R14
                    apply hk'
                    exact Runs.ret Tryz.func32 (RetOk.one Tryz.results32) (no (by rw[goodB_eq,all_bad hc4 hb3,Bool.and_false];rfl) _ _)
                  · have hb3:okParent sig b b.sites[k] b.nodes.length=true:=by simpa using hc5
                    refine Runs.skip ?_
                    refine Runs.inBlock ?_
                    refine Runs.evalE Ty_ok (by decide) fun k' hk'=>?_
                    simp [h6, wrap_succ (show k < 4611686018427387904 by omega)]   -- R12
                    apply hk'
                    refine IH hc4 _ _ _ ⟨by simp[h0],by simp[h3],by simp,rfl,rfl,fun i hi hij=>?_⟩
                    rcases Nat.lt_or_ge i k with h | h
                    · exact hall i hi h
                    · have:i=k:=by omega
                      subst this
                      exact hb3
                · have hc4:¬ k<b.sites.length:=by simpa using hc4
                  have hke:k=b.sites.length:=by omega
                  subst hke
                  have hsites:=all_end (l:=b.sites) (p:=fun p=>okParent sig b p b.nodes.length) fun i hi=>hall i hi hi
                  refine Runs.exit rfl ?_
                  refine Runs.seq ?_
                  refine Runs.seqE Ty_ok (by decide) fun k' hk'=>?_
                  simp   -- R15
                  apply hk'
                  clear IH hall h6
                  refine Runs.block (Runs.loopUp b.inner.length (fun k ρ' H3 n3=>ρ' 3 = .ptr (0,3) 1 0 0∧ρ' 7=int k∧H3=H2∧n3=n2∧∀ i (hi:i<b.inner.length),i<k→okLink b b.inner[i].link=true) ?_ ?_)
                  · exact⟨by simp[h3],by simp,rfl,rfl,fun i hi h=>by omega⟩
                  · clear h0 h3
                    rintro k ρ H3 n3 hk3 ⟨h3,h7,rfl,rfl,hall⟩ IH
                    refine Runs.seq ?_
                    refine Runs.seqE Ty_ok (by decide) fun k' hk'=>?_
                    simp [h3, h7, hm3']   -- R16
                    apply hk'
                    refine Runs.ite rfl (fun hc6 => ?_) (fun hc6 => ?_)   -- t86
                    · have hc6:k<b.inner.length:=by simpa using hc6
                      refine Runs.skip ?_
                      refine Runs.seq ?_
                      refine Runs.block ?_
                      refine Runs.seqD Ty_ok kindOp_ok draws (by decide) (by kernel_rfl) fun k' hk'=>?_
                      simp [h3, h7, hm3', hc6, Wire.cells]   -- R18
                      refine RunDK.callA Ty_ok kindOp_ok (l2Link_ok b b.inner[k].link hed s5) e81 (.cons (ArgOk.encB false b) (.cons (.v _ _ _) .nil)) (by decide) rfl (by simp[encB,Big.cells,encN,encI,encS,encW,Wire.cells]) ?_
                      simp
                      apply hk'
                      refine Runs.ite rfl (fun hc7 => ?_) (fun hc7 => ?_)   -- t97
                      · have hb3:okLink b b.inner[k].link=false:=by simpa using hc7
                        refine Runs.seqE Ty_ok (by decide) fun k' hk'=>?_
                        simp   -- R19
                        apply hk'
                        exact Runs.ret Tryz.func32 (RetOk.one Tryz.results32) (no (by rw[goodB_eq,all_bad (l:=b.inner) (p:=fun w=>okLink b w.link) hc6 hb3,Bool.and_false]) _ _)
                      · have hb3:okLink b b.inner[k].link=true:=by simpa using hc7
                        refine Runs.skip ?_
                        refine Runs.inBlock ?_
                        refine Runs.evalE Ty_ok (by decide) fun k' hk'=>?_
                        simp [h7, wrap_succ (show k < 4611686018427387904 by omega)]   -- R17
                        apply hk'
                        refine IH hc6 _ _ _ ⟨by simp[h3],by simp,rfl,rfl,fun i hi hij=>?_⟩
                        rcases Nat.lt_or_ge i k with h | h
                        · exact hall i hi h
                        · have:i=k:=by omega
                          subst this
                          exact hb3
                    · have hc6:¬ k<b.inner.length:=by simpa using hc6
                      have hke:k=b.inner.length:=by omega
                      subst hke
                      have hinner:=all_end (l:=b.inner) (p:=fun w=>okLink b w.link) fun i hi=>hall i hi hi
                      refine Runs.exit rfl ?_
                      refine Runs.seqE Ty_ok (by decide) fun k' hk'=>?_
                      simp   -- R20
                      apply hk'
                      exact Runs.ret Tryz.func32 (RetOk.one Tryz.results32) (hQ _ _ _ _ (.v _ _ _) (by rw[goodB_eq,hpre,hnodes,hsites,hinner];rfl))
      simp [h3, hm3']   -- R3
      refine RunK.callA Ty_ok (l2Names_ok b.outer s5 s7) e77 (.cons (ArgOk.encS false b.outer) .nil) (by decide) (by decide) rfl (by simp[encS]) ?_
      rintro _ rfl
      cases p6:goodNames b.outer
      · simp[guardOf]
        exact fin2 _ (by simp[h0]) (by simp[h3]) (by simp only[pre2,p6];simp)
      by_cases p7:(16:Int)<b.inner.length
      · simp[h3,hm3',p7,guardOf]
        refine fin2 _ (by simp[h0]) (by simp[h3]) ?_
        have:goodNames (names b)=false:=by
          rw[goodNames_eq,show decide ((names b).length≤16)=false by simp[names];omega,Bool.false_and]
        simp only[pre2,this]
        simp
      simp[h3,hm3',p7,guardOf]
      refine RunK.callA Ty_ok (l2Inner_ok b s6) e78 (.cons (ArgOk.encB false b) .nil) (by decide) (by decide) rfl (by simp[encB,Big.cells,encN,encI,encS,encW]) ?_
      rintro _ rfl
      simp
      refine RunK.callA Ty_ok (l2Names_ok (names b) hnl hnn) e77 (.cons (ArgOk.encS true (names b)) .nil) (by decide) (by decide) rfl (by simp[encS]) ?_
      rintro _ rfl
      simp
      exact fin2 _ (by simp[h0]) (by simp[h3]) (by simp only[pre2,p6];simp)
  simp [h0]   -- R1
  refine RunK.callA Ty_ok (l2Sig_ok sig s1 s2) e75 (.cons (ArgOk.encSig false sig) .nil) (by decide) (by decide) rfl (by simp[encSig,h0]) ?_
  rintro _ rfl
  cases p1:goodSig sig
  · simp[guardOf]
    exact fin _ (by simp[h0]) (by simp[h3]) (by simp only[pre1,p1];simp)
  simp[h3,hm3',guardOf]
  refine RunK.callA Ty_ok (l1In_ok b.roots 0 4) e76 (.cons (.v _ _ _) (.cons (.v _ _ _) (.cons (.v _ _ _) .nil))) (by decide) (by decide) rfl (by simp) ?_
  rintro _ rfl
  cases p2:within b.roots 0 4
  · simp[guardOf]
    exact fin _ (by simp[h0]) (by simp[h3]) (by simp only[pre1,p2];simp)
  by_cases p3:(8:Int)<b.nodes.length
  · simp[h3,hm3',p3,guardOf]
    exact fin _ (by simp[h0]) (by simp[h3]) (by simp only[pre1,show ¬ b.nodes.length≤8 by omega];simp)
  by_cases p4:(4:Int)<b.sites.length
  · simp[h3,hm3',p3,p4,guardOf]
    exact fin _ (by simp[h0]) (by simp[h3]) (by simp only[pre1,show ¬ b.sites.length≤4 by omega];simp)
  simp[h3,hm3',p3,p4,guardOf]
  refine RunK.callA Ty_ok (l1In_ok b.edges 0 8) e76 (.cons (.v _ _ _) (.cons (.v _ _ _) (.cons (.v _ _ _) .nil))) (by decide) (by decide) rfl (by simp) ?_
  rintro _ rfl
  simp
  exact fin _ (by simp[h0]) (by simp[h3]) (by simp only[pre1,p1,p2,show b.nodes.length≤8 by omega,show b.sites.length≤4 by omega];simp)
end Go.Ab
/- Contracts of impl.ancestorsOf, spec.l2Above, slices.Index, slices.Contains and spec.l1Has. -/
namespace Go.Ab
open Go.Proofs
set_option linter.unusedSimpArgs false
theorem e109:Ent Tryz.prog 109:=Ent.of Tryz.func109 (by kernel_rfl) rfl
theorem e107:Ent Tryz.prog 107:=Ent.of Tryz.func107 (by kernel_rfl) rfl
theorem e135:Ent Tryz.prog 135:=Ent.of Tryz.func135 (by kernel_rfl) rfl
theorem index_ok (t:Bool) (l:List Int) (x:Int) (hl:l.length≤1048576):PureC Tryz.prog 109 [encI t l,int x] (fun r=>r=int (idxF l (fun y=>x == y))):=by
  refine PureC.of Tryz.func109 rfl Tryz.ntmps109 (by simp) fun Q hQ=>?_
  refine Runs.seqE Ty_ok (by decide) fun k' hk'=>?_
  simp [encI]   -- R0
  apply hk'
  refine Runs.seq ?_
  refine Runs.seqE Ty_ok (by decide) fun k' hk'=>?_
  simp   -- R1
  apply hk'
  refine Runs.block (Runs.loopUp l.length (fun k ρ H' n'=>ρ 0 = .list t (l.map intC)∧ρ 1=int x∧ρ 7=int l.length∧ρ 8=int k∧∀ i (h:i<l.length),i<k→(x == l[i])=false) ?_ ?_)
  · simp
  · rintro k ρ H' n' hk ⟨h0,h1,h7,h8,hno⟩ IH
    refine Runs.seqE Ty_ok (by decide) fun k' hk'=>?_
    simp [h7, h8]   -- R2
    apply hk'
    refine Runs.seq ?_
    refine Runs.ite rfl (fun hc1 => ?_) (fun hc1 => ?_)   -- t9
    · have hc1:k<l.length:=by simpa using hc1
      refine Runs.skip ?_
      refine Runs.seq ?_
      refine Runs.block ?_
      refine Runs.seqE Ty_ok (by decide) fun k' hk'=>?_
      simp [h8]   -- R3
      apply hk'
      refine Runs.seqE Ty_ok (by decide) fun k' hk'=>?_
      simp [h0, h1, hc1, intC]   -- R4
      apply hk'
      refine Runs.ite rfl (fun hc2 => ?_) (fun hc2 => ?_)   -- t16
      · have hc2:(x == l[k])=true:=by simpa using hc2
        refine Runs.seqE Ty_ok (by decide) fun k' hk'=>?_
        simp   -- R5
        apply hk'
        refine Runs.ret Tryz.func109 (RetOk.one Tryz.results109) (hQ _ _ _ _ (.v _ _ _) ?_)
        simp[idxF_at (p:=fun y=>x == y) hc1 hc2 hno]
      · have hc2:(x == l[k])=false:=by simpa using hc2
        refine Runs.skip ?_
        refine Runs.inBlock ?_
        refine Runs.evalE Ty_ok (by decide) fun k' hk'=>?_
        simp [h8, wrap_succ (show k < 4611686018427387904 by omega)]   -- R6
        apply hk'
        refine IH hc1 _ _ _ ⟨by simp[h0,intC],by simp[h1],by simp[h7],by simp,fun i h hi=>?_⟩
        rcases Nat.lt_or_ge i k with hik | hik
        · exact hno i h hik
        · have:i=k:=by omega
          subst this
          exact hc2
    · have hc1:¬ k<l.length:=by simpa using hc1
      have hke:k=l.length:=by omega
      subst hke
      refine Runs.exit rfl ?_
      refine Runs.seqE Ty_ok (by decide) fun k' hk'=>?_
      simp   -- R7
      apply hk'
      refine Runs.ret Tryz.func109 (RetOk.one Tryz.results109) (hQ _ _ _ _ (.v _ _ _) ?_)
      simp[idxF_no (p:=fun y=>x == y) fun i h=>hno i h h]
theorem contains_ok (l:List Int) (x:Int) (hl:l.length≤1048576):PureC Tryz.prog 107 [encI false l,int x] (fun r=>r=bool (l.any (fun y=>x == y))):=by
  refine PureC.of Tryz.func107 rfl Tryz.ntmps107 (by simp) fun Q hQ=>?_
  refine Runs.seqE Ty_ok (by decide) fun k' hk'=>?_
  simp [encI]   -- R0
  apply hk'
  refine Runs.seqE Ty_ok (by decide) fun k' hk'=>?_
  simp   -- R1
  refine RunK.callA Ty_ok (index_ok false l x hl) e109 (.cons (ArgOk.encI false l) (.cons (.v _ _ _) .nil)) (by decide) (by decide) rfl (by simp[encI]) ?_
  rintro _ rfl
  simp
  apply hk'
  refine Runs.ret Tryz.func107 (RetOk.one Tryz.results107) (hQ _ _ _ _ (.v _ _ _) ?_)
  have:=idxF_any l (fun y=>x == y)
  simp only[Env.put]
  simp[this]
theorem l1Has_ok (l:List Int) (x:Int) (hl:l.length≤1048576):PureC Tryz.prog 135 [encI false l,int x] (fun r=>r=bool (l.any (fun y=>x == y))):=by
  refine PureC.of Tryz.func135 rfl Tryz.ntmps135 (by simp) fun Q hQ=>?_
  refine Runs.seqE Ty_ok (by decide) fun k' hk'=>?_
  simp [encI]   -- R0
  apply hk'
  refine Runs.seq ?_
  refine Runs.seqE Ty_ok (by decide) fun k' hk'=>?_
  simp   -- R1
  apply hk'
  refine Runs.block (Runs.loopUp l.length (fun k ρ H' n'=>ρ 0 = .list false (l.map intC)∧ρ 1=int x∧ρ 5=int k∧∀ i (h:i<l.length),i<k→¬ l[i]=x) ?_ ?_)
  · simp
  · rintro k ρ H' n' hk ⟨h0,h1,h5,hno⟩ IH
    refine Runs.seq ?_
    refine Runs.seqE Ty_ok (by decide) fun k' hk'=>?_
    simp [h0, h5]   -- R2
    apply hk'
    refine Runs.ite rfl (fun hc1 => ?_) (fun hc1 => ?_)   -- t9
    · have hc1:k<l.length:=by simpa using hc1
      refine Runs.skip ?_
      refine Runs.seq ?_
      refine Runs.block ?_
      refine Runs.seqE Ty_ok (by decide) fun k' hk'=>?_
      simp [h0, h1, h5, hc1, intC]   -- R4
      apply hk'
      refine Runs.ite rfl (fun hc2 => ?_) (fun hc2 => ?_)   -- t17
      · have hc2:l[k]=x:=by simpa using hc2
        refine Runs.seqE Ty_ok (by decide) fun k' hk'=>?_
        simp   -- R5
        apply hk'
        refine Runs.ret Tryz.func135 (RetOk.one Tryz.results135) (hQ _ _ _ _ (.v _ _ _) ?_)
        have:l.any (fun y=>x == y)=true:=by
          rw[List.any_eq_true]
          exact⟨l[k],List.getElem_mem hc1,by simp[hc2]⟩
        rw[this]
        try rfl
      · have hc2:¬ l[k]=x:=by simpa using hc2
        refine Runs.skip ?_
        refine Runs.inBlock ?_
        refine Runs.evalE Ty_ok (by decide) fun k' hk'=>?_
        simp [h5, wrap_succ (show k < 4611686018427387904 by omega)]   -- R3
        apply hk'
        refine IH hc1 _ _ _ ⟨by simp[h0,intC],by simp[h1],by simp,fun i h hi=>?_⟩
        rcases Nat.lt_or_ge i k with hik | hik
        · exact hno i h hik
        · have:i=k:=by omega
          subst this
          exact hc2
    · have hc1:¬ k<l.length:=by simpa using hc1
      have hke:k=l.length:=by omega
      subst hke
      refine Runs.exit rfl ?_
      refine Runs.seqE Ty_ok (by decide) fun k' hk'=>?_
      simp   -- R6
      apply hk'
      refine Runs.ret Tryz.func135 (RetOk.one Tryz.results135) (hQ _ _ _ _ (.v _ _ _) ?_)
      have:l.any (fun y=>x == y)=false:=by
        rw[List.any_eq_false]
        intro y hy
        obtain⟨i,hi,rfl⟩:=List.getElem_of_mem hy
        have:=hno i hi hi
        simpa using fun h=>this h.symm
      rw[this]
      try rfl
end Go.Ab
/- Contracts of impl.CommonPlace and spec.CommonPlace. -/
namespace Go.Ab
open Go.Proofs
set_option linter.unusedSimpArgs false
end Go.Ab
/- What a valid signature and a valid bigraph are, by names. -/
namespace Go.Ab.Vg
set_option linter.unusedSimpArgs false
set_option linter.unusedVariables false
structure ValidS (sig:Sig):Prop where
  len:1≤sig.length∧sig.length≤6
  ports:∀ c ∈ sig,0≤c.ports∧c.ports≤3
  kind:∀ c ∈ sig,0≤c.kind∧c.kind≤2
structure ValidB (sig:Sig) (b:Big):Prop where
  sg:ValidS sig
  roots:0≤b.roots∧b.roots≤4
  len:b.nodes.length≤8
  slen:b.sites.length≤4
  edges:0≤b.edges∧b.edges≤8
  outer:b.outer.length≤16
  inner:b.inner.length≤16
  ctl:∀ i (h:i<b.nodes.length),0≤b.nodes[i].control∧b.nodes[i].control<sig.length
  par:∀ i (h:i<b.nodes.length),-b.roots≤b.nodes[i].parent∧b.nodes[i].parent<i
  ports:∀ i (h:i<b.nodes.length),(b.nodes[i].links.length:Int)=(sig.getD b.nodes[i].control.toNat default).ports
  links:∀ i (h:i<b.nodes.length),∀ l ∈ b.nodes[i].links,0≤l∧l<b.edges+b.outer.length
  sites:∀ p ∈ b.sites,-b.roots≤p∧p<b.nodes.length
  wires:∀ w ∈ b.inner,0≤w.link∧w.link<b.edges+b.outer.length
theorem goodSig_valid {sig:Sig} (h:goodSig sig=true):ValidS sig:=by
  simp only[goodSig,within,okControl,Bool.and_eq_true,decide_eq_true_eq,List.all_eq_true,List.mem_range] at h
  obtain⟨h1,h2⟩:=h
  refine⟨by omega,fun c hc=>?_,fun c hc=>?_⟩<;>obtain⟨i,hi,rfl⟩:=List.getElem_of_mem hc<;>have:=h2 i hi<;>simp only[List.getD_eq_getElem?_getD,List.getElem?_eq_getElem hi,Option.getD_some] at this
  · exact this.1.1.2
  · exact this.1.2
theorem goodB_valid {sig:Sig} {b:Big} (h:goodB sig b=true):ValidB sig b:=by
  simp only[goodB,Bool.and_eq_true,decide_eq_true_eq,List.all_eq_true,List.mem_range] at h
  obtain⟨⟨⟨⟨⟨⟨⟨⟨⟨hs,hr⟩,hn⟩,hst⟩,he⟩,ho⟩,hi⟩,hno⟩,hsi⟩,hw⟩:=h
  have hV:=goodSig_valid hs
  simp only[within,Bool.and_eq_true,decide_eq_true_eq] at hr he
  simp only[goodNames,Bool.and_eq_true,decide_eq_true_eq,List.length_map] at ho hi
  have hno2:∀ i (h:i<b.nodes.length),(0≤b.nodes[i].control∧b.nodes[i].control≤(sig.length:Int) - 1)∧okParent sig b b.nodes[i].parent i=true∧(b.nodes[i].links.length:Int)=(sig.getD b.nodes[i].control.toNat default).ports∧∀ l ∈ b.nodes[i].links,okLink b l=true:=fun i h=>by
    have:=hno i h
    simp only[okNodeB,within,Bool.and_eq_true,decide_eq_true_eq,List.all_eq_true,List.getD_eq_getElem?_getD,List.getElem?_eq_getElem h,Option.getD_some] at this
    exact⟨this.1.1.1,this.1.1.2,by simpa using this.1.2,this.2⟩
  have hp:∀ p (m:Nat),okParent sig b p m=true → -b.roots≤p∧p<m:=fun p m h=>by
    simp only[okParent] at h
    split at h
    · simp only[decide_eq_true_eq] at h;omega
    · simp only[Bool.and_eq_true,decide_eq_true_eq] at h;omega
  have hl:∀ l,okLink b l=true→0≤l∧l<b.edges+b.outer.length:=fun l h=>by
    simp only[okLink,within,Bool.and_eq_true,decide_eq_true_eq] at h;omega
  exact⟨hV,hr,hn,hst,he,ho.1,hi.1,fun i h=>by have:=(hno2 i h).1;omega,fun i h=>hp _ _ (hno2 i h).2.1,fun i h=>(hno2 i h).2.2.1,fun i h l hm=>hl l ((hno2 i h).2.2.2 l hm),fun p hm=>hp _ _ (hsi p hm),fun w hm=>hl _ (hw w hm)⟩
theorem at_mem {α:Type} [Inhabited α] {l:List α} {i:Int} (h:0≤i∧i<l.length):at' l i ∈ l:=by
  obtain⟨h1,h2⟩:=at_get h rfl
  exact h2 ▸ List.getElem_mem h1
theorem at_eq {α:Type} [Inhabited α] {l:List α} {i:Int} (h:0≤i∧i<l.length):∃ h':i.toNat<l.length,at' l i=l[i.toNat]:=by
  obtain⟨h1,h2⟩:=at_get h rfl
  exact⟨h1,h2.symm⟩
theorem ValidB.ctlAt {sig:Sig} {b:Big} (h:ValidB sig b) {i:Int} (hi:0≤i∧i<b.nodes.length):0≤(at' b.nodes i).control∧(at' b.nodes i).control<sig.length:=by
  obtain⟨h1,h2⟩:=at_eq hi;rw[h2];exact h.ctl _ h1
theorem ValidB.parAt {sig:Sig} {b:Big} (h:ValidB sig b) {i:Int} (hi:0≤i∧i<b.nodes.length) : -b.roots≤(at' b.nodes i).parent∧(at' b.nodes i).parent<i:=by
  obtain⟨h1,h2⟩:=at_eq hi;rw[h2];have:=h.par _ h1;omega
theorem ValidB.portsAt {sig:Sig} {b:Big} (h:ValidB sig b) {i:Int} (hi:0≤i∧i<b.nodes.length):((at' b.nodes i).links.length:Int)=(at' sig (at' b.nodes i).control).ports:=by
  obtain⟨h1,h2⟩:=at_eq hi
  have h3:=h.ports _ h1
  have h4:=h.ctl _ h1
  rw[h2,h3];simp[at']
theorem ValidB.linksAt {sig:Sig} {b:Big} (h:ValidB sig b) {i:Int} (hi:0≤i∧i<b.nodes.length):∀ l ∈ (at' b.nodes i).links,0≤l∧l<b.edges+b.outer.length:=by
  obtain⟨h1,h2⟩:=at_eq hi;rw[h2];exact h.links _ h1
theorem ValidB.links3 {sig:Sig} {b:Big} (h:ValidB sig b) {i:Int} (hi:0≤i∧i<b.nodes.length):(at' b.nodes i).links.length≤3:=by
  have h1:=h.portsAt hi
  have h2:=h.ctlAt hi
  have h3:=h.sg.ports _ (at_mem h2)
  omega
end Go.Ab.Vg
/- The reference's codes. -/
namespace Go.Ab.Vg
set_option linter.unusedSimpArgs false
set_option linter.unusedVariables false
abbrev noneZ (many:Int):List Int:=List.replicate many.toNat (-1)
abbrev noneZ_pre (many:Int):Prop:=0≤many∧many≤1048576
def noneZ_wp (many:Int) (Z:(List Int)→Prop):Prop:=
  loopW (σ:=Int × (List Int)) (fun (i12,l13) K17=>∀ c18:Bool,c18=decide (i12<many)→((c18=true→(l13.length+1≤1073741824)∧∀ l21:List Int,l21=l13++[(-1)]→(I64 (i12+1))∧∀ v31:Int,v31=i12+1→K17 (v31,l21))∧(c18=false→Z l13))) (0,([]:List Int))
theorem noneZ_vc (many:Int) (h:noneZ_pre many):noneZ_wp many (fun y=>y=noneZ many):=by
  unfold noneZ_wp
  obtain⟨h1,h2⟩:=h
  refine loopW.upL many.toNat (fun k out=>out=List.replicate k (-1)) [] rfl ?_
  rintro k _ K hk rfl IH
  simp only[forall_eq,decide_eq_true_eq,decide_eq_false_iff_not,I64]
  refine⟨fun h3=>⟨by simp;omega,by omega,IH (by omega) _ List.replicate_succ'.symm⟩,fun h3=>?_⟩
  rw[show k=many.toNat by omega]
abbrev ownZ (l:List Int):List Int:=l
abbrev ownZ_pre (l:List Int):Prop:=l.length≤1048576
def ownZ_wp (l:List Int) (Z:(List Int)→Prop):Prop:=
  (([]:List Int).length+l.length≤1073741824)∧∀ l4:List Int,l4=([]:List Int)++l→Z l4
theorem ownZ_vc (l:List Int) (h:ownZ_pre l):ownZ_wp l (fun y=>y=ownZ l):=by
  unfold ownZ_wp
  exact⟨by simp;omega,fun _ h=>by simpa using h⟩
def cntZ (l:List Int):Int:=((l.filter fun x=>decide (0≤x)).length:Int)
abbrev cntZ_pre (l:List Int):Prop:=l.length≤1048576
def cntZ_wp (edges:List Int) (Z:Int→Prop):Prop:=
  loopW (σ:=Int × Int) (fun (many5,i6) K9=>∀ len10:Int,len10=(edges.length:Int)→∀ c12:Bool,c12=decide (i6<len10)→((c12=true→(0≤i6∧i6<edges.length)∧∀ x15:Int,x15=at' edges i6→∀ c17:Bool,c17=decide (0≤x15)→((c17=true→(I64 (many5+1))∧∀ v20:Int,v20=many5+1→(I64 (i6+1))∧∀ v23:Int,v23=i6+1→K9 (v20,v23))∧(c17=false→(I64 (i6+1))∧∀ v27:Int,v27=i6+1→K9 (many5,v27))))∧(c12=false→Z many5))) (0,0)
theorem cntZ_vc (l:List Int) (h:cntZ_pre l):cntZ_wp l (fun y=>y=cntZ l):=by
  unfold cntZ_wp
  refine loopW.upR l.length (fun k c=>c=(((l.take k).filter fun x=>decide (0≤x)).length:Int)) 0 (by simp) ?_
  rintro k _ K hk rfl IH
  have hl:((l.take k).filter fun x=>decide (0≤x)).length≤k:=Nat.le_trans (List.length_filter_le _ _) (by simp;omega)
  have h':l.length≤1048576:=h
  simp only[forall_eq,decide_eq_true_eq,decide_eq_false_iff_not,I64]
  refine⟨fun h3=>?_,fun h3=>?_⟩
  · have hkl:k<l.length:=by omega
    rw[at_lt hkl]
    refine⟨by omega,fun h4=>⟨by omega,by omega,IH hkl _ ?_⟩,fun h4=>⟨by omega,IH hkl _ ?_⟩⟩
    · rw[← List.take_append_getElem hkl,List.filter_append];simp[h4]
    · rw[← List.take_append_getElem hkl,List.filter_append];simp[h4]
  · rw[show k=l.length by omega,List.take_length];rfl
abbrev parZ (p:Int) (pl:List Int):Int:=placeC pl p
abbrev parZ_pre (p:Int) (pl:List Int):Prop:=p<pl.length∧I64 (-1 - p)∧(0≤p→I64 (4+at' pl p))
def parZ_wp (parent:Int) (places:List Int) (Z:Int→Prop):Prop:=
  ∀ c2:Bool,c2=decide (parent<0)→((c2=true→(I64 ((-1) - parent))∧∀ v5:Int,v5=(-1) - parent→Z v5)∧(c2=false→(0≤parent∧parent<places.length)∧∀ x8:Int,x8=at' places parent→(I64 (4+x8))∧∀ v11:Int,v11=4+x8→Z v11))
theorem parZ_vc (p:Int) (pl:List Int) (h:parZ_pre p pl):parZ_wp p pl (fun y=>y=parZ p pl):=by
  unfold parZ_wp
  obtain⟨h1,h2,h3⟩:=h
  simp only[forall_eq,decide_eq_true_eq,decide_eq_false_iff_not]
  exact⟨fun h4=>⟨h2,by rw[parZ,placeC,if_pos h4]⟩,fun h4=>⟨by omega,h3 (by omega),by rw[parZ,placeC,if_neg h4]⟩⟩
def toldZ (b:Big):List Int→List Int→List Int × List Int
  | now,[]=>([],now)
  | now,l::t=>
    if l ≥ b.edges then let r:=toldZ b now t;((l - b.edges)::r.1,r.2)
    else let now2:=if at' now l<0 then now.set l.toNat (cntZ now) else now
      let r:=toldZ b now2 t;((16+at' now2 l)::r.1,r.2)
theorem toldZ_len (b:Big):∀ (l now:List Int),(toldZ b now l).1.length=l.length
  | [],_=>rfl
  | x::l,now=>by
    simp only[toldZ]
    split
    · simp[toldZ_len b l now]
    · simp[toldZ_len b l _]
structure NumsOk (b:Big) (now:List Int):Prop where
  ed:0≤b.edges∧b.edges≤8
  len:(now.length:Int)=b.edges
  val:∀ v ∈ now,-1≤v∧v≤8
theorem cntZ_le (l:List Int):0≤cntZ l∧cntZ l≤l.length:=by
  have:=List.length_filter_le (fun x=>decide (0≤x)) l
  simp only[cntZ];omega
theorem NumsOk.set {b:Big} {now:List Int} (h:NumsOk b now) (l:Int):NumsOk b (now.set l.toNat (cntZ now)):=by
  have h1:=cntZ_le now
  have h2:=h.len
  have h3:=h.ed
  refine⟨h.ed,by simpa using h.len,fun v hv=>?_⟩
  rcases List.mem_or_eq_of_mem_set hv with hv | rfl
  · exact h.val v hv
  · omega
theorem toldZ_ok {b:Big}:∀ (l now:List Int),NumsOk b now→NumsOk b (toldZ b now l).2
  | [],_,h=>h
  | x::l,now,h=>by
    simp only[toldZ]
    split
    · exact toldZ_ok l now h
    · split
      · exact toldZ_ok l _ (h.set x)
      · exact toldZ_ok l _ h
theorem drop_at {l:List Int} {k:Nat} (h:k<l.length):l.drop k=at' l (k:Int)::l.drop (k+1):=by rw[at_lt h,List.drop_eq_getElem_cons h]
abbrev l5Told (b:Big) (links edges:List Int):List Int × List Int:=toldZ b edges links
abbrev l5Told_pre (b:Big) (links edges:List Int):Prop:=NumsOk b edges∧links.length≤1048576∧∀ l ∈ links,0≤l∧l≤1048576
def l5Told_wp (b:Big) (links:List Int) (edges:List Int) (Z:((List Int) × (List Int))→Prop):Prop:=
  (ownZ_pre edges)∧∀ r8:List Int,r8=ownZ edges→loopW (σ:=Int × (List Int) × (List Int)) (fun (i29,l30,l31) K36=>∀ len37:Int,len37=(links.length:Int)→∀ c39:Bool,c39=decide (i29<len37)→((c39=true→(0≤i29∧i29<links.length)∧∀ x42:Int,x42=at' links i29→∀ c44:Bool,c44=decide (b.edges≤x42)→((c44=true→(0≤i29∧i29<links.length)∧∀ x47:Int,x47=at' links i29→(I64 (x42 - b.edges))∧∀ v51:Int,v51=x42 - b.edges→(l30.length+1≤1073741824)∧∀ l54:List Int,l54=l30++[v51]→(I64 (i29+1))∧∀ v65:Int,v65=i29+1→K36 (v65,l54,l31))∧(c44=false→(0≤i29∧i29<links.length)∧∀ x68:Int,x68=at' links i29→(0≤x42∧x42<l31.length)∧∀ x76:Int,x76=at' l31 x42→∀ c79:Bool,c79=decide (x76<0)→((c79=true→(0≤i29∧i29<links.length)∧∀ x85:Int,x85=at' links i29→(cntZ_pre l31)∧∀ r88:Int,r88=cntZ l31→(0≤x85∧x85<l31.length)∧∀ x94:Int,x94=at' l31 x85→∀ l97:List Int,l97=l31.set x85.toNat r88→(0≤i29∧i29<links.length)∧∀ x105:Int,x105=at' links i29→(0≤x105∧x105<l97.length)∧∀ x112:Int,x112=at' l97 x105→(I64 (16+x112))∧∀ v116:Int,v116=16+x112→(l30.length+1≤1073741824)∧∀ l119:List Int,l119=l30++[v116]→(I64 (i29+1))∧∀ v130:Int,v130=i29+1→K36 (v130,l119,l97))∧(c79=false→(0≤i29∧i29<links.length)∧∀ x133:Int,x133=at' links i29→(0≤x133∧x133<l31.length)∧∀ x140:Int,x140=at' l31 x133→(I64 (16+x140))∧∀ v144:Int,v144=16+x140→(l30.length+1≤1073741824)∧∀ l147:List Int,l147=l30++[v144]→(I64 (i29+1))∧∀ v158:Int,v158=i29+1→K36 (v158,l147,l31))))))∧(c39=false→Z (l30,l31)))) (0,([]:List Int),r8)
theorem l5Told_vc (b:Big) (links edges:List Int) (h:l5Told_pre b links edges):l5Told_wp b links edges (fun y=>y=l5Told b links edges):=by
  unfold l5Told_wp
  obtain⟨h1,h2,h3⟩:=h
  have hE:=h1.ed
  have hL:=h1.len
  refine⟨by simp only[ownZ_pre];omega,?_⟩
  intro r8 hr8
  rw[show r8=edges from hr8]
  refine loopW.upL (τ:=List Int × List Int) links.length (fun k t=>NumsOk b t.2∧t.1.length=k∧toldZ b edges links=(t.1++(toldZ b t.2 (links.drop k)).1,(toldZ b t.2 (links.drop k)).2)) ([],edges) ⟨h1,rfl,rfl⟩ ?_
  rintro k ⟨out,now⟩ K hk ⟨hN,hlen,hI⟩ IH
  simp only at hN hlen hI
  have hnl:=hN.len
  simp only[forall_eq,decide_eq_true_eq,decide_eq_false_iff_not]
  refine⟨fun h4=>?_,fun h4=>?_⟩
  · have hkl:k<links.length:=by omega
    rw[drop_at hkl] at hI
    have hx:=h3 (at' links (k:Int)) (by rw[at_lt hkl];exact List.getElem_mem hkl)
    generalize at' links (k:Int)=x at hI hx
    refine⟨by omega,fun h5=>?_,fun h5=>?_⟩
    · refine⟨by omega,⟨by omega,by omega⟩,by omega,⟨by omega,by omega⟩,IH hkl (_,_) ⟨hN,by simp[hlen],?_⟩⟩
      rw[hI,toldZ,if_pos h5];simp
    · have h5':¬ x ≥ b.edges:=h5
      have hr:0≤x∧x<now.length:=⟨hx.1,by omega⟩
      refine⟨by omega,hr,fun h6=>?_,fun h6=>?_⟩
      · have hv:=at_mem (l:=now.set x.toNat (cntZ now)) (i:=x) ⟨hr.1,by simpa using hr.2⟩
        have hv2:=(hN.set x).val _ hv
        refine⟨by omega,by simp only[cntZ_pre];omega,hr,by omega,⟨hr.1,by simpa using hr.2⟩,⟨by omega,by omega⟩,by omega,⟨by omega,by omega⟩,IH hkl (_,_) ⟨hN.set x,by simp[hlen],?_⟩⟩
        rw[hI,toldZ,if_neg h5'];simp[h6]
      · have hv:=at_mem (l:=now) (i:=x) hr
        have hv2:=hN.val _ hv
        refine⟨by omega,hr,⟨by omega,by omega⟩,by omega,⟨by omega,by omega⟩,IH hkl (_,_) ⟨hN,by simp[hlen],?_⟩⟩
        rw[hI,toldZ,if_neg h5'];simp[h6]
  · have hkl:k=links.length:=by omega
    rw[hkl,List.drop_length] at hI
    simp only[l5Told,hI,toldZ,List.append_nil]
def chunkZ (b:Big) (node:Int) (places edges:List Int):List Int × List Int:=((at' b.nodes node).control::placeC places (at' b.nodes node).parent::(toldZ b edges (at' b.nodes node).links).1,(toldZ b edges (at' b.nodes node).links).2)
abbrev chunkZ_pre (b:Big) (node:Int) (places edges:List Int):Prop:=(0≤node∧node<b.nodes.length)∧l5Told_pre b (at' b.nodes node).links edges∧parZ_pre (at' b.nodes node).parent places
def chunkZ_wp (b:Big) (node:Int) (places:List Int) (edges:List Int) (Z:((List Int) × (List Int))→Prop):Prop:=
  (0≤node∧node<b.nodes.length)∧∀ x5:GNode,x5=at' b.nodes node→(l5Told_pre b x5.links edges)∧∀ r10:(List Int) × (List Int),r10=l5Told b x5.links edges→(parZ_pre x5.parent places)∧∀ r27:Int,r27=parZ x5.parent places→∀ l28:List Int,l28=[x5.control,r27]→(l28.length+r10.1.length≤1073741824)∧∀ l37:List Int,l37=l28++r10.1→Z (l37,r10.2)
theorem chunkZ_vc (b:Big) (node:Int) (places edges:List Int) (h:chunkZ_pre b node places edges):chunkZ_wp b node places edges (fun y=>y=chunkZ b node places edges):=by
  unfold chunkZ_wp
  obtain⟨h1,h2,h3⟩:=h
  simp only[forall_eq]
  refine⟨h1,h2,h3,?_,?_⟩
  · have h4:(l5Told b (at' b.nodes node).links edges).1.length=(at' b.nodes node).links.length:=toldZ_len b _ _
    have:=h2.2.1
    simp;omega
  · simp[chunkZ]
def tailZ (b:Big) (places edges:List Int):List Int × List Int:=(b.sites.map (placeC places)++(toldZ b edges (b.inner.map fun w=>w.link)).1,(toldZ b edges (b.inner.map fun w=>w.link)).2)
abbrev tailZ_pre (b:Big) (places edges:List Int):Prop:=l5Told_pre b (b.inner.map fun w=>w.link) edges∧b.sites.length≤1048576∧∀ p ∈ b.sites,parZ_pre p places
def tailZ_wp (b:Big) (places:List Int) (edges:List Int) (Z:((List Int) × (List Int))→Prop):Prop:=
  loopW (σ:=Int × (List Int)) (fun (i14,l15) K19=>∀ len20:Int,len20=(b.sites.length:Int)→∀ c22:Bool,c22=decide (i14<len20)→((c22=true→(0≤i14∧i14<b.sites.length)∧∀ x25:Int,x25=at' b.sites i14→(parZ_pre x25 places)∧∀ r28:Int,r28=parZ x25 places→(l15.length+1≤1073741824)∧∀ l30:List Int,l30=l15++[r28]→(I64 (i14+1))∧∀ v40:Int,v40=i14+1→K19 (v40,l30))∧(c22=false→loopW (σ:=Int × (List Int)) (fun (i55,l56) K61=>∀ len62:Int,len62=(b.inner.length:Int)→∀ c64:Bool,c64=decide (i55<len62)→((c64=true→(0≤i55∧i55<b.inner.length)∧∀ x67:Wire,x67=at' b.inner i55→(l56.length+1≤1073741824)∧∀ l70:List Int,l70=l56++[x67.link]→(I64 (i55+1))∧∀ v81:Int,v81=i55+1→K61 (v81,l70))∧(c64=false→(l5Told_pre b l56 edges)∧∀ r84:(List Int) × (List Int),r84=l5Told b l56 edges→(l15.length+r84.1.length≤1073741824)∧∀ l102:List Int,l102=l15++r84.1→Z (l102,r84.2)))) (0,([]:List Int))))) (0,([]:List Int))
theorem tailZ_vc (b:Big) (places edges:List Int) (h:tailZ_pre b places edges):tailZ_wp b places edges (fun y=>y=tailZ b places edges):=by
  unfold tailZ_wp
  obtain⟨h1,h2,h3⟩:=h
  have hi:b.inner.length≤1048576:=by have:=h1.2.1;simpa using this
  refine loopW.upL b.sites.length (fun k out=>out=(b.sites.take k).map (placeC places)) [] (by simp) ?_
  rintro k _ K hk rfl IH
  simp only[forall_eq,decide_eq_true_eq,decide_eq_false_iff_not,I64]
  refine⟨fun h4=>?_,fun h4=>?_⟩
  · have hkl:k<b.sites.length:=by omega
    rw[at_lt hkl]
    refine⟨by omega,h3 _ (List.getElem_mem hkl),by simp;omega,by omega,IH hkl _ ?_⟩
    rw[← List.take_append_getElem hkl,List.map_append];rfl
  · refine loopW.upL b.inner.length (fun k out=>out=(b.inner.take k).map fun w=>w.link) [] (by simp) ?_
    rintro j _ K2 hj rfl IH2
    simp only[forall_eq,decide_eq_true_eq,decide_eq_false_iff_not]
    refine⟨fun h5=>?_,fun h5=>?_⟩
    · have hjl:j<b.inner.length:=by omega
      rw[at_lt hjl]
      refine⟨by omega,by simp;omega,by omega,IH2 hjl _ ?_⟩
      rw[← List.take_append_getElem hjl,List.map_append];rfl
    · rw[show k=b.sites.length by omega,show j=b.inner.length by omega,List.take_length,List.take_length]
      refine⟨h1,?_,rfl⟩
      have h6:(l5Told b (b.inner.map fun w=>w.link) edges).1.length=(b.inner.map fun w=>w.link).length:=toldZ_len b _ _
      simp only[List.length_map] at h6 ⊢
      omega
structure Rz where
  out:List Int
  ed:List Int
  pl:List Int
def rzStep (b:Big) (s:Rz) (k:Int) (i:Nat):Rz:=⟨s.out++(chunkZ b k s.pl s.ed).1,(chunkZ b k s.pl s.ed).2,s.pl.set k.toNat (i:Int)⟩
def rzAt (b:Big) (order:List Int):Nat→Rz
  | 0=>⟨[],noneZ b.edges,noneZ b.nodes.length⟩
  | i+1=>rzStep b (rzAt b order i) (at' order (i:Int)) i
structure RzOk (b:Big) (i:Nat) (s:Rz):Prop where
  nums:NumsOk b s.ed
  pl:s.pl.length=b.nodes.length
  lo:∀ v ∈ s.pl,-1≤v∧v≤8
  out:s.out.length≤5 * i
theorem RzOk.told {sig:Sig} {b:Big} {i:Nat} {s:Rz} (hv:ValidB sig b) (h:RzOk b i s) {k:Int} (hk:0≤k∧k<b.nodes.length):l5Told_pre b (at' b.nodes k).links s.ed:=by
  have h1:=hv.links3 hk
  refine⟨h.nums,by omega,fun l hl=>?_⟩
  have h2:=hv.linksAt hk l hl
  have h3:=hv.edges
  have h4:=hv.outer
  omega
theorem RzOk.par {b:Big} {i:Nat} {s:Rz} (h:RzOk b i s) (hn:b.nodes.length≤8) {p:Int} (h1 : -4≤p) (h2:p<b.nodes.length):parZ_pre p s.pl:=by
  refine⟨by rw[h.pl];omega,⟨by omega,by omega⟩,fun h0=>?_⟩
  have:=h.lo _ (at_mem (l:=s.pl) (i:=p) ⟨h0,by rw[h.pl];omega⟩)
  exact⟨by omega,by omega⟩
theorem RzOk.chunk {sig:Sig} {b:Big} {i:Nat} {s:Rz} (hv:ValidB sig b) (h:RzOk b i s) {k:Int} (hk:0≤k∧k<b.nodes.length):chunkZ_pre b k s.pl s.ed:=by
  have h1:=hv.parAt hk
  have h2:=hv.roots
  exact⟨hk,h.told hv hk,h.par hv.len (by omega) (by omega)⟩
theorem RzOk.tail {sig:Sig} {b:Big} {i:Nat} {s:Rz} (hv:ValidB sig b) (h:RzOk b i s):tailZ_pre b s.pl s.ed:=by
  have h1:=hv.slen
  have h2:=hv.inner
  have h3:=hv.edges
  have h4:=hv.outer
  have h5:=hv.roots
  refine⟨⟨h.nums,by simp;omega,fun l hl=>?_⟩,by omega,fun p hp=>?_⟩
  · obtain⟨w,hw,rfl⟩:=List.mem_map.1 hl
    have:=hv.wires w hw
    omega
  · have:=hv.sites p hp
    exact h.par hv.len (by omega) (by omega)
theorem RzOk.step {sig:Sig} {b:Big} {i:Nat} {s:Rz} (hv:ValidB sig b) (h:RzOk b i s) {k:Int} (hk:0≤k∧k<b.nodes.length) (hi:i≤8):RzOk b (i+1) (rzStep b s k i):=by
  have h1:=hv.links3 hk
  refine⟨toldZ_ok _ _ h.nums,by simpa[rzStep] using h.pl,fun v hx=>?_,?_⟩
  · simp only[rzStep] at hx
    rcases List.mem_or_eq_of_mem_set hx with hx | rfl
    · exact h.lo v hx
    · omega
  · have h2:=h.out
    simp only[rzStep,chunkZ,List.length_append,List.length_cons,toldZ_len]
    omega
theorem rz_ok {sig:Sig} {b:Big} {order:List Int} (hv:ValidB sig b) (ho:∀ k ∈ order,0≤k∧k<b.nodes.length) (hl:order.length≤8):∀ i≤order.length,RzOk b i (rzAt b order i)
  | 0,_=>by
    have h1:=hv.edges
    refine⟨⟨h1,by simp[rzAt];omega,fun v hx=>?_⟩,by simp[rzAt],fun v hx=>?_,by simp[rzAt]⟩
    · have:=(List.mem_replicate.1 hx).2;omega
    · have:=(List.mem_replicate.1 hx).2;omega
  | i+1,h=>(rz_ok hv ho hl i (by omega)).step hv (ho _ (by rw[at_lt (show i<order.length by omega)];exact List.getElem_mem _)) (by omega)
def l5Code (b:Big) (order:List Int):List Int × List Int:=((rzAt b order order.length).out++(tailZ b (rzAt b order order.length).pl (rzAt b order order.length).ed).1,(tailZ b (rzAt b order order.length).pl (rzAt b order order.length).ed).2)
abbrev l5Code_pre (b:Big) (order:List Int):Prop:=(∃ sig,ValidB sig b)∧order.length≤8∧∀ k ∈ order,0≤k∧k<b.nodes.length
def l5Code_wp (b:Big) (order:List Int) (Z:((List Int) × (List Int))→Prop):Prop:=
  (noneZ_pre b.edges)∧∀ r8:List Int,r8=noneZ b.edges→∀ len19:Int,len19=(b.nodes.length:Int)→(noneZ_pre len19)∧∀ r22:List Int,r22=noneZ len19→loopW (σ:=Int × (List Int) × (List Int) × (List Int)) (fun (i47,l48,l49,l50) K56=>∀ len57:Int,len57=(order.length:Int)→∀ c59:Bool,c59=decide (i47<len57)→((c59=true→(0≤i47∧i47<order.length)∧∀ x66:Int,x66=at' order i47→(chunkZ_pre b x66 l48 l49)∧∀ r69:(List Int) × (List Int),r69=chunkZ b x66 l48 l49→(0≤i47∧i47<order.length)∧∀ x172:Int,x172=at' order i47→(0≤x172∧x172<l48.length)∧∀ x179:Int,x179=at' l48 x172→∀ l182:List Int,l182=l48.set x172.toNat i47→(l50.length+r69.1.length≤1073741824)∧∀ l192:List Int,l192=l50++r69.1→(I64 (i47+1))∧∀ v204:Int,v204=i47+1→K56 (v204,l182,r69.2,l192))∧(c59=false→(tailZ_pre b l48 l49)∧∀ r207:(List Int) × (List Int),r207=tailZ b l48 l49→(l50.length+r207.1.length≤1073741824)∧∀ l225:List Int,l225=l50++r207.1→Z (l225,r207.2)))) (0,r22,r8,([]:List Int))
theorem l5Code_vc (b:Big) (order:List Int) (h:l5Code_pre b order):l5Code_wp b order (fun y=>y=l5Code b order):=by
  unfold l5Code_wp
  obtain⟨⟨sig,hv⟩,h2,h3⟩:=h
  have h4:=hv.edges
  have h5:=hv.len
  have h6:=hv.slen
  have h7:=hv.inner
  refine⟨⟨h4.1,by omega⟩,?_⟩
  rintro _ rfl _ rfl
  refine⟨⟨by omega,by omega⟩,?_⟩
  rintro _ rfl
  refine loopW.upL (τ:=List Int × List Int × List Int) order.length (fun k t=>t.1=(rzAt b order k).pl∧t.2.1=(rzAt b order k).ed∧t.2.2=(rzAt b order k).out) (noneZ b.nodes.length,noneZ b.edges,[]) ⟨rfl,rfl,rfl⟩ ?_
  rintro k ⟨pl,ed,out⟩ K hk ⟨e1,e2,e3⟩ IH
  simp only at e1 e2 e3
  subst e1 e2 e3
  have hR:=rz_ok hv h3 h2 k hk
  simp only[forall_eq,decide_eq_true_eq,decide_eq_false_iff_not]
  refine⟨fun h8=>?_,fun h8=>?_⟩
  · have hkl:k<order.length:=by omega
    have hm:=h3 (at' order (k:Int)) (by rw[at_lt hkl];exact List.getElem_mem hkl)
    have hl3:=hv.links3 hm
    have ho:=hR.out
    refine⟨by omega,hR.chunk hv hm,by omega,⟨hm.1,by rw[hR.pl];exact hm.2⟩,?_,⟨by omega,by omega⟩,IH hkl (_,_,_) ⟨rfl,rfl,rfl⟩⟩
    simp only[chunkZ,List.length_cons,toldZ_len];omega
  · have hkl:k=order.length:=by omega
    subst hkl
    have ho:=hR.out
    refine⟨hR.tail hv,?_,rfl⟩
    simp only[tailZ,List.length_append,List.length_map,toldZ_len];omega
end Go.Ab.Vg
/- The abstract machine, part Se: what is lent to a call by a pointer to a variable, or by a function value. -/
namespace Go.Ab
section
variable {H:Heap} {n:Nat} {K K':List OwnE} {ids:List Id}
end
section
variable {P:Program} {f:FuncId} {N:Nat} {k:List Item} {Q:AVal→Heap→Nat→Prop} {Ty:Types} {l:List Oper} {ρ:Env} {H:Heap} {n:Nat}
theorem SubL.append {as1 bs cs ds:List AVal} (h:SubL as1 bs) (h':SubL cs ds):SubL (as1++cs) (bs++ds):=by
  induction h with
  | nil=>exact h'
  | cons h _ ih=>exact .cons h ih
end
end Go.Ab
/- The abstract machine, part Sd: regions that draw their order, with a chain of operations that turn the heap; all other operations give the same whenever they come. -/
namespace Go.Ab
set_option linter.unusedSectionVars false
set_option linter.unusedVariables false
section
variable (P:Program) (N:Nat) (ops:Array Oper) (Stab:Heap→Nat→Prop) (hard:List Nat)
def lateC (j:Nat):Bool:=(List.range ops.size).all fun k=>hard.contains k || (behind ops k).contains j
def StepF (o:Oper) (s s':AS):Prop:=∃ v,s'=(s.1.put o.dst v,s.2)∧((gok ops o s.1=some true∧∀ H n,Stab H n→OpSem P N o (loc o.op s.1) H n (isV v H n))∨(gok ops o s.1=some false∧v=skv))
def AnyC (R:AS→Prop):Nat→Array Bool→AS→Prop
  | 0,listed,s=>Region.ready .any ops listed=[]∧R s
  | fuel+1,listed,s=>(Region.ready .any ops listed=[]→R s)∧∀ i ∈ Region.ready .any ops listed,∃ o,ops[i]?=some o ∧
      ((i ∉ hard∧Stab s.2.1 s.2.2∧∃ s',StepF P N ops Stab o s s'∧AnyC R fuel (listed.setIfInBounds i true) s') ∨
       (i ∈ hard∧gok ops o s.1=some true∧∃ post:AVal→Heap→Nat→Prop,OpSem P N o (loc o.op s.1) s.2.1 s.2.2 post∧∀ v H' n',post v H' n'→(lateC ops hard i=false→Stab H' n')∧AnyC R fuel (listed.setIfInBounds i true) (s.1.put o.dst v,H',n')))
inductive OrdT where
  | fin
  | stop
  | free (i:Nat) (t:OrdT)
  | hard (i:Nat) (t a:OrdT)
def OrdT.alts:OrdT→List Nat
  | .hard i _ a=>i::a.alts
  | _=>[]
def OrdT.depth:OrdT→Nat
  | .free _ t=>t.depth+1
  | .hard _ t a=>max (t.depth+1) a.depth
  | _=>0
def headT (t:OrdT) (listed:Array Bool):Bool:=match t with
  | .hard _ _ _ => !(Region.ready .any ops listed).isEmpty && (Region.ready .any ops listed).all fun i=>t.alts.contains i
  | .stop=>false
  | _=>true
def lexT:OrdT→Array Bool→Bool
  | .fin,listed=>(Region.ready .any ops listed).isEmpty
  | .stop,_=>true
  | .free i t,listed => !hard.contains i && (Region.ready .any ops listed).contains i && freeD (fun _=>0) ops listed i && headT ops t (listed.setIfInBounds i true) && lexT t (listed.setIfInBounds i true)
  | .hard i t a,listed=>hard.contains i && headT ops t (listed.setIfInBounds i true) && lexT t (listed.setIfInBounds i true) && lexT a listed
def HardT (R':AS→Prop) (i:Nat) (s:AS):Prop:=∃ o,ops[i]?=some o∧gok ops o s.1=some true∧∃ post:AVal→Heap→Nat→Prop,OpSem P N o (loc o.op s.1) s.2.1 s.2.2 post∧∀ v H' n',post v H' n'→(lateC ops hard i=false→Stab H' n')∧R' (s.1.put o.dst v,H',n')
def RunT (R:AS→Prop):OrdT→AS→Prop
  | .fin,s=>R s
  | .stop,_=>True
  | .free i t,s=>∃ o,ops[i]?=some o∧Stab s.2.1 s.2.2∧∃ s',StepF P N ops Stab o s s'∧RunT R t s'
  | .hard i t a,s=>HardT P N ops Stab hard (RunT R t) i s∧RunT R a s
def drawT (t:OrdT):Bool:=headT ops t (Array.replicate ops.size false) && lexT ops hard t (Array.replicate ops.size false) && decide (t.depth≤ops.size)
end
section
variable {P:Program} {N:Nat} {ops:Array Oper} {Stab:Heap→Nat→Prop} {hard:List Nat}
theorem AnyC.first {R:AS→Prop} {i:Nat} {oi:Oper} (hi:ops[i]?=some oi) (hih:i ∉ hard) (hD:∀ j oj,ops[j]?=some oj→j ∈ behind ops i→j ≠ i→∃ e ∈ oj.after,Region.binds .any e=true∧e.on ∈ behind ops i):∀ (fuel:Nat) (listed:Array Bool) (s s':AS),
    (∀ j ∈ behind ops i,listed.getD j true=false)→(∀ j oj,ops[j]?=some oj→j ≠ i→listed.getD j true=false→j ∉ behind ops i→oi.apart ops oj=true) →
    i ∈ Region.ready .any ops listed→Stab s.2.1 s.2.2→StepF P N ops Stab oi s s'→AnyC P N ops Stab hard R fuel (listed.setIfInBounds i true) s'→AnyC P N ops Stab hard R (fuel+1) listed s:=by
  intro fuel
  induction fuel with
  | zero=>
    intro listed s s' _ _ hr hS hst H
    refine⟨fun h=>(by rw[h] at hr;cases hr),fun j hj=>?_⟩
    by_cases hji:j=i
    · subst hji;exact⟨oi,hi,.inl ⟨hih,hS,s',hst,H⟩⟩
    · have:=ready_mono hj hji
      rw[H.1] at this
      cases this
  | succ fuel ih=>
    intro listed s s' hinv hfree hr hS hst H
    refine⟨fun h=>(by rw[h] at hr;cases hr),fun j hj=>?_⟩
    by_cases hji:j=i
    · subst hji;exact⟨oi,hi,.inl ⟨hih,hS,s',hst,H⟩⟩
    · obtain⟨oj,hoj,hbr⟩:=H.2 j (ready_mono hj hji)
      obtain⟨hjun,oj',hoj',hall⟩:=mem_ready.1 hj
      rw[hoj] at hoj'
      cases hoj'
      have hnot:j ∉ behind ops i:=fun hd=>by
        obtain⟨e,he,hb,hed⟩:=hD j oj hoj hd hji
        have h1:=hall e he hb
        have h0:=hinv e.on hed
        rcases Nat.lt_or_ge e.on listed.size with h' | h'
        · simp[h'] at h0 h1;rw[h0] at h1;cases h1
        · simp[Array.getElem?_eq_none h'] at h1
      obtain⟨h1,h2,h3⟩:=Oper.apart_spec (hfree j oj hoj hji hjun hnot)
      have hinv':∀ k ∈ behind ops i,(listed.setIfInBounds j true).getD k true=false:=fun k hk=>by
        have hjk:j ≠ k:=fun he=>hnot (he ▸ hk)
        rw[getD_set_ne true hjk]
        exact hinv k hk
      have hfree':∀ k ok,ops[k]?=some ok→k ≠ i→(listed.setIfInBounds j true).getD k true=false→k ∉ behind ops i→oi.apart ops ok=true:=fun k ok hk hki hun hno=>by
        refine hfree k ok hk hki ?_ hno
        by_cases hjk:j=k
        · subst hjk;exact hjun
        · rw[getD_set_ne true hjk] at hun;exact hun
      obtain⟨v,rfl,hv⟩:=hst
      have lj:∀ v,loc oj.op (s.1.put oi.dst v)=loc oj.op s.1:=fun v=>loc_put (looks_tmps h1)
      have li:∀ v,loc oi.op (s.1.put oj.dst v)=loc oi.op s.1:=fun v=>loc_put (looks_tmps h3)
      have gj:∀ v,gok ops oj (s.1.put oi.dst v)=gok ops oj s.1:=fun v=>gok_put h1
      have gi:∀ v,gok ops oi (s.1.put oj.dst v)=gok ops oi s.1:=fun v=>gok_put h3
      have hvi:∀ u,(gok ops oi (s.1.put oj.dst u)=some true∧∀ H n,Stab H n→OpSem P N oi (loc oi.op (s.1.put oj.dst u)) H n (isV v H n))∨(gok ops oi (s.1.put oj.dst u)=some false∧v=skv):=fun u=>by
        rw[gi,li]
        exact hv
      rcases hbr with ⟨hjh,_,s'',⟨u,rfl,hu⟩,hrest⟩ | ⟨hjh,hgj,post,hoq,hrest⟩
      · simp only[lj,gj] at hu
        refine⟨oj,hoj,.inl ⟨hjh,hS,_,⟨u,rfl,hu⟩,ih (listed.setIfInBounds j true) (s.1.put oj.dst u,s.2) ((s.1.put oj.dst u).put oi.dst v,s.2) hinv' hfree' (ready_mono hr (Ne.symm hji)) hS ⟨v,rfl,hvi u⟩ ?_⟩⟩
        rw[Array.setIfInBounds_comm _ _ hji,← put_comm v u h2]
        exact hrest
      · simp only[lj,gj] at hoq hgj
        refine⟨oj,hoj,.inr ⟨hjh,hgj,post,hoq,fun u H' n' hp=>?_⟩⟩
        obtain⟨hS',hrest'⟩:=hrest u H' n' hp
        refine⟨hS',?_⟩
        have hlate:lateC ops hard j=false:=by
          rw[Bool.eq_false_iff]
          intro hl
          have:=List.all_eq_true.1 hl i (List.mem_range.2 (Array.getElem?_eq_some_iff.1 hi).1)
          simp only[Bool.or_eq_true,List.contains_iff_mem] at this
          exact this.elim hih hnot
        refine ih (listed.setIfInBounds j true) (s.1.put oj.dst u,H',n') ((s.1.put oj.dst u).put oi.dst v,H',n') hinv' hfree' (ready_mono hr (Ne.symm hji)) (hS' hlate) ⟨v,rfl,hvi u⟩ ?_
        rw[Array.setIfInBounds_comm _ _ hji,← put_comm v u h2]
        exact hrest'
theorem RunT.alt {R:AS→Prop} {s:AS} {listed:Array Bool} {j:Nat}:∀ {t:OrdT},RunT P N ops Stab hard R t s→lexT ops hard t listed=true→j ∈ t.alts→j ∈ hard∧∃ t',t'.depth+1≤t.depth∧headT ops t' (listed.setIfInBounds j true)=true∧lexT ops hard t' (listed.setIfInBounds j true)=true∧HardT P N ops Stab hard (RunT P N ops Stab hard R t') j s
  | .hard i t a,h,hl,hj=>by
    simp only[lexT,Bool.and_eq_true,List.contains_iff_mem] at hl
    rcases List.mem_cons.1 hj with rfl | hj
    · exact⟨hl.1.1.1,t,by simp only[OrdT.depth];omega,hl.1.1.2,hl.1.2,h.1⟩
    · obtain⟨h1,t',h2,h3⟩:=RunT.alt (t:=a) h.2 hl.2 hj
      exact⟨h1,t',by simp only[OrdT.depth];omega,h3⟩
  | .fin,_,_,hj=>by cases hj
  | .stop,_,_,hj=>by cases hj
  | .free _ _,_,_,hj=>by cases hj
theorem AnyC.none {R:AS→Prop} {fuel:Nat} {listed:Array Bool} {s:AS} (h:Region.ready .any ops listed=[]) (hR:R s):AnyC P N ops Stab hard R fuel listed s:=by
  cases fuel with
  | zero=>exact⟨h,hR⟩
  | succ fuel=>exact⟨fun _=>hR,fun i hi=>by rw[h] at hi;cases hi⟩
theorem AnyC.lex {R:AS→Prop}:∀ (fuel:Nat) (t:OrdT) (listed:Array Bool) (s:AS),t.depth≤fuel→headT ops t listed=true→lexT ops hard t listed=true→RunT P N ops Stab hard R t s→AnyC P N ops Stab hard R fuel listed s
  | _,.fin,listed,s,_,_,hB,h=>AnyC.none (by simpa[lexT] using hB) h
  | _,.stop,_,_,_,hh,_,_=>by cases hh
  | 0,.free i t,_,_,hd,_,_,_=>by simp[OrdT.depth] at hd
  | fuel+1,.free i t,listed,s,hd,_,hB,⟨o,ho,hS,s',hst,hrest⟩=>by
    simp only[lexT,Bool.and_eq_true,Bool.not_eq_true',List.contains_iff_mem] at hB
    obtain⟨⟨⟨⟨h1,h2⟩,h3⟩,h4⟩,h5⟩:=hB
    obtain⟨f1,f2,f3⟩:=freeD_spec ho h3
    exact AnyC.first ho (by simpa using h1) f1 fuel listed s s' f2 (fun j oj h1 h2 h3 h4=>(f3 j oj h1 h2 h3 h4).1) h2 hS hst (AnyC.lex fuel t _ _ (by simp only[OrdT.depth] at hd;omega) h4 h5 hrest)
  | 0,.hard i t a,_,_,hd,_,_,_=>by simp only[OrdT.depth] at hd;omega
  | fuel+1,.hard i t a,listed,s,hd,hh,hB,h=>by
    simp only[headT,Bool.and_eq_true,Bool.not_eq_true',List.isEmpty_eq_false_iff] at hh
    refine⟨fun h=>absurd h hh.1,fun j hj=>?_⟩
    have hja:j ∈ (OrdT.hard i t a).alts:=by
      have:=List.all_eq_true.1 hh.2 j hj
      simpa using this
    obtain⟨hjh,t',hd',h1,h2,o,ho,hg,post,hop,hrest⟩:=RunT.alt h hB hja
    exact⟨o,ho,.inr ⟨hjh,hg,post,hop,fun v H' n' hp=>⟨(hrest v H' n' hp).1,AnyC.lex fuel t' _ _ (by omega) h1 h2 (hrest v H' n' hp).2⟩⟩⟩
theorem AnyC.sound {R:AS→Prop} (hN:ops.toList.all (fun o=>dok N o.dst)=true) {Q:Exit→Act→World→Prop} {c0:Ctx} (hQ:∀ a c ρ,Keeps c0 c→Good c→RelE N c ρ a→R (ρ,c.H,c.n)→Q .normal a c.w) :
    ∀ (fuel:Nat) (listed:Array Bool) (ρ:Env) (c:Ctx) (a:Act),Keeps c0 c→Good c→RelE N c ρ a→AnyC P N ops Stab hard R fuel listed (ρ,c.H,c.n)→wpAny P .any ops Q fuel listed a c.w
  | 0,_,_,_,_,hk,g,r,h=>⟨h.1,hQ _ _ _ hk g r h.2⟩
  | fuel+1,listed,ρ,c,a,hk,g,r,h=>by
    refine⟨fun h0=>hQ _ _ _ hk g r (h.1 h0),fun i hi=>?_⟩
    obtain⟨o,ho,hbr⟩:=h.2 i hi
    have hd:dok N o.dst=true:=List.all_eq_true.1 hN o (by rw[← Array.getElem?_toList] at ho;exact List.mem_of_getElem? ho)
    unfold wpOp
    simp only[ho]
    rcases hbr with ⟨_,hS,s',⟨v,rfl,⟨hg,hop⟩ | ⟨hg,rfl⟩⟩,hrest⟩ | ⟨_,hg,post,hop,hrest⟩
    · rw[if_pos (wanted_of_gok r hN hg)]
      refine .inl (hop c.H c.n hS c a rfl rfl g (r.loc o.op) _ _ ?_)
      rintro v1 x c' ⟨rfl,hH,hn⟩ hrep hgood hkeep
      exact AnyC.sound hN hQ fuel _ _ c' _ (hk.trans hkeep) hgood ((r.keeps hkeep).put hd hrep) (by rw[hH,hn];exact hrest)
    · rw[if_neg (by rw[wanted_of_gok r hN hg];simp)]
      exact AnyC.sound hN hQ fuel _ _ c _ hk g (r.put hd (.v _)) hrest
    · rw[if_pos (wanted_of_gok r hN hg)]
      refine .inl (hop c a rfl rfl g (r.loc o.op) _ _ ?_)
      rintro v1 x c' hpost hrep hgood hkeep
      exact AnyC.sound hN hQ fuel _ _ c' _ (hk.trans hkeep) hgood ((r.keeps hkeep).put hd hrep) (hrest v1 c'.H c'.n hpost).2
end
section
variable {P:Program} {f:FuncId} {N:Nat} {k:List Item} {ρ:Env} {H:Heap} {n:Nat} {Q:AVal→Heap→Nat→Prop}
def atS (J:Env→Heap→Nat→Prop):AS→Prop:=fun s=>J s.1 s.2.1 s.2.2
theorem Runs.drawC (Stab:Heap→Nat→Prop) (hard:List Nat) (t:OrdT) (J:Env→Heap→Nat→Prop) {id:Nat} {ops:List Oper} (hm:P.follows .mixedOrders=true) (hN:ops.all (fun o=>dok N o.dst)=true) (hB:Ab.drawT ops.toArray hard t=true)
    (h:RunT P N ops.toArray Stab hard (atS J) t (ρ,H,n)) (hR:∀ ρ H n,J ρ H n→Runs P f N k ρ H n Q):Runs P f N (.code (.region id ops.toArray true)::k) ρ H n Q:=by
  intro c a hH hn g r b cs hf hk
  subst hH
  subst hn
  obtain⟨d1,d2⟩:=draw_keeps g
  simp only[Ab.drawT,Bool.and_eq_true,decide_eq_true_eq] at hB
  have hany:=AnyC.lex (P:=P) (N:=N) (Stab:=Stab) (hard:=hard) (ops:=ops.toArray) ops.toArray.size t (Array.replicate ops.toArray.size false) (ρ,c.H,c.n) hB.2 hB.1.1 hB.1.2 h
  have hw:(Code.region id ops.toArray true).wp P (fun e a' w'=>e = .normal∧∃ c' ρ',c'.w=w'∧Keeps c c'∧Good c'∧RelE N c' ρ' a'∧Runs P f N k ρ' c'.H c'.n Q) a c.w:=by
    refine wp_region_any hm ?_
    have:=AnyC.sound (P:=P) (N:=N) (Stab:=Stab) (hard:=hard) (ops:=ops.toArray) (c0:=c) (by simpa using hN) (Q:=fun e a' w'=>e = .normal∧∃ c' ρ',c'.w=w'∧Keeps c c'∧Good c'∧RelE N c' ρ' a'∧Runs P f N k ρ' c'.H c'.n Q)
      (R:=atS J) (fun a' c' ρ' hk' hg' hr' hR'=>⟨rfl,c',ρ',rfl,hk',hg',hr',hR _ _ _ hR'⟩) ops.toArray.size (Array.replicate ops.toArray.size false) ρ { c with w:={ c.w with drawn:=c.w.drawn+1 } } a d1 d2 (r.keeps d1) hany
    simpa using this
  obtain⟨e,a',w',⟨rfl,c',ρ',rfl,hk',hg',hr',hR⟩,harr⟩:=hw b k cs
  obtain⟨x,v,c'',fr,q,hr,hg,hke,hst,rest⟩:=hR c' a' rfl rfl hg' hr' b cs hf hk
  exact⟨x,v,c'',fr,q,hr,hg,hk'.trans hke,Steps.trans harr hst,rest⟩
theorem Runs.seqC (Stab:Heap→Nat→Prop) (hard:List Nat) (t:OrdT) (J:Env→Heap→Nat→Prop) {id:Nat} {ops:List Oper} {y:Code} (hm:P.follows .mixedOrders=true) (hN:ops.all (fun o=>dok N o.dst)=true) (hB:Ab.drawT ops.toArray hard t=true)
    (h:RunT P N ops.toArray Stab hard (atS J) t (ρ,H,n)) (hR:∀ ρ H n,J ρ H n→Runs P f N (.code y::k) ρ H n Q):Runs P f N (.code (.seq (.region id ops.toArray true) y)::k) ρ H n Q:=
  Runs.seq (Runs.drawC Stab hard t J hm hN hB h hR)
end
section
variable {P:Program} {N:Nat} {ops:Array Oper} {Stab:Heap→Nat→Prop} {hard:List Nat} {R:AS→Prop} {ρ:Env} {H:Heap} {n:Nat} {i:Nat} {l:OrdT} {Ty:Types}
theorem RunT.fin {J:Env→Heap→Nat→Prop} (h:J ρ H n):RunT P N ops Stab hard (atS J) .fin (ρ,H,n):=h
theorem RunT.free {o:Oper} (v:AVal) (ho:ops.toList[i]?=some o) (hg:gok ops o ρ=some true) (hS:Stab H n) (hop:∀ H n,Stab H n→OpSem P N o (loc o.op ρ) H n (isV v H n)) (h:RunT P N ops Stab hard R l (ρ.put o.dst v,H,n)):RunT P N ops Stab hard R (.free i l) (ρ,H,n):=
  ⟨o,by rw[← Array.getElem?_toList];exact ho,hS,_,⟨v,rfl,.inl ⟨hg,hop⟩⟩,h⟩
theorem RunT.heavy {o:Oper} (post:AVal→Heap→Nat→Prop) (ho:ops.toList[i]?=some o) (hg:gok ops o ρ=some true) (hop:OpSem P N o (loc o.op ρ) H n post) (h:∀ v H' n',post v H' n'→(lateC ops hard i=false→Stab H' n')∧RunT P N ops Stab hard R l (ρ.put o.dst v,H',n')):HardT P N ops Stab hard (RunT P N ops Stab hard R l) i (ρ,H,n):=
  ⟨o,by rw[← Array.getElem?_toList];exact ho,hg,post,hop,h⟩
theorem RunT.step (hT:TypesOk P Ty) {o:Oper} {v:AVal} {H':Heap} {n':Nat} (ho:ops.toList[i]?=some o) (hg:gok ops o ρ=some true) (hs:stepF Ty o.dst o.op ρ H n=some (v,H',n')) (hS:lateC ops hard i=false→Stab H' n') (h:RunT P N ops Stab hard R l (ρ.put o.dst v,H',n')):HardT P N ops Stab hard (RunT P N ops Stab hard R l) i (ρ,H,n):=
  RunT.heavy (isV v H' n') ho hg (stepF_ok hT (by rw[stepF_loc];exact hs)) (by rintro _ _ _ ⟨rfl,rfl,rfl⟩;exact⟨hS,h⟩)
theorem RunT.same (hT:TypesOk P Ty) {o:Oper} {v:AVal} (ho:ops.toList[i]?=some o) (hg:gok ops o ρ=some true) (hs:stepF Ty o.dst o.op ρ H n=some (v,H,n)) (hS:lateC ops hard i=false→Stab H n) (h:RunT P N ops Stab hard R l (ρ.put o.dst v,H,n)):HardT P N ops Stab hard (RunT P N ops Stab hard R l) i (ρ,H,n):=
  RunT.step hT ho hg hs hS h
theorem loc_argsC {d:Operand} {args:Array Operand} {ats:Array TypeId}:args.toList.map (loc (.call ⟨.value d,args,ats⟩) ρ).ev=args.toList.map ρ.ev∧(loc (.call ⟨.value d,args,ats⟩) ρ).ev d=ρ.ev d:=
  ⟨List.map_congr_left fun x hx=>loc_ev (by simp[Op.operands,Call.operands];exact .inr (by simpa using hx)),loc_ev (by simp[Op.operands,Call.operands])⟩
theorem RunT.callW {K:List OwnE} {ids:List Id} {d:Option Tmp} {g:Operand} {args:Array Operand} {ats:Array TypeId} {ty:TypeId} {pos:String} {af:Array Edge} {gu:Option (Nat × Bool)} {R':AVal→Prop} {f':FuncId} {as1 args':List AVal} {sh:Sh}
    (ho:ops.toList[i]?=some ⟨d,.call ⟨.value g,args,ats⟩,ty,pos,af,gu⟩) (hgu:gok ops ⟨d,.call ⟨.value g,args,ats⟩,ty,pos,af,gu⟩ ρ=some true) (h:OwnS P f' args' sh R') (hent:Ent P f') (ha:ArgsOk H n as1 args') (hs:Sep H n K ids) (hg:ρ.ev g = .fn (.func f') [] []) (has:args.toList.map ρ.ev=as1)
    (hk:∀ v H1 n1 r,Sep H1 n1 ((sh,v,r)::K) ids→R' r→n≤n1→(∀ i ∈ ids,H1 i=H i)→(lateC ops hard i=false→Stab H1 n1)∧RunT P N ops Stab hard R l (ρ.put d v,H1,n1)) :
    HardT P N ops Stab hard (RunT P N ops Stab hard R l) i (ρ,H,n):=
  RunT.heavy _ ho hgu (OpSem.callW (by rw[loc_argsC.2];exact hg) hent (by rw[loc_argsC.1,has];exact ha) h hs) fun v H' n' ⟨r,h1,h2,h3,h4⟩=>hk v H' n' r h1 h2 h3 h4
theorem RunT.append (hT:TypesOk P Ty) {d:Nat} {t:TypeId} {j:TI} {s x:Operand} {ty:TypeId} {pos:String} {af:Array Edge} {gu:Option (Nat × Bool)} {v xv:AVal} {l':List Sh} {es:List (List AVal)} {ids:List Id} (K1 K2:List OwnE) (add adds:List (List AVal))
    (ho:ops.toList[i]?=some ⟨some d,.call ⟨.builtin .append,#[s,x],#[t,t]⟩,ty,pos,af,gu⟩) (hgu:gok ops ⟨some d,.call ⟨.builtin .append,#[s,x],#[t,t]⟩,ty,pos,af,gu⟩ ρ=some true) (hsv:ρ.ev s=v) (hxv:ρ.ev x=xv) (h:Sep H n ((.s l',v,.list true es)::(K1++K2)) ids) (hk:kd Ty t = .slice j) (hj:j.size=l'.length) (hz:j.zero.length=j.size∧j.bytes≤131072)
    (hx:srcOf H xv=some add) (ho1:add.all (fun e=>e.all Ab.one1)=true) (hadd:∀ S,Row H (K1.map (·.1)) (K1.map (·.2.1)) (K1.map (·.2.2)) S→rowsP (Row H l') add adds S) (hne:adds ≠ []) (hlen:es.length+adds.length≤1073741824)
    (hc:∀ v' H' n',Sep H' n' ((.s l',v',.list true (es++adds))::K2) ids→(∀ i ∈ ids,H' i=H i)→n≤n'→(lateC ops hard i=false→Stab H' n')∧RunT P N ops Stab hard R l (ρ.put (some d) v',H',n')):HardT P N ops Stab hard (RunT P N ops Stab hard R l) i (ρ,H,n):=by
  obtain⟨v',H',n',h1,h2,h3,h4⟩:=Sep.append (d:=d) h hk hj hz hx ho1 hadd hne hlen
  obtain⟨q1,q2⟩:=hc v' H' n' h2 h3 h4
  refine RunT.step hT ho hgu ?_ q1 q2
  show (if t=t then appendF Ty (some d) t (ρ.ev s) (ρ.ev x) H n else none)=_
  rw[if_pos rfl,hsv,hxv,h1]
theorem RunT.append0 (hT:TypesOk P Ty) {d:Nat} {t:TypeId} {j:TI} {s x:Operand} {ty:TypeId} {pos:String} {af:Array Edge} {gu:Option (Nat × Bool)} {v xv:AVal} {l':List Sh} {es:List (List AVal)} {K:List OwnE} {ids:List Id} (add:List (List AVal))
    (ho:ops.toList[i]?=some ⟨some d,.call ⟨.builtin .append,#[s,x],#[t,t]⟩,ty,pos,af,gu⟩) (hgu:gok ops ⟨some d,.call ⟨.builtin .append,#[s,x],#[t,t]⟩,ty,pos,af,gu⟩ ρ=some true) (hsv:ρ.ev s=v) (hxv:ρ.ev x=xv) (h:Sep H n ((.s l',v,.list true es)::K) ids) (hf:∀ t ∈ l',t = .c) (hk:kd Ty t = .slice j) (hj:j.size=l'.length) (hz:j.zero.length=j.size∧j.bytes≤131072)
    (hx:srcOf H xv=some add) (ho1:∀ e ∈ add,e.length=l'.length∧∀ a ∈ e,Fresh a∧Ab.one1 a=true) (hlen:es.length+add.length≤1073741824)
    (hc:∀ v' H' n',Sep H' n' ((.s l',v',.list true (es++add))::K) ids→(∀ i ∈ ids,H' i=H i)→n≤n'→(lateC ops hard i=false→Stab H' n')∧RunT P N ops Stab hard R l (ρ.put (some d) v',H',n')):HardT P N ops Stab hard (RunT P N ops Stab hard R l) i (ρ,H,n):=by
  obtain⟨v',H',n',h1,h2,h3,h4⟩:=Sep.append0 (d:=d) h hf hk hj hz hx ho1 hlen
  obtain⟨q1,q2⟩:=hc v' H' n' h2 h3 h4
  refine RunT.step hT ho hgu ?_ q1 q2
  show (if t=t then appendF Ty (some d) t (ρ.ev s) (ρ.ev x) H n else none)=_
  rw[if_pos rfl,hsv,hxv,h1]
theorem OpSem.stillD {d:Option Tmp} {g:Operand} {args:Array Operand} {ats:Array TypeId} {ty:TypeId} {pos:String} {af:Array Edge} {gu:Option (Nat × Bool)} {v:AVal} {f':FuncId} {as1:List AVal} (h:StillC P f' as1 H n (fun r=>r=v)) (hent:Ent P f') (hg:ρ.ev g = .fn (.func f') [] []) (has:args.toList.map ρ.ev=as1) :
    OpSem P N ⟨d,.call ⟨.value g,args,ats⟩,ty,pos,af,gu⟩ (loc (.call ⟨.value g,args,ats⟩) ρ) H n (isV v H n):=
  OpSem.call (by rw[loc_argsC.2];exact hg) hent (by rw[loc_argsC.1,has,List.nil_append,List.append_nil];exact h)
theorem OpSem.appendD (hT:TypesOk P Ty) {d:Option Tmp} {ty:TypeId} {pos:String} {af:Array Edge} {gu:Option (Nat × Bool)} {t:TypeId} {s x:Operand} {j:TI} {fr t':Bool} {l m:List Int} (hk:kd Ty t = .slice j) (hz:j.size=1∧j.zero.length=1∧j.bytes≤131072) (hs:ρ.ev s = .clip fr (l.map intV)) (hx:ρ.ev x = .list t' (m.map intC))
    (hne:m ≠ []) (hm:l.length+m.length≤1073741824) :
    OpSem P N ⟨d,.call ⟨.builtin .append,#[s,x],#[t,t]⟩,ty,pos,af,gu⟩ (loc (.call ⟨.builtin .append,#[s,x],#[t,t]⟩) ρ) H n (isV (.list true ((l++m).map intC)) H n):=by
  have e1:(loc (.call ⟨.builtin .append,#[s,x],#[t,t]⟩) ρ).ev s=ρ.ev s:=loc_ev (by simp[Op.operands,Call.operands])
  have e2:(loc (.call ⟨.builtin .append,#[s,x],#[t,t]⟩) ρ).ev x=ρ.ev x:=loc_ev (by simp[Op.operands,Call.operands])
  exact OpSem.appendLI hT hk hz (by rw[e1];exact hs) (by rw[e2];exact hx) hne hm
end
end Go.Ab
/- Library functions on slices of numbers: Index, Clone, Clip. -/
namespace Go.Ab.Vg
set_option linter.unusedSimpArgs false
set_option linter.unusedVariables false
abbrev indexZ_pre (l:List Int) (_:Int):Prop:=l.length≤1048576
def indexZ (l:List Int) (s:Int):Int:=if s ∈ l then (l.idxOf s:Int) else -1
theorem indexZ_no {l:List Int} {s:Int} (h:∀ j<l.length,at' l (j:Int) ≠ s):indexZ l s = -1:=by
  rw[indexZ,if_neg]
  intro hm
  obtain⟨j,hj,he⟩:=List.getElem_of_mem hm
  exact h j hj (by rw[at_lt hj];exact he)
theorem indexZ_yes {l:List Int} {s:Int} {k:Nat} (hk:k<l.length) (h:∀ j<k,at' l (j:Int) ≠ s) (he:at' l (k:Int)=s):indexZ l s=k:=by
  rw[at_lt hk] at he
  have hm:s ∈ l:=he ▸ List.getElem_mem hk
  rw[indexZ,if_pos hm]
  have h1:l.idxOf s<l.length:=List.idxOf_lt_length_iff.2 hm
  have h2:l[l.idxOf s]=s:=List.getElem_idxOf h1
  have h3:¬ l.idxOf s<k:=fun hlt=>h _ hlt (by rw[at_lt h1];exact h2)
  have h4:¬ k<l.idxOf s:=fun hlt=>by
    have:=List.not_of_lt_findIdx (p:=(· == s)) (xs:=l) hlt
    simp[he] at this
  omega
theorem indexZ_lt (l:List Int) (s:Int) : -1≤indexZ l s∧indexZ l s<l.length∧(0≤indexZ l s↔s ∈ l):=by
  rw[indexZ]
  split
  · rename_i h
    have h1:l.idxOf s<l.length:=List.idxOf_lt_length_iff.2 h
    exact⟨by omega,by omega,fun _=>h,fun _=>by omega⟩
  · rename_i h
    exact⟨by omega,by omega,fun h2=>by omega,fun h2=>absurd h2 h⟩
def indexZ_wp (s:List Int) (v_:Int) (Z:Int→Prop):Prop:=
  ∀ len2:Int,len2=(s.length:Int)→loopW (σ:=Int) (fun v6 K9=>∀ c10:Bool,c10=decide (v6<len2)→((c10=true→(0≤v6∧v6<s.length)∧∀ x13:Int,x13=at' s v6→∀ c15:Bool,c15=decide (v_=x13)→((c15=true→Z v6)∧(c15=false→(I64 (v6+1))∧∀ v18:Int,v18=v6+1→K9 (v18))))∧(c10=false→Z (-1)))) (0)
theorem indexZ_vc (l:List Int) (s:Int) (h:indexZ_pre l s):indexZ_wp l s (fun y=>y=indexZ l s):=by
  unfold indexZ_wp
  rintro _ rfl
  refine loopW.up1 l.length (fun k=>∀ j<k,at' l (j:Int) ≠ s) (by simp) ?_
  rintro k K hk hI IH
  simp only[forall_eq,decide_eq_true_eq,decide_eq_false_iff_not,I64]
  refine⟨fun h1=>⟨by omega,fun h2=>(indexZ_yes (by omega) hI h2.symm).symm,fun h2=>⟨by omega,IH (by omega) fun j hj=>?_⟩⟩,fun h1=>?_⟩
  · rcases Nat.lt_or_ge j k with h3 | h3
    · exact hI j h3
    · rw[show j=k by omega];exact fun h=>h2 h.symm
  · rw[indexZ_no fun j hj=>hI j (by omega)]
abbrev cloneZ (l:List Int):List Int:=l
abbrev cloneZ_pre (l:List Int):Prop:=l.length≤1048576
def cloneZ_wp (s:List Int) (Z:(List Int)→Prop):Prop:=
  ∀ c2:Bool,(c2=true→s=[])→((c2=true→Z [])∧(c2=false→(([]:List Int).length+s.length≤1073741824)∧∀ l7:List Int,l7=([]:List Int)++s→Z l7))
theorem cloneZ_vc (l:List Int) (h:cloneZ_pre l):cloneZ_wp l (fun y=>y=cloneZ l):=by
  unfold cloneZ_wp
  intro c hc
  refine⟨fun h1=>(hc h1).symm,fun _=>⟨by simp;omega,?_⟩⟩
  rintro _ rfl
  simp
end Go.Ab.Vg
/- Walks by program for YtkocdlgoncmdbaaGreatDoorAbKi. -/
namespace Go.Ab.Vg
open Go.Proofs
set_option maxRecDepth 100000
set_option linter.unusedSimpArgs false
set_option linter.unusedVariables false
attribute [local simp] intC
theorem e109:Ent Tryz.prog 109:=Ent.of Tryz.func109 (by kernel_rfl) rfl
theorem indexZ_walk (s:List Int) (v_:Int) (Z:Int→Prop) (h:indexZ_wp s v_ Z):PureC Tryz.prog 109 [.list false (s.map intC),int v_] (fun r=>∃ y:Int,Z y∧r=int y):=by
  unfold indexZ_wp at h
  refine PureC.of Tryz.func109 rfl Tryz.ntmps109 (by simp) fun Q hQ=>?_
  refine Runs.cut (fun ρ H n=>(ρ 0 = .list false (s.map intC)∧ρ 1=int v_)) (by simp) ?_
  rintro ρ H n1 hh
  refine zE fun k' hk'=>?_
  simp[hh]
  apply hk'
  refine Runs.seq ?_
  refine zE fun k' hk'=>?_
  obtain⟨len2,elen2,h⟩:=atm h
  have f3:=fun H=>len_list (H:=H) (fr:=false) (f:=intC) kd_24 elen2
  simp[hh,f3,-lenF]
  apply hk'
  refine Runs.block ?_
  refine Runs.loopW h (fun (sJ:Int) ρ H n=>match sJ with | v6=>(ρ 0 = .list false (s.map intC)∧ρ 1=int v_∧ρ 7=int len2∧ρ 8=int v6)) (by simp[hh]) ?_
  clear hh
  rintro v6 ρ H n7 K h hh IH8
  refine zE fun k' hk'=>?_
  obtain⟨c10,ec10,h⟩:=atm h
  have f11:=ib_lss (k:=.i64) ec10
  simp[hh,f11,-intBin]
  apply hk'
  refine Runs.seq ?_
  refine Runs.ite (b:=c10) (by simp[hh]) (fun dc10=>?_) (fun dc10=>?_)
  · replace h:=h.1 dc10
    refine Runs.skip ?_
    refine Runs.seq ?_
    refine Runs.block ?_
    refine zE fun k' hk'=>?_
    simp[hh,dc10]
    apply hk'
    refine zE fun k' hk'=>?_
    obtain⟨hb12,h⟩:=h
    obtain⟨x13,ex13,h⟩:=atm h
    have f14:=fun H=>ix_list (H:=H) (fr:=false) (f:=intC) (k:=.i64) kd_24 (fun _=>rfl) hb12 ex13
    obtain⟨c15,ec15,h⟩:=atm h
    have f16:=ib_eql (k:=.i64) ec15
    simp[hh,f14,f16,dc10,-indexAddrF,-intBin]
    apply hk'
    refine Runs.ite (b:=c15) (by simp[hh,dc10]) (fun dc15=>?_) (fun dc15=>?_)
    · replace h:=h.1 dc15
      refine zE fun k' hk'=>?_
      simp[hh,dc10,dc15]
      apply hk'
      exact Runs.ret1 (v:=int v6) Tryz.func109 Tryz.results109 (by simp[hh,dc10,dc15]) (hQ _ _ _ _ (.of (.v _)) ⟨v6,h,rfl⟩)
    replace h:=h.2 dc15
    refine Runs.skip ?_
    refine Runs.inBlock ?_
    refine zF fun k' hk'=>?_
    obtain⟨hb17,h⟩:=h
    obtain⟨v18,ev18,h⟩:=atm h
    have f19:=ib_add hb17 ev18
    simp[hh,f19,dc10,dc15,-intBin]
    apply hk'
    refine IH8 (v18) _ _ _ h (by simp[hh,dc10,dc15])
  replace h:=h.2 dc10
  refine Runs.exit rfl ?_
  refine zE fun k' hk'=>?_
  simp[hh,dc10]
  apply hk'
  exact Runs.ret1 (v:=int (-1)) Tryz.func109 Tryz.results109 (by simp[hh,dc10]) (hQ _ _ _ _ (.of (.v _)) ⟨(-1),h,rfl⟩)
theorem indexZ_ok (s:List Int) (v_:Int) (hp:indexZ_pre s v_):PureC Tryz.prog 109 [.list false (s.map intC),int v_] (fun r=>r=int (indexZ s v_)):=(indexZ_walk s v_ _ (indexZ_vc s v_ hp)).mono (by rintro _ ⟨_,rfl,rfl⟩;rfl)
theorem e142:Ent Tryz.prog 142:=Ent.of Tryz.func142 (by kernel_rfl) rfl
theorem clipZ_ok (t:Bool) (l:List Int) (H:Heap) (n:Nat):StillC Tryz.prog 142 [.list t (l.map intC)] H n (fun r=>r = .clip t (l.map intV)):=by
  refine CallsA.of Tryz.func142 rfl Tryz.ntmps142 (by simp) fun Q hQ=>?_
  refine Runs.cut (fun ρ H1 n1=>ρ 0 = .list t (l.map intC)∧H1=H∧n1=n) (by simp) ?_
  rintro ρ H n1 ⟨h0,rfl,rfl⟩
  refine zE fun k' hk'=>?_
  simp[h0]
  apply hk'
  refine zE fun k' hk'=>?_
  have f1:=fun H=>len_list (H:=H) (fr:=t) (f:=intC) (l:=l) (v:=(l.length:Int)) kd_24 rfl
  simp[h0,f1]
  refine RunK.clipS (fr:=t) (vs:=l.map intV) (k1:=.i64) (k2:=.i64) Ty_ok (by decide) (by decide) kd_24 (by rw[intV_map];simp[h0]) (by simp) (by simp) ?_
  simp
  apply hk'
  exact Runs.ret1 (v:=.clip t (l.map intV)) Tryz.func142 Tryz.results142 (by simp) (hQ _ _ _ ⟨rfl,rfl,rfl⟩)
theorem e106:Ent Tryz.prog 106:=Ent.of Tryz.func106 (by kernel_rfl) rfl
theorem cloneZ_walk (s:List Int) (Z:(List Int)→Prop) (h:cloneZ_wp s Z):OwnS Tryz.prog 106 [.list false (s.map intC)] (.s [.c]) (fun r=>∃ y:List Int,Z y∧r = .list true (y.map intC)):=by
  unfold cloneZ_wp at h
  have sp:Sep noHeap 0 [] []:=Sep.nil (by simp)
  refine OwnS.of Tryz.func106 rfl Tryz.ntmps106 (by simp) fun Q hQ=>?_
  refine Runs.cut (fun ρ H n=>ρ 0 = .list false (s.map intC)∧Sep H n [] []) (by refine⟨by simp ,sp⟩) ?_
  rintro ρ H n1 ⟨hh,sp⟩
  refine zE fun k' hk'=>?_
  simp[hh]
  apply hk'
  refine Runs.seq ?_
  refine zE fun k' hk'=>?_
  simp[hh]
  refine RunK.isNil (fr:=false) (els:=s.map intC) Ty_ok (by decide) (by decide) kd_24 (by simp[hh]) (by simp[hh]) ?_
  rintro c2 hc3
  replace h:=h c2 (fun hq=>by simpa using hc3 hq)
  simp[hh]
  apply hk'
  refine Runs.ite (b:=c2) (by simp[hh]) (fun dc2=>?_) (fun dc2=>?_)
  · replace h:=h.1 dc2
    refine zE fun k' hk'=>?_
    simp[hh,dc2]
    apply hk'
    exact Runs.ret1 (v:=.v (.slice none 0 0)) Tryz.func106 Tryz.results106 (by simp[hh,dc2]) (hQ _ _ _ _ (Sep.sub (ids':=[]) (Sep.addNil sp) (by simp)) ⟨[],h,rfl⟩)
  replace h:=h.2 dc2
  refine Runs.skip ?_
  refine zE fun k' hk'=>?_
  obtain⟨hb6,h⟩:=h
  obtain⟨l7,el7,h⟩:=atm h
  simp[hh,dc2,-appendF]
  refine bind_append0 (s.map intC) (Sep.addEmpty (l:=[.c]) sp) (by simp) kd_24 (by simp) (by simp) (by simp[srcOf]) (by simp[-one1,o1x]) (by simpa using hb6) ?_
  rintro v8 H9 n10 sp hfr11 hle12
  replace sp:Sep H9 n10 [oI v8 l7] []:=by refine Sep.ap el7 ?_;exact sp
  simp[hh,dc2]
  apply hk'
  refine Runs.cut (fun ρ H n=>∃ (v14:AVal),ρ 2=v14∧Sep H n [oI v14 l7] []) (by refine⟨v8,by simp[hh,dc2],sp⟩) ?_
  clear hh
  rintro ρ H n15 ⟨v14,hh,sp⟩
  exact Runs.ret1 (v:=v14) Tryz.func106 Tryz.results106 (by simp[hh]) (hQ _ _ _ _ (Sep.sub (ids':=[]) sp (by simp)) ⟨l7,h,rfl⟩)
theorem cloneZ_ok (s:List Int) (hp:cloneZ_pre s):OwnS Tryz.prog 106 [.list false (s.map intC)] (.s [.c]) (fun r=>r = .list true ((cloneZ s).map intC)):=(cloneZ_walk s _ (cloneZ_vc s hp)).mono (by rintro _ ⟨_,rfl,rfl⟩;rfl)
end Go.Ab.Vg
/- The abstract machine, part Sh: function values handed over: what they capture is seen by the callee as cells that are never written again. -/
namespace Go.Ab
theorem one1_cells {v:AVal} (h:Ab.one1 v=true):cellsA v=some [v]:=by
  cases v with
  | v x=>cases x<;>first | rfl | (simp[Ab.one1,one] at h)
  | undef=>simp[Ab.one1] at h
  | agg=>simp[Ab.one1] at h
  | tup=>simp[Ab.one1] at h
  | _=>rfl
theorem Imm.bnd {n:Nat} {a:AVal} (h:Imm a):Bnd n a:=by
  induction h with
  | v x=>exact .v x
  | agg cs _ ih=>exact .agg cs ih
  | tup cs _ ih=>exact .tup cs ih
  | list fr els _ ih=>exact .list fr els ih
  | iface t a _ ih=>exact .iface t a ih
section
variable {H:Heap} {n:Nat}
theorem ArgOk.ptrVar {X:Id} {sz:Nat} {cs ds:List AVal} (hX:H X=some ⟨sz,[cs]⟩) (h:ArgsOk H n cs ds):ArgOk H n (.ptr X 1 0 0) (.iptr false ds):=by
  intro c x hH hn g r c' hw hc
  obtain⟨hl,hi⟩:=h.get
  rw[← hH] at hX
  cases r with
  | ptr _ _ _ _ x h1 hlt hg hh=>
    obtain⟨_,rfl⟩:=hh _ hX rfl
    have hcell:∀ (j:Nat) (a:AVal),cs[j]?=some a→∃ y,c.w.cell? ⟨c.β X,0 * sz+j,none⟩=some y∧Rep c a y:=fun j a ha=>g.cell hX (i:=0) rfl ha
    have hget:∀ (j:Nat) (b:AVal),ds[j]?=some b→∃ a,cs[j]?=some a:=fun j b hb=>⟨_,List.getElem?_eq_getElem (show j<cs.length by rw[hl];exact (List.getElem?_eq_some_iff.1 hb).1)⟩
    refine .iptr false ds _ (fun j=>(c.w.cell? ⟨c.β X,0 * sz+j,none⟩).getD Go.undef) rfl (no_mu hc _) (by rw[hw];exact g.lt hX) (fun h=>by cases h) (fun j b hb=>?_) (fun j b hb=>?_)
    · obtain⟨a,ha⟩:=hget j b hb
      obtain⟨y,hy,_⟩:=hcell j a ha
      rw[hw]
      show c.w.cell? ⟨c.β X,0 * sz+j,none⟩=_
      rw[hy];rfl
    · obtain⟨a,ha⟩:=hget j b hb
      obtain⟨y,hy,hr⟩:=hcell j a ha
      simp only[hy,Option.getD_some]
      exact hi j a b ha hb c y hH hn g hr c' hw hc
theorem ArgOk.fnF {f:Fn} {as1 as' bs bs':List AVal} (h1:ArgsOk H n as1 as') (h2:ArgsOk H n bs bs'):ArgOk H n (.fn f as1 bs) (.fn f as' bs'):=by
  intro c x hH hn g r c' hw hc
  obtain⟨l1,i1⟩:=h1.get
  obtain⟨l2,i2⟩:=h2.get
  cases r with
  | fn _ _ _ vs us hl hl' ha hb=>
    refine .fn f as' bs' vs us (by omega) (by omega) (fun i a x hx hv=>?_) (fun i a x hx hv=>?_)
    · have hi:=(List.getElem?_eq_some_iff.1 hx).1
      have e:as1[i]?=some (as1[i]'(by omega)):=List.getElem?_eq_getElem (by omega)
      exact i1 i _ a e hx c x hH hn g (ha i _ x e hv) c' hw hc
    · have hi:=(List.getElem?_eq_some_iff.1 hx).1
      have e:bs[i]?=some (bs[i]'(by omega)):=List.getElem?_eq_getElem (by omega)
      exact i2 i _ a e hx c x hH hn g (hb i _ x e hv) c' hw hc
theorem ArgsOk.app {as1 as' bs bs':List AVal} (h:ArgsOk H n as1 as') (h':ArgsOk H n bs bs'):ArgsOk H n (as1++bs) (as'++bs'):=by
  induction h with
  | nil=>exact h'
  | cons h _ ih=>exact .cons h ih
theorem PureC.args {P:Program} {f:FuncId} {as1 as':List AVal} {R:AVal→Prop} (h:PureC P f as' R) (ha:ArgsOk H n as1 as'):StillC P f as1 H n R:=by
  intro c xs hH hn gd hl
  have hb:Good ⟨c.w.heap.size,fun _=>0,noHeap,0,c.w⟩:=good_bare c.w
  obtain⟨hlen,hget⟩:=ha.get
  have hrep:RepL ⟨c.w.heap.size,fun _=>0,noHeap,0,c.w⟩ as' xs:=by
    refine⟨by rw[← hlen];exact hl.1,fun i b x hb' hx=>?_⟩
    have hi:=(List.getElem?_eq_some_iff.1 hb').1
    have ha':as1[i]?=some (as1[i]'(by omega)):=List.getElem?_eq_getElem (by omega)
    exact hget i _ b ha' hb' c x hH hn gd (hl.2 i _ x ha' hx) _ rfl (fun _=>rfl)
  refine (h _ xs rfl rfl hb hrep).mono ?_
  rintro e w' ⟨x,v,c1,he,hw,⟨r,hres,hR⟩,hrv,hg1,hk⟩
  subst hw
  have hnomu:∀ k,¬ Ctx.mu ⟨c.w.heap.size,fun _=>0,noHeap,0,c.w⟩ k:=by
    rintro k ⟨id,o,ho,_⟩
    cases ho
  obtain⟨hkc,hgc⟩:=more_blocks gd c1.w ⟨hk.os,hk.tape,hk.output⟩ hk.size (fun k hk'=>(hk.imm k hk' (hnomu k)).1)
  refine⟨x,r,{ c with w:=c1.w },he,rfl,⟨hR,hH,hn⟩,?_,hgc,hkc⟩
  refine hres c1 x rfl rfl hg1 hrv { c with w:=c1.w } rfl ?_ ?_
  · rintro k ⟨id,o,ho,hb'⟩
    have hlt:c.β id<c.w.heap.size:=gd.lt ho
    rw[hk.B]
    show k<c.w.heap.size
    simp only at hb'
    omega
  · rw[hk.B]
    exact gd.Bsize
end
section
variable {P:Program} {f:FuncId} {N:Nat} {k:List Item} {Q:AVal→Heap→Nat→Prop} {Ty:Types} {l:List Oper} {ρ:Env} {H:Heap} {n:Nat}
theorem RunK.callG (hT:TypesOk P Ty) {d:Option Tmp} {g:Operand} {args:Array Operand} {ats:Array TypeId} {ty:TypeId} {pos:String} {af:Array Edge} {R:AVal→Prop} {f':FuncId} {xs1 xs2 ys1 ys2:List AVal} {ops:List Oper}
    (h:PureC P f' (xs2++ys2) R) (hent:Ent P f') (ha:ArgsOk H n xs1 xs2) (hb:ArgsOk H n ys1 ys2) (hN:ops.all (fun o=>dok N o.dst)=true) (hl:(⟨d,.call ⟨.value g,args,ats⟩,ty,pos,af,none⟩::l:List Oper).all (fun o=>dok N o.dst)=true) (hg:ρ.ev g = .fn (.func f') [] ys1) (has:args.toList.map ρ.ev=xs1)
    (hk:∀ v,R v→evalK P f N k Q Ty ops.toArray l (ρ.put d v) H n) :
    RunK P f N k Q ops.toArray (⟨d,.call ⟨.value g,args,ats⟩,ty,pos,af,none⟩::l) ρ H n:=
  RunK.callF hT (cl:=.fn (.func f') [] ys1) ⟨f',[],ys1,rfl,hent,by rw[List.nil_append];exact PureC.args h (ha.app hb)⟩ hN hl hg has hk
theorem OpSem.callG {d:Option Tmp} {g:Operand} {args:Array Operand} {ats:Array TypeId} {ty:TypeId} {pos:String} {af:Array Edge} {gu:Option (Nat × Bool)} {v:AVal} {f':FuncId} {xs xs2 ys1 ys2:List AVal}
    (h:PureC P f' (xs2++ys2) (fun r=>r=v)) (hent:Ent P f') (ha:ArgsOk H n xs xs2) (hb:ArgsOk H n ys1 ys2) (hg:ρ.ev g = .fn (.func f') [] ys1) (has:args.toList.map ρ.ev=xs) :
    OpSem P N ⟨d,.call ⟨.value g,args,ats⟩,ty,pos,af,gu⟩ (loc (.call ⟨.value g,args,ats⟩) ρ) H n (isV v H n):=by
  have h1:(loc (.call ⟨.value g,args,ats⟩) ρ).ev g=ρ.ev g:=loc_ev (by simp[Op.operands,Call.operands])
  have h2:args.toList.map (loc (.call ⟨.value g,args,ats⟩) ρ).ev=args.toList.map ρ.ev:=List.map_congr_left fun x hx=>loc_ev (by simp[Op.operands,Call.operands];exact .inr (by simpa using hx))
  exact OpSem.call (by rw[h1];exact hg) hent (by rw[h2,has,List.nil_append];exact PureC.args h (ha.app hb))
theorem RunDK.callG (hT:TypesOk P Ty) {κ:Op→Nat} (hκ:KOk κ) {d:Option Tmp} {g:Operand} {args:Array Operand} {ats:Array TypeId} {ty:TypeId} {pos:String} {af:Array Edge} {v:AVal} {f':FuncId} {xs1 xs2 ys1 ys2:List AVal} {ops:Array Oper}
    (h:PureC P f' (xs2++ys2) (fun r=>r=v)) (hent:Ent P f') (ha:ArgsOk H n xs1 xs2) (hb:ArgsOk H n ys1 ys2) (h0:κ (.call ⟨.value g,args,ats⟩) ≠ 0) (hg:ρ.ev g = .fn (.func f') [] ys1) (has:args.toList.map ρ.ev=xs1)
    (hk:evalD P f N k Q Ty κ ops l (ρ.put d v) H n):RunDK P f N k Q κ ops (⟨d,.call ⟨.value g,args,ats⟩,ty,pos,af,none⟩::l) ρ H n:=
  RunDK.op hT hκ rfl h0 (fun _=>⟨rfl,rfl⟩) (OpSem.callG h hent ha hb hg has) hk
theorem RunK.same1 (hT:TypesOk P Ty) {ops:Array Oper} {o:Oper} {v:AVal} (hl:(o::l).all (fun o=>dok N o.dst)=true) (hg:o.guard=none) (hs:stepF Ty o.dst o.op ρ H n=some (v,H,n)) (h:RunK P f N k Q ops l (ρ.put o.dst v) H n):RunK P f N k Q ops (o::l) ρ H n:=by
  simp only[List.all_cons,Bool.and_eq_true] at hl
  refine RunO.op hg hl.1 ((stepF_ok hT hs).mono ?_)
  rintro _ _ _ ⟨rfl,rfl,rfl⟩
  exact h
theorem RunK.makeS (hT:TypesOk P Ty) {ops:List Oper} {d len:Nat} {t:TypeId} {j:TI} {ps:Array (Nat × Operand)} {ty:TypeId} {pos:String} {af:Array Edge} {l':List Sh} {K:List OwnE} {ids:List Id} {cs:List AVal} (es:List (List AVal)) (h:Sep H n K ids)
    (hN:ops.all (fun o=>dok N o.dst)=true) (hl:(⟨some d,.buildSlice t len ps,ty,pos,af,none⟩::l:List Oper).all (fun o=>dok N o.dst)=true) (hf:∀ t ∈ l',t = .c) (hk:kd Ty t = .slice j) (hj:j.size=l'.length) (h0:len ≠ 0∧len * j.size≤16777216∧j.size ≠ 0∧j.zero.length=j.size)
    (hcs:fillA (fun k=>some (k * j.size,j.size)) ((List.replicate len (j.zero.map AVal.v)).flatten) (ps.toList.map fun p=>(p.1,ρ.ev p.2))=some cs) (hes:chunks j.size len cs=es) (hel:es.length=len) (ho:∀ e ∈ es,e.length=l'.length∧∀ a ∈ e,flat a=true)
    (hc:∀ id H' n',Sep H' n' ((.s l',.arr id len 0 len,.list true es)::K) ids→(∀ i ∈ ids,H' i=H i)→n≤n'→evalK P f N k Q Ty ops.toArray l (ρ.put (some d) (.arr id len 0 len)) H' n'):RunK P f N k Q ops.toArray (⟨some d,.buildSlice t len ps,ty,pos,af,none⟩::l) ρ H n:=by
  subst hes
  have e:ownF Ty (some d) (.buildSlice t len ps) ρ H n=some (.arr (n,d) len 0 len,H.set (n,d) ⟨j.size,chunks j.size len cs⟩,n+1):=by
    simp only[ownF,hk]
    rw[if_pos h0,hcs]
    rfl
  refine RunK.op hT hN hl rfl (ownF_ok (o:=⟨some d,.buildSlice t len ps,ty,pos,af,none⟩) hT e).1 ?_
  rintro _ _ _ ⟨rfl,rfl,rfl⟩
  have h1:=Sep.addNew (d:=d) (l:=l') (els:=chunks j.size len cs) (es:=chunks j.size len cs) h (rowsP.flats ho hf)
  rw[hel,← hj] at h1
  exact hc (n,d) _ _ h1 (fun i hi=>Heap.get_set_ne _ _ (by rintro rfl;have:=h.1 _ hi;simp at this)) (Nat.le_succ n)
end
end Go.Ab
/- Own numbers that become lists, told beside what else is owned; cells that are told otherwise. -/
namespace Go.Ab.Vg
set_option linter.unusedSimpArgs false
set_option linter.unusedVariables false
open Go.Proofs
section
variable {P:Program} {f:FuncId} {N:Nat} {k:List Item} {ρ:Env} {H:Heap} {n:Nat} {Q:AVal→Heap→Nat→Prop}
theorem Runs.subX {X:Id} {sz:Nat} {rows rows':List (List AVal)} (hX:H X=some ⟨sz,rows⟩) (hl:rows.length=rows'.length) (hr:∀ (i:Nat) (e e':List AVal),rows[i]?=some e→rows'[i]?=some e'→SubL e e') (h:Runs P f N k ρ (H.set X ⟨sz,rows'⟩) n Q):Runs P f N k ρ H n Q:=by
  intro c a hH hn g r b cs hf hk
  subst hH hn
  have hdom:∀ id o',(c.H.set X ⟨sz,rows'⟩) id=some o'→∃ o,c.H id=some o∧o.size=o'.size∧o.els.length=o'.els.length:=by
    intro id o' ho
    rw[Heap.get_set] at ho
    split at ho
    · rename_i he;subst he;cases ho;exact⟨_,hX,rfl,hl⟩
    · exact⟨o',ho,rfl,rfl⟩
  let c2:Ctx:={ c with H:=c.H.set X ⟨sz,rows'⟩ }
  have k2:Keeps c c2:=by
    refine⟨Nat.le_refl _,rfl,Nat.le_refl _,rfl,rfl,rfl,fun k hk hm=>⟨rfl,?_⟩,fun id o' ho _=>?_⟩
    · rintro⟨id,o,ho,hb⟩
      obtain⟨o2,h2,_⟩:=hdom id o ho
      exact hm ⟨id,o2,h2,hb⟩
    · obtain⟨o,h1,h2,h3⟩:=hdom id o' ho
      exact⟨o,h1,h2,Nat.le_of_eq h3,fun _=>⟨rfl,fun cl el fz h=>⟨cl,el,fz,h,Nat.le_refl _⟩⟩⟩
  have g2:Good c2:=by
    refine⟨fun id o ho=>?_,fun id id' o o' ho ho' hb=>?_,g.Bsize,fun id o ho=>?_⟩
    · obtain⟨o2,h2,_⟩:=hdom id o ho
      exact g.stamp id o2 h2
    · obtain⟨o2,h2,_⟩:=hdom id o ho
      obtain⟨o3,h3,_⟩:=hdom id' o' ho'
      exact g.inj id id' o2 o3 h2 h3 hb
    · obtain⟨o2,h2,h3,h4⟩:=hdom id o ho
      obtain⟨p1,cl,el,p2,p3,p4⟩:=g.obj id o2 h2
      refine⟨p1,cl,el,p2,by rw[← h3,← h4];exact p3,fun i e he=>?_⟩
      have ho':(c.H.set X ⟨sz,rows'⟩) id=some o:=ho
      rw[Heap.get_set] at ho'
      split at ho'
      · rename_i hid
        subst hid
        cases ho'
        rw[hX] at h2
        cases h2
        obtain⟨e0,he0⟩:=get_of_len (l:=rows) (i:=i) (by rw[hl];exact (List.getElem?_eq_some_iff.1 he).1)
        obtain⟨s1,s2⟩:=(hr i e0 e he0 he).get
        refine⟨by rw[← s1];exact (p4 i e0 he0).1,fun j a ha=>?_⟩
        obtain⟨a0,ha0⟩:=get_of_len (l:=e0) (i:=j) (by rw[s1];exact (List.getElem?_eq_some_iff.1 ha).1)
        obtain⟨x,hx,hrp⟩:=(p4 i e0 he0).2 j a0 ha0
        exact⟨x,hx,s2 j a0 a ha0 ha c2 x (hrp.keeps k2)⟩
      · rw[ho'] at h2
        cases h2
        obtain⟨q1,q2⟩:=p4 i e he
        refine⟨q1,fun j a ha=>?_⟩
        obtain⟨x,hx,hrp⟩:=q2 j a ha
        exact⟨x,hx,hrp.keeps k2⟩
  obtain⟨x,v,c',fr,q,hr',hg,hke,rest⟩:=h c2 a rfl rfl g2 (r.keeps k2) b cs hf hk
  exact⟨x,v,c',fr,q,hr',hg,k2.trans hke,rest⟩
def AllI (K:List OwnE):Prop:=∀ e ∈ K,∃ v l,e=oI v l
theorem Row.allI {H:Heap}:∀ {K:List OwnE} {S:List Id},AllI K→Row H (K.map (·.1)) (K.map (·.2.1)) (K.map (·.2.2)) S→(∀ i ∈ S,∃ l:List Int,H i=some ⟨1,l.map intC⟩)∧∀ e ∈ K,e.2.1 = .v (.slice none 0 0)∨∃ i ∈ S,∃ g,e.2.1 = .arr i g 0 g
  | [],S,_,h=>by simp only[List.map_nil,Row] at h;subst h;exact⟨by simp,by simp⟩
  | e::K,S,hK,h=>by
    obtain⟨v,l,rfl⟩:=hK e (by simp)
    simp only[List.map_cons,Row] at h
    obtain⟨S1,S2,h1,h2,rfl,_⟩:=h
    obtain⟨q1,q2⟩:=Row.allI (fun e he=>hK e (by simp[he])) h2
    simp only[Tr] at h1
    rcases h1 with ⟨rfl,_,rfl⟩ | ⟨id,els,es,T,rfl,he,hm,hr,_,rfl⟩
    · refine⟨fun i hi=>q1 i (by simpa using hi),fun e he=>?_⟩
      rcases List.mem_cons.1 he with rfl | he
      · exact .inl rfl
      · rcases q2 e he with h | ⟨i,hi,g,h⟩
        · exact .inl h
        · exact .inr ⟨i,by simpa using hi,g,h⟩
    · injection he with _ he
      subst he
      have hel:els=l.map intC∧T=[]:=by
        have:∀ {xs bs:List (List AVal)} {S:List Id},rowsP (Row H [.c]) xs bs S→xs=bs∧S=[]:=by
          intro xs
          induction xs with
          | nil=>intro bs S hr;match bs,hr with
            | [],hr=>exact⟨rfl,hr⟩
            | _::_,hr=>exact hr.elim
          | cons a xs ih=>
            intro bs S hr
            match bs,hr with
            | b::bs,⟨T1,T2,q1,q2,q3,_⟩=>
              obtain⟨e1,e2,_⟩:=q1.fill (by simp)
              obtain⟨e3,e4⟩:=ih q2
              exact⟨by rw[e1,e3],by rw[q3,e2,e4];rfl⟩
            | [],hr=>exact hr.elim
        exact this hr
      obtain⟨rfl,rfl⟩:=hel
      refine⟨fun i hi=>?_,fun e he=>?_⟩
      · simp only[List.mem_append,List.mem_singleton] at hi
        rcases hi with rfl | hi
        · exact⟨l,hm⟩
        · exact q1 i hi
      · rcases List.mem_cons.1 he with rfl | he
        · exact .inr ⟨id,by simp,_,rfl⟩
        · rcases q2 e he with h | ⟨i,hi,g,h⟩
          · exact .inl h
          · exact .inr ⟨i,by simp[hi],g,h⟩
theorem Runs.fzT {v:AVal} {l:List Int} {K:List OwnE} {ids:List Id} (sp:Sep H n (oI v l::K) ids) (hK:AllI K)
    (h:∀ (H':Heap) (φ:AVal→AVal),Sep H' n K ids→(∀ i ∈ ids,H' i=(H i).map fun o=>⟨o.size,o.els.map fun e=>e.map φ⟩)→(∀ a,Imm a→φ a=a)→(∀ e ∈ K,φ e.2.1=e.2.1)→(∀ i ∈ ids,∀ g x y,φ (.ptr i g x y) = .ptr i g x y∧φ (.arr i g x y) = .arr i g x y) →
      (Imm (φ v)∧Sub (φ v) (.list true (l.map intC)))→Runs P f N k (fun t=>φ (ρ t)) H' n Q):Runs P f N k ρ H n Q:=by
  have hform:=Sep.formF sp (by simp)
  rcases hform with ⟨rfl,rfl⟩ | ⟨id,rfl,hm⟩
  · refine h H (fun a=>a) (Sep.dr sp) (fun i _=>?_) (fun _ _=>rfl) (fun _ _=>rfl) (fun _ _ _ _ _=>⟨rfl,rfl⟩) ⟨.v _,Sub.nil true⟩
    cases H i with
    | none=>rfl
    | some o=>simp
  · refine Runs.freeze1 id hm (by intro e he a ha;obtain⟨x,_,rfl⟩:=List.mem_map.1 he;simp only[intC,List.mem_singleton] at ha;subst ha;rfl) ?_
    have hφ:∀ a,Imm a→fz (fun i=>decide (i=id)) H a=a:=fun a ha=>Bnd.fz (n:=0) (fun _ _=>Nat.zero_le _) ha.bnd
    obtain⟨h0,S1,S2,hr1,hr2,hd,hS1,hS2⟩:=Sep.split (K1:=[oI (.arr id l.length 0 l.length) l]) (K2:=K) sp
    have hid:id ∈ S1:=by
      simp only[List.map_cons,List.map_nil,Row,Tr] at hr1
      obtain⟨T1,T2,q1,rfl,rfl,_⟩:=hr1
      rcases q1 with ⟨q,_⟩ | ⟨id',els,es,T,q,_,_,_,_,rfl⟩
      · cases q
      · injection q with q;subst q;simp
    obtain⟨_,hi⟩:=hS1 id hid
    obtain⟨hfl,hvs⟩:=Row.allI hK hr2
    have hfr:∀ i ∈ S2,fzH (fun i=>decide (i=id)) H i=H i:=fun i hi2=>by
      obtain⟨l',hl'⟩:=hfl i hi2
      rw[fzH_ne (show i ≠ id from fun e=>hd id hid (e ▸ hi2)),hl']
      simp only[Option.map_some,Option.some.injEq,Ob.mk.injEq,true_and]
      exact fz_flats fun e he a ha=>by obtain⟨x,_,rfl⟩:=List.mem_map.1 he;simp only[intC,List.mem_singleton] at ha;subst ha;rfl
    refine h _ _ ?_ (fun i hi2=>?_) hφ (fun e he=>?_) (fun i hi2 g x y=>?_) ?_
    · exact⟨h0,S2,Row.frame hr2 hfr,hS2⟩
    · exact fzH_ne (show i ≠ id from fun e=>hi (e ▸ hi2))
    · rcases hvs e he with h1 | ⟨i,hi2,g,h1⟩
      · rw[h1];exact fz_v _
      · rw[h1,fz_arr,if_neg]
        simp only[decide_eq_true_eq]
        exact fun e=>hd id hid (e ▸ hi2)
    · have hne:i ≠ id:=fun e=>hi (e ▸ hi2)
      rw[fz_ptr,fz_arr]
      simp[hne]
    · rw[fz_own hm (by simp)]
      refine⟨.list _ _ fun e he a ha=>?_,Sub.refl _⟩
      obtain⟨x,_,rfl⟩:=List.mem_map.1 he
      simp only[intC,List.mem_singleton] at ha
      subst ha
      exact .v _
theorem Runs.fzS {v:AVal} {l:List Int} {K:List OwnE} {ids:List Id} (sp:Sep H n (oI v l::K) ids) (hK:AllI K)
    (h:∀ (H':Heap) (φ:AVal→AVal),Sep H' n K ids→(∀ i ∈ ids,H' i=(H i).map fun o=>⟨o.size,o.els.map fun e=>e.map φ⟩)→(∀ a,Imm a→φ a=a)→(∀ e ∈ K,φ e.2.1=e.2.1)→(∀ i ∈ ids,∀ g x y,φ (.ptr i g x y) = .ptr i g x y∧φ (.arr i g x y) = .arr i g x y) →
      Sub (φ v) (.list true (l.map intC))→Runs P f N k (fun t=>φ (ρ t)) H' n Q):Runs P f N k ρ H n Q:=
  Runs.fzT sp hK fun H' φ h1 h2 h3 h4 h5 h6=>h H' φ h1 h2 h3 h4 h5 h6.2
theorem Runs.fzAll {ids:List Id}:∀ (es:List (AVal × List Int)) {ρ:Env} {H:Heap},Sep H n (es.map fun e=>oI e.1 e.2) ids →
    (∀ (H':Heap) (φ:AVal→AVal),Sep H' n [] ids→(∀ i ∈ ids,H' i=(H i).map fun o=>⟨o.size,o.els.map fun e=>e.map φ⟩)→(∀ a,Imm a→φ a=a)→(∀ e ∈ es,Sub (φ e.1) (.list true (e.2.map intC)))→(∀ i ∈ ids,∀ g x y,φ (.ptr i g x y) = .ptr i g x y∧φ (.arr i g x y) = .arr i g x y) →
      Runs P f N k (fun t=>φ (ρ t)) H' n Q)→Runs P f N k ρ H n Q
  | [],ρ,H,sp,h=>h H (fun a=>a) sp (fun i _=>by cases H i with
    | none=>rfl
    | some o=>simp) (fun _ _=>rfl) (by simp) (fun _ _ _ _ _=>⟨rfl,rfl⟩)
  | e::es,ρ,H,sp,h=>by
    replace sp:Sep H n (oI e.1 e.2::es.map fun e=>oI e.1 e.2) ids:=by rw[List.map_cons] at sp;exact sp
    refine Runs.fzT sp (fun x hx=>by obtain⟨y,_,rfl⟩:=List.mem_map.1 hx;exact⟨_,_,rfl⟩) fun H1 φ sp1 fr1 hφ hkv hptr hsub=>?_
    refine Runs.fzAll es sp1 fun H2 ψ sp2 fr2 hψ hes hptr2=>?_
    have:=h H2 (fun a=>ψ (φ a)) sp2 (fun i hi=>?_) (fun a ha=>by rw[hφ a ha,hψ a ha]) (fun x hx=>?_) (fun i hi g x y=>by rw[(hptr i hi g x y).1,(hptr i hi g x y).2];exact hptr2 i hi g x y)
    · exact this
    · rw[fr2 i hi,fr1 i hi]
      cases H i with
      | none=>rfl
      | some o=>simp[Function.comp_def]
    · rcases List.mem_cons.1 hx with rfl | hx
      · rw[hψ _ hsub.1];exact hsub.2
      · have h1:=hkv (oI x.1 x.2) (List.mem_map.2 ⟨x,hx,rfl⟩)
        simp only at h1
        rw[h1]
        exact hes x hx
end
end Go.Ab.Vg
/- The abstract machine, part St: rules, guards, systems. -/
namespace Go.Ab
structure Rule where
  redex:Big
  reactum:Big
  copies:List Int
  deriving Inhabited,DecidableEq
structure Guard where
  zone:Int
  neg:Bool
  pattern:Big
  deriving Inhabited,DecidableEq
theorem imm_big (t:Bool) (b:Big):∀ a ∈ b.cells t,Imm a:=by
  intro a ha
  simp only[Big.cells,List.mem_cons,List.not_mem_nil,or_false] at ha
  rcases ha with rfl | rfl | rfl | rfl | rfl | rfl
  · exact .v _
  · exact imm_encN t b.nodes
  · exact imm_encI t b.sites
  · exact .v _
  · exact imm_encS t b.outer
  · exact imm_encW t b.inner
section
variable {H:Heap} {n:Nat}
end
end Go.Ab
/- The abstract machine, part Sc: copying into an array of the call's own (elements of one cell). -/
namespace Go.Ab
section
variable {P:Program} {N:Nat} {Ty:Types} {ρ:Env} {H:Heap} {n:Nat}
variable {d:Option Tmp} {ty:TypeId} {pos:String} {af:Array Edge} {gu:Option (Nat × Bool)}
theorem exec_copy {a:Act} {w w':World} {s x:Operand} {t t':TypeId} {u:Value} (h:(Builtin.copy_ #[t,t'] ty #[a.eval s,a.eval x]).run P w = .ok u w') :
    (execOp a.eval ⟨d,.call ⟨.builtin .copy,#[s,x],#[t,t']⟩,ty,pos,af,gu⟩).run P w = .ok (.value u) w':=by
  simp only[execOp,resolve,invoke,builtin,Sem.run_bind,Sem.run_pure,Result.andThen_ok,List.map_toArray,List.map_cons,List.map_nil,h]
def copied (es new:List (List AVal)) (off len:Nat):List (List AVal):=es.take off++new.take (min new.length len)++es.drop (off+min new.length len)
theorem copied_len {es new:List (List AVal)} {off len:Nat} (h:off+len≤es.length):(copied es new off len).length=es.length:=by simp[copied];omega
theorem OpSem.copy1 (hT:TypesOk P Ty) {t t':TypeId} {dst src:Operand} {j:TI} {id:Id} {g0 off len:Nat} {o:Ob} {els:List (List AVal)} (hk:kd Ty t = .slice j) (hj:j.size=1) (hd:ρ.ev dst = .arr id g0 off len) (hl:live H id g0=some o) (ho:o.size=1)
    (hs:srcOf H (ρ.ev src)=some els) (hes:els.all (·.length == 1)=true) (h1:els.all (fun e=>e.all one1)=true) :
    OpSem P N ⟨d,.call ⟨.builtin .copy,#[dst,src],#[t,t']⟩,ty,pos,af,gu⟩ ρ H n fun v1 H1 n1=>v1=int (min els.length len:Nat)∧H1=H.set id ⟨1,copied o.els els off len⟩∧n1=n:=by
  refine OpSem.of_value fun c a hH hn g r=>?_
  subst hH
  obtain⟨i,e,hi,hde,hje⟩:=kd_slice hk
  obtain⟨hu,_⟩:=hT t i hi
  rw[hde] at hu
  obtain⟨_,info,zv,hinfo,his,_,_,_⟩:=hT e j hje
  have hs1:(P.info? e).map (·.size)=some 1:=by rw[hinfo];simp[his,hj]
  have rs:=r.ev dst
  rw[hd] at rs
  obtain⟨l1,l2⟩:=live_some hl
  have rx:=srcOf_ok g (r.ev src) hs hes
  generalize hsv:a.eval dst=sv at rs
  generalize hxv:a.eval src=xv at rx
  cases rs with
  | arr _ _ _ _ _ hone hn0 hg hp=>
  obtain⟨p1,ad,cap,rfl,hab,hsp,hlc,hoff,hcl⟩:=hp o l1 l2
  obtain⟨ab,ao,asp⟩:=ad
  simp only at hab hsp hoff
  subst hab hsp
  obtain⟨hB,cl,el,hh,hsz,hel⟩:=g.obj id o l1
  rw[ho] at hsz hoff
  have hsame:min els.length len=0→c.H.set id ⟨1,copied o.els els off len⟩=c.H:=fun h0=>by
    funext q
    by_cases hq:q=id
    · subst hq
      rw[Heap.get_set_self,l1]
      have:copied o.els els off len=o.els:=by simp[copied,h0]
      rw[this,← ho]
    · exact Heap.get_set_ne _ _ hq
  by_cases hm:min els.length len=0
  · have hrun:(Builtin.copy_ #[t,t'] ty #[a.eval dst,a.eval src]).run P c.w = .ok (goInt 0) c.w:=by
      rw[hsv,hxv]
      rcases rx with ⟨rfl,rfl⟩ | ⟨a2,cap2,news,rfl,_⟩
      · exact run_copy_nil P c.w t t' ty e _ len cap hu (by rw[hs1];rfl)
      · exact run_copy_none c.w t t' ty e _ _ len cap els.length cap2 hu hs1 hm
    exact⟨_,_,c,exec_copy hrun,⟨by rw[hm];rfl,(hsame hm).symm,hn⟩,.v _,g,Keeps.refl c⟩
  · rcases rx with ⟨rfl,rfl⟩ | ⟨a2,cap2,news,rfl,hnl,hnc,hnr⟩
    · simp at hm
    have hao:ao=off:=by
      rcases hoff with h | h
      · omega
      · omega
    subst hao
    have hog:o.els.length=g0:=l2
    have hml:(news.take (min els.length len)).length=min els.length len:=by rw[List.length_take,hnl];omega
    have hone':∀ v ∈ news.take (min els.length len),v.oneCell'=true:=fun v hv=>allOne h1 hnl hnr v (List.mem_of_mem_take hv)
    have hfit:ao+(news.take (min els.length len)).length≤cl.size:=by rw[hml];omega
    have hrun:(Builtin.copy_ #[t,t'] ty #[a.eval dst,a.eval src]).run P c.w = .ok (goInt (news.take (min els.length len)).length) (c.w.setRow (c.β id) (cl.toList.take ao++news.take (min els.length len)++cl.toList.drop (ao+(news.take (min els.length len)).length)).toArray):=by
      rw[hsv,hxv]
      exact run_copy_row P c.w t t' ty e (c.β id) ao len cap a2 els.length cap2 cl el _ hu hs1 hh hml (fun j v hj=>hnc j v (by
        rw[List.getElem?_take] at hj
        split at hj
        · exact hj
        · cases hj)) hfit hone'
    have hov:(cl.toList.take ao++news.take (min els.length len)++cl.toList.drop (ao+(news.take (min els.length len)).length)).toArray=over cl ao (news.take (min els.length len)):=rfl
    rw[hov] at hrun
    have hup:=upd_same g l1 ⟨1,copied o.els els ao len⟩ (c.w.setRow (c.β id) (over cl ao (news.take (min els.length len)))) cl (over cl ao (news.take (min els.length len))) el el ⟨rfl,rfl,rfl⟩ (by simp[World.setRow]) hh (fun k hk=>setRow_other c.w _ k _ hk) (setRow_heap c.w _ cl _ el _ hh)
      (by rw[over_size hfit];exact Nat.le_refl _) ho (by rw[copied_len (by omega)];exact Nat.le_refl _) ⟨?_,?_⟩
    · exact⟨int (min els.length len:Nat),goInt (news.take (min els.length len)).length,{ c with H:=c.H.set id ⟨1,copied o.els els ao len⟩,w:=c.w.setRow (c.β id) (over cl ao (news.take (min els.length len))) },exec_copy hrun,⟨rfl,rfl,hn⟩,by rw[hml];exact .v _,hup.2,hup.1⟩
    · rw[over_size hfit,copied_len (by omega)];simpa using hsz
    · intro q e' he
      simp only[copied] at he
      have hcell:∀ (x:List AVal),o.els[q]?=some x→¬ (ao≤q∧q<ao+min els.length len)→x.length=1∧∀ (j:Nat) (y:AVal),x[j]?=some y→∃ z,(over cl ao (news.take (min els.length len)))[q * 1+j]?=some z∧Rep c y z:=fun x hx hnot=>by
        obtain⟨h2,h3⟩:=hel q x hx
        rw[ho] at h2 h3
        refine⟨h2,fun j y hy=>?_⟩
        have hj0:j=0:=by have:=(List.getElem?_eq_some_iff.1 hy).1;omega
        subst hj0
        have h4:=h3 0 y hy
        rwa [over_get hfit,hml,if_neg (by omega)]
      by_cases c1:q<ao
      · rw[List.append_assoc,List.getElem?_append_left (by simp;omega),List.getElem?_take,if_pos c1] at he
        exact hcell e' he (by omega)
      · by_cases c2:q<ao+min els.length len
        · rw[List.append_assoc,List.getElem?_append_right (by simp;omega),List.getElem?_append_left (by simp;omega),List.getElem?_take] at he
          have hmin:min ao o.els.length=ao:=by omega
          simp only[List.length_take,hmin] at he
          rw[if_pos (by omega)] at he
          obtain⟨h2,h3⟩:=hnr _ e' he
          refine⟨h2,fun j y hy=>?_⟩
          have hj0:j=0:=by have:=(List.getElem?_eq_some_iff.1 hy).1;omega
          subst hj0
          obtain⟨z,hz,hrep⟩:=h3 0 y hy
          refine⟨z,?_,hrep⟩
          show (over cl ao (news.take (min els.length len)))[q * 1+0]?=some z
          rw[over_get hfit,hml,if_pos (by omega),List.getElem?_take,if_pos (by omega)]
          rw[← hz];congr 1;omega
        · rw[List.getElem?_append_right (by simp;omega)] at he
          have hmin:min ao o.els.length=ao:=by omega
          have hmin2:min (min els.length len) els.length=min els.length len:=by omega
          simp only[List.length_append,List.length_take,hmin,hmin2,List.getElem?_drop] at he
          rw[show ao+min els.length len+(q - (ao+min els.length len))=q by omega] at he
          exact hcell e' he (by omega)
theorem OpSem.copy1' (hT:TypesOk P Ty) {t t':TypeId} {dst src:Operand} {j:TI} {id:Id} {g0 off len m:Nat} {o:Ob} {els es':List (List AVal)} (hk:kd Ty t = .slice j) (hj:j.size=1) (hd:ρ.ev dst = .arr id g0 off len) (hl:live H id g0=some o) (ho:o.size=1)
    (hs:srcOf H (ρ.ev src)=some els) (hes:els.all (·.length == 1)=true) (h1:els.all (fun e=>e.all one1)=true) (hm:min els.length len=m) (he:copied o.els els off len=es') :
    OpSem P N ⟨d,.call ⟨.builtin .copy,#[dst,src],#[t,t']⟩,ty,pos,af,gu⟩ ρ H n (isV (int m) (H.set id ⟨1,es'⟩) n):=by
  subst hm he
  exact OpSem.copy1 hT hk hj hd hl ho hs hes h1
end
end Go.Ab
/- slices.Repeat of one number. -/
namespace Go.Ab.Vg
set_option linter.unusedSimpArgs false
set_option linter.unusedVariables false
open Go.Proofs
theorem rep_vs (c:Ctx) (vs:List Value):Rep c (.tup (vs.map AVal.v)) (.tuple vs.toArray):=.tup _ _ (by simp) fun i a x ha hx=>by
  rw[List.getElem?_map] at ha
  rw[hx] at ha
  simp only[Option.map_some,Option.some.injEq] at ha
  exact ha ▸ .v x
theorem e174:Ent Tryz.prog 174:=Ent.of Tryz.func174 (by kernel_rfl) rfl
theorem e158:Ent Tryz.prog 158:=Ent.of Tryz.func158 (by kernel_rfl) rfl
theorem bitsMul_ok (x y:Nat) (hx:x<18446744073709551616) (hy:y<18446744073709551616):PureC Tryz.prog 174 [.v (.int .u64 x),.v (.int .u64 y)] (fun r=>r = .tup [.v (.int .u64 ((x * y / 18446744073709551616:Nat):Int)),.v (.int .u64 ((x * y % 18446744073709551616:Nat):Int))]):=by
  refine PureC.of_below fun c xs _ r=>?_
  obtain⟨a,b,rfl,ha,hb⟩:=r.two2
  rw[ha.v_inv,hb.v_inv]
  refine (Tryz.bits_Mul x y hx hy c.w).mono ?_
  rintro e w' ⟨he,rfl⟩
  exact⟨_,_,he,rfl,.tup _ (by simp),fun c'=>rep_vs c' [.int .u64 ((x * y / 18446744073709551616:Nat):Int),.int .u64 ((x * y % 18446744073709551616:Nat):Int)],Go.RowKit.Below.refl _ _⟩
theorem copied_rep {v:Int} {N m:Nat} (hm:m≤N):copied ((List.replicate m v++List.replicate (N - m) (0:Int)).map intC) ((List.replicate m v).map intC) m (N - m)=(List.replicate (m+min m (N - m)) v++List.replicate (N - (m+min m (N - m))) (0:Int)).map intC:=by
  simp only[copied,List.length_map,List.length_replicate,← List.map_take,← List.map_drop,← List.map_append]
  congr 1
  refine List.ext_getElem (by simp;omega) fun i h1 h2=>?_
  simp only[List.getElem_append,List.getElem_take,List.getElem_drop,List.getElem_replicate,List.length_append,List.length_take,List.length_replicate]
  repeat' split
  all_goals first | rfl | omega
theorem repeat_ok (v n:Int) (h:0≤n∧n≤1048576):OwnS Tryz.prog 158 [.list false ([v].map intC),int n] (.s [.c]) (fun r=>r = .list true ((List.replicate n.toNat v).map intC)):=by
  obtain⟨N,rfl⟩:∃ N:Nat,n=N:=⟨n.toNat,by omega⟩
  refine OwnS.of Tryz.func158 rfl Tryz.ntmps158 (by simp) fun Q hQ=>?_
  refine Runs.seqE Ty_ok (by decide) fun k' hk'=>?_
  simp
  apply hk'
  refine Runs.seq ?_
  refine Runs.seqE Ty_ok (by decide) fun k' hk'=>?_
  simp
  apply hk'
  refine Runs.ite rfl (fun hc1=>?_) (fun hc1=>?_)
  · simp at hc1;omega
  clear hc1 hk'
  refine Runs.skip ?_
  refine Runs.seqE Ty_ok (by decide) fun k' hk'=>?_
  simp
  have hw:IntKind.u64.wrap (N:Int)=N:=by simp[IntKind.wrap,IntKind.bits,IntKind.signed];omega
  have hw1:IntKind.u64.wrap 1=1:=by simp[IntKind.wrap,IntKind.bits,IntKind.signed]
  have hwi:IntKind.i64.wrap (N:Int)=N:=wrap64 (by omega) (by omega)
  refine RunK.callA Ty_ok (bitsMul_ok 1 N (by omega) (by omega)) e174 (.cons (.v _ _ _) (.cons (.v _ _ _) .nil)) (by decide) (by decide) rfl (by simp[hw,hw1]) ?_
  rintro _ rfl
  have hd:(N:Int) / 18446744073709551616=0:=by omega
  have hm:(N:Int) % 18446744073709551616=N:=by omega
  simp[hd,hm]
  apply hk'
  refine Runs.seq ?_
  refine Runs.seqE Ty_ok (by decide) fun k' hk'=>?_
  simp
  apply hk'
  refine Runs.ite rfl (fun hc1=>?_) (fun hc1=>?_)
  · simp at hc1;omega
  clear hc1 hk' hw1 hd hm
  refine Runs.skip ?_
  refine Runs.seqE Ty_ok (by decide) fun k' hk'=>?_
  simp[hwi,show (N:Int)≤1073741824 by omega]
  apply hk'
  refine Runs.cut (fun ρ H n=>ρ 0 = .list false [intC v]∧ρ 7 = .arr (0,30) N 0 N∧H (0,30)=some ⟨1,(List.replicate N (0:Int)).map intC⟩∧n=1) (by simp[intC]) ?_
  clear hk' hw hwi
  rintro ρ H _ ⟨h0,h7,hH,rfl⟩
  refine Runs.seqE Ty_ok (by decide) fun k' hk'=>?_
  simp[h0,h7]
  refine RunK.op Ty_ok (by decide) (by decide) rfl (OpSem.copy1 (id:=(0,30)) (g0:=N) (off:=0) (len:=N) (o:=⟨1,(List.replicate N (0:Int)).map intC⟩) (els:=[v].map intC) Ty_ok kd_24 rfl (by simp[h7]) (by simp[live,hH]) rfl (by simp[srcOf,h0]) (by simp[intC]) (by simp[intC])) ?_
  rintro _ H' n' ⟨rfl,rfl,rfl⟩
  simp
  apply hk'
  refine Runs.cut (fun ρ H n=>∃ m:Nat,ρ 7 = .arr (0,30) N 0 N∧ρ 8=int m∧m≤N∧(m=0→N=0)∧H (0,30)=some ⟨1,(List.replicate m v++List.replicate (N - m) (0:Int)).map intC⟩∧n=1) ⟨min 1 N,by simp[h7],by simp,by omega,by omega,?_,rfl⟩ ?_
  · have hc:copied (List.replicate N (intC 0)) [intC v] 0 N=(List.replicate (min 1 N) v++List.replicate (N - min 1 N) (0:Int)).map intC:=by
      rcases Nat.eq_zero_or_pos N with h1 | h1
      · subst h1;simp[copied]
      · rw[show min 1 N=1 by omega];simp[copied,show min 1 N=1 by omega]
    simp[hc]
  clear hk' h0 h7 hH
  rintro ρ H _ ⟨m,h7,h8,hm,hm0,hH,rfl⟩
  refine Runs.seq ?_
  refine Runs.block (Runs.loopM (fun q ρ H n=>∃ m:Nat,q=N - m∧ρ 7 = .arr (0,30) N 0 N∧ρ 8=int m∧m≤N∧(m=0→N=0)∧H (0,30)=some ⟨1,(List.replicate m v++List.replicate (N - m) (0:Int)).map intC⟩∧n=1) (N - m) ⟨m,rfl,h7,h8,hm,hm0,hH,rfl⟩ ?_)
  clear h7 h8 hm hm0 hH
  rintro q ρ H _ ⟨m,rfl,h7,h8,hm,hm0,hH,rfl⟩ IH
  refine Runs.seq ?_
  refine Runs.seqE Ty_ok (by decide) fun k' hk'=>?_
  have hlen:((List.replicate m v++List.replicate (N - m) (0:Int)).map intC).length=N:=by simp;omega
  generalize hels:(List.replicate m v++List.replicate (N - m) (0:Int)).map intC=els at hH hlen
  simp[h7,h8,live,hH,hlen]
  apply hk'
  refine Runs.ite rfl (fun hc1=>?_) (fun hc1=>?_)
  · have hc1:m<N:=by simpa using hc1
    refine Runs.skip ?_
    refine Runs.block ?_
    refine Runs.evalDE Ty_ok kindOp_ok draws (by decide) (by kernel_rfl) fun k' hk'=>?_
    simp[h7,h8,live,hH,hlen,hm]
    have hmm:((m:Int)+(min m (N - m):Nat))=((m+min m (N - m):Nat):Int):=by omega
    refine RunDK.op Ty_ok kindOp_ok (v:=int (min m (N - m):Nat)) (H':=H.set (0,30) ⟨1,(List.replicate (m+min m (N - m)) v++List.replicate (N - (m+min m (N - m))) (0:Int)).map intC⟩) (n':=1) rfl (by decide) (fun h=>by cases h) ?_ ?_
    · have e2:=copied_rep (v:=v) (N:=N) (m:=m) hm
      rw[hels] at e2
      exact OpSem.copy1' (id:=(0,30)) (g0:=N) (off:=m) (len:=N - m) (o:=⟨1,els⟩) (els:=(List.replicate m v).map intC) Ty_ok kd_24 rfl (by rw[loc_ev (by simp[Op.operands,Call.operands])];simp) (by simp[live,hH,hlen]) rfl
        (by rw[loc_ev (by simp[Op.operands,Call.operands])];simp[srcOf,live,hH,← hels,List.take_append,show m+(N - m)=N by omega]) (by simp[intC]) (by simp[intC]) (by simp) e2
    have hwr:IntKind.i64.wrap ((m:Int)+(min m (N - m):Nat))=((m+min m (N - m):Nat):Int):=by rw[hmm];exact wrap64 (by omega) (by omega)
    have hz1:0<min m (N - m):=by omega
    have hz2:m+min m (N - m)≤N:=by omega
    generalize hq:m+min m (N - m)=q at hwr hz2
    generalize min m (N - m)=z at hq hwr hz1
    simp[hwr]
    apply hk'
    refine Runs.inBlock ?_
    exact IH (N - q) _ _ _ (by omega) ⟨q,rfl,by simp[h7],by simp,hz2,by omega,by simp,rfl⟩
  · have hc1:¬ m<N:=by simpa using hc1
    refine Runs.exit rfl ?_
    refine Runs.seqE Ty_ok (by decide) fun k' hk'=>?_
    simp[h7]
    apply hk'
    have hmN:m=N:=by omega
    subst hmN
    simp at hels
    exact Runs.ret1 (v:=.arr (0,30) m 0 m) Tryz.func158 Tryz.results158 (by simp) (hQ _ _ _ _ (Sep.ofArr (els:=els) (by simp) hH hlen (by simp) (by simp) (by simp[← hels,intC]) (by simp)) (by simp[← hels]))
end Go.Ab.Vg
