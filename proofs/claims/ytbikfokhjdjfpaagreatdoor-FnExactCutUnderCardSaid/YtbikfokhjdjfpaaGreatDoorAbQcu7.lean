/- Merged texts (7 of 18) of the proof that ends in Cuy: Gj Gk Gl Gx L2k Ma Sc Re Mb Mc Mk. -/
import Derived.Test.YtbikfokhjdjfpaaGreatDoorAbQcu6
import Derived.Laws.CopyRow
import Derived.Laws.IdiomCopy
/- Contract of spec.l2Good. -/
namespace Go.Ab
open Go.Proofs
set_option linter.unusedSimpArgs false
theorem ctl_all {sig:Sig} {b:Big} {k:Nat} (h:∀ i,i<k→okNodeB sig b i=true):CtlOk sig b k:=by
 induction k with
 | zero=>intro i hi;omega
 | succ k ih=>exact ctl_step (h k (by omega)) (ih fun i hi=>h i (by omega))
def pre1 (sig:Sig) (b:Big):Bool:=goodSig sig && within b.roots 0 4 && decide (b.nodes.length≤8) && decide (b.sites.length≤4) && within b.edges 0 8
def pre2 (b:Big):Bool:=goodNames b.outer && goodNames (names b)
theorem goodPre_eq (sig:Sig) (b:Big):goodPre sig b=(pre1 sig b && pre2 b):=by
 simp only[goodPre,pre1,pre2,Bool.and_assoc]
theorem l2Good_ok (sig:Sig) (b:Big) (hs:SmallB sig b):PureC Tryz.prog 39 [encSig false sig,encB false b] (fun r=>r=bool (goodB sig b)):=by
 obtain⟨s1,s2,s3,s4,s5,s6,s7,s8,s9,s10,s11⟩:=id hs
 have hnl:(names b).length≤1048576:=by simpa[names] using s6
 have hnn:∀ s ∈ names b,s.length≤1048576:=by
  intro s hs
  obtain⟨w,hw,rfl⟩:=List.mem_map.1 hs
  exact s8 w hw
 refine PureC.of Tryz.func39 rfl Tryz.ntmps39 (by simp) fun Q hQ=>?_
 have no:goodB sig b=false→∀ H n,Q (bool false) H n:=fun h H n=>hQ _ _ _ _ (.v _ _ _) (by rw[h])
 refine Runs.seqE Ty_ok (by decide) fun k' hk'=>?_
 simp [encSig, encB, Big.cells]   -- R0
 apply hk'
 refine Runs.cut (fun ρ H n=>ρ 0 = .list false (sig.map Control.cells)∧ρ 3 = .ptr (0,3) 1 0 0∧H (0,3)=some ⟨6,[b.cells false]⟩) ⟨by simp,by simp,by simp[Big.cells]⟩ ?_
 clear hk'
 rintro ρ H n ⟨h0,h3,hm3⟩
 have hm3':=hm3
 simp only[Big.cells,encN,encI,encS,encW] at hm3'
 refine Runs.seq ?_
 refine Runs.seqE Ty_ok (by decide) fun k' hk'=>?_
 have fin:∀ ρ:Env,ρ 0 = .list false (sig.map Control.cells)→ρ 3 = .ptr (0,3) 1 0 0→ρ 34=bool (!pre1 sig b)→Runs Tryz.prog 39 98 k' ρ H n Q:=by
  clear h0 h3
  intro ρ h0 h3 h34
  apply hk'
  refine Runs.ite h34 (fun hc1 => ?_) (fun hc1 => ?_)   -- t34
  ·have hb:pre1 sig b=false:=by simpa using hc1
   refine Runs.seqE Ty_ok (by decide) fun k' hk'=>?_
   simp   -- R2
   apply hk'
   exact Runs.ret Tryz.func39 (RetOk.one Tryz.results39) (no (by rw[goodB_eq,goodPre_eq,hb];rfl) _ _)
  ·have hb1:pre1 sig b=true:=by simpa using hc1
   have hb':=hb1
   simp only[pre1,within,Bool.and_eq_true,decide_eq_true_eq] at hb'
   obtain⟨⟨⟨⟨_,hr⟩,hn8⟩,_⟩,hed⟩:=hb'
   refine Runs.skip ?_
   refine Runs.seq ?_
   refine Runs.seqE Ty_ok (by decide) fun k' hk'=>?_
   have fin2:∀ ρ:Env,ρ 0 = .list false (sig.map Control.cells)→ρ 3 = .ptr (0,3) 1 0 0→ρ 50=bool (!pre2 b)→Runs Tryz.prog 39 98 k' ρ H n Q:=by
    clear h0 h3
    intro ρ h0 h3 h50
    apply hk'
    refine Runs.ite h50 (fun hc1 => ?_) (fun hc1 => ?_)   -- t50
    ·have hb:pre2 b=false:=by simpa using hc1
     refine Runs.seqE Ty_ok (by decide) fun k' hk'=>?_
     simp   -- R4
     apply hk'
     exact Runs.ret Tryz.func39 (RetOk.one Tryz.results39) (no (by rw[goodB_eq,goodPre_eq,hb,Bool.and_false];rfl) _ _)
    ·have hb2:pre2 b=true:=by simpa using hc1
     have hpre:goodPre sig b=true:=by rw[goodPre_eq,hb1,hb2];rfl
     refine Runs.skip ?_
     refine Runs.seq ?_
     refine Runs.seqE Ty_ok (by decide) fun k' hk'=>?_
     simp   -- R5
     apply hk'
     refine Runs.block (Runs.loopUp b.nodes.length (fun k ρ' H' n'=>ρ' 0 = .list false (sig.map Control.cells)∧ρ' 3 = .ptr (0,3) 1 0 0∧ρ' 5=int k∧H'=H∧n'=n∧∀ i,i<k→okNodeB sig b i=true) ?_ ?_)
     ·exact⟨by simp[h0],by simp[h3],by simp,rfl,rfl,fun i hi=>by omega⟩
     ·clear h0 h3
      rintro k ρ H' n' hk ⟨h0,h3,h5,rfl,rfl,hall⟩ IH
      refine Runs.seq ?_
      refine Runs.seqE Ty_ok (by decide) fun k' hk'=>?_
      simp [h3, h5, hm3']   -- R6
      apply hk'
      refine Runs.ite rfl (fun hc2 => ?_) (fun hc2 => ?_)   -- t55
      ·have hc2:k<b.nodes.length:=by simpa using hc2
       refine Runs.skip ?_
       refine Runs.seq ?_
       refine Runs.block ?_
       refine Runs.seqE Ty_ok (by decide) fun k' hk'=>?_
       simp [h0, h3, h5, hm3']   -- R8
       refine RunK.callA Ty_ok (l2Node_ok sig b hs k hc2 hr hed (ctl_all hall)) e102 (.cons (ArgOk.encSig false sig) (.cons (ArgOk.encB false b) (.cons (.v _ _ _) .nil))) (by decide) (by decide) rfl (by simp[h0,h5,encSig,encB,Big.cells,encN,encI,encS,encW]) ?_
       rintro _ rfl
       simp
       apply hk'
       refine Runs.ite rfl (fun hc3 => ?_) (fun hc3 => ?_)   -- t62
       ·have hb3:okNodeB sig b k=false:=by simpa using hc3
        refine Runs.seqE Ty_ok (by decide) fun k' hk'=>?_
        simp   -- R9
        apply hk'
        exact Runs.ret Tryz.func39 (RetOk.one Tryz.results39) (no (by rw[goodB_eq,all_range_bad hc2 hb3,Bool.and_false];rfl) _ _)
       ·have hb3:okNodeB sig b k=true:=by simpa using hc3
        refine Runs.skip ?_
        refine Runs.inBlock ?_
        refine Runs.evalE Ty_ok (by decide) fun k' hk'=>?_
        simp [h5, wrap_succ (show k < 4611686018427387904 by omega)]   -- R7
        apply hk'
        refine IH hc2 _ _ _ ⟨by simp[h0],by simp[h3],by simp,rfl,rfl,fun i hi=>?_⟩
        rcases Nat.lt_or_ge i k with h | h
        ·exact hall i h
        ·rw[show i=k by omega];exact hb3
      ·have hc2:¬ k<b.nodes.length:=by simpa using hc2
       have hke:k=b.nodes.length:=by omega
       subst hke
       have hnodes:=all_range_end hall
       have hctl:=ctl_all hall
       refine Runs.exit rfl ?_
       refine Runs.seq ?_
       refine Runs.seqE Ty_ok (by decide) fun k' hk'=>?_
       simp   -- R10
       apply hk'
       clear IH hall h5
       refine Runs.block (Runs.loopUp b.sites.length (fun k ρ' H2 n2=>ρ' 0 = .list false (sig.map Control.cells)∧ρ' 3 = .ptr (0,3) 1 0 0∧ρ' 6=int k∧H2=H'∧n2=n'∧∀ i (hi:i<b.sites.length),i<k→okParent sig b b.sites[i] b.nodes.length=true) ?_ ?_)
       ·exact⟨by simp[h0],by simp[h3],by simp,rfl,rfl,fun i hi h=>by omega⟩
       ·clear h0 h3
        rintro k ρ H2 n2 hk2 ⟨h0,h3,h6,rfl,rfl,hall⟩ IH
        refine Runs.seq ?_
        refine Runs.seqE Ty_ok (by decide) fun k' hk'=>?_
        simp [h3, h6, hm3']   -- R11
        apply hk'
        refine Runs.ite rfl (fun hc4 => ?_) (fun hc4 => ?_)   -- t67
        ·have hc4:k<b.sites.length:=by simpa using hc4
         refine Runs.skip ?_
         refine Runs.seq ?_
         refine Runs.block ?_
         refine Runs.seqD Ty_ok kindOp_ok draws (by decide) (by kernel_rfl) fun k' hk'=>?_
         simp [h0, h3, h6, hm3', hc4, intC]   -- R13
         refine RunDK.callA Ty_ok kindOp_ok (l2Under_ok sig b b.sites[k] b.nodes.length (s11 _ (List.getElem_mem hc4)) hr (Nat.le_refl _) hctl) e103 (.cons (ArgOk.encSig false sig) (.cons (ArgOk.encB false b) (.cons (.v _ _ _) (.cons (.v _ _ _) .nil)))) (by decide) rfl (by simp[h0,encSig,encB,Big.cells,encN,encI,encS,encW,intC]) ?_
         simp
         apply hk'
         refine Runs.ite rfl (fun hc5 => ?_) (fun hc5 => ?_)   -- t81
         ·have hb3:okParent sig b b.sites[k] b.nodes.length=false:=by simpa using hc5
          refine Runs.seqE Ty_ok (by decide) fun k' hk'=>?_
          simp   -- R14
          apply hk'
          exact Runs.ret Tryz.func39 (RetOk.one Tryz.results39) (no (by rw[goodB_eq,all_bad hc4 hb3,Bool.and_false];rfl) _ _)
         ·have hb3:okParent sig b b.sites[k] b.nodes.length=true:=by simpa using hc5
          refine Runs.skip ?_
          refine Runs.inBlock ?_
          refine Runs.evalE Ty_ok (by decide) fun k' hk'=>?_
          simp [h6, wrap_succ (show k < 4611686018427387904 by omega)]   -- R12
          apply hk'
          refine IH hc4 _ _ _ ⟨by simp[h0],by simp[h3],by simp,rfl,rfl,fun i hi hij=>?_⟩
          rcases Nat.lt_or_ge i k with h | h
          ·exact hall i hi h
          ·have:i=k:=by omega
           subst this
           exact hb3
        ·have hc4:¬ k<b.sites.length:=by simpa using hc4
         have hke:k=b.sites.length:=by omega
         subst hke
         have hsites:=all_end (l:=b.sites) (p:=fun p=>okParent sig b p b.nodes.length) fun i hi=>hall i hi hi
         refine Runs.exit rfl ?_
         refine Runs.seq ?_
         refine Runs.seqE Ty_ok (by decide) fun k' hk'=>?_
         simp   -- R15
         apply hk'
         clear IH hall h6
         refine Runs.block (Runs.loopUp b.inner.length (fun k ρ' H3 n3=>ρ' 3 = .ptr (0,3) 1 0 0∧ρ' 7=int k∧H3=H2∧n3=n2∧∀ i (hi:i<b.inner.length),i<k→okLink b b.inner[i].link=true) ?_ ?_)
         ·exact⟨by simp[h3],by simp,rfl,rfl,fun i hi h=>by omega⟩
         ·clear h0 h3
          rintro k ρ H3 n3 hk3 ⟨h3,h7,rfl,rfl,hall⟩ IH
          refine Runs.seq ?_
          refine Runs.seqE Ty_ok (by decide) fun k' hk'=>?_
          simp [h3, h7, hm3']   -- R16
          apply hk'
          refine Runs.ite rfl (fun hc6 => ?_) (fun hc6 => ?_)   -- t86
          ·have hc6:k<b.inner.length:=by simpa using hc6
           refine Runs.skip ?_
           refine Runs.seq ?_
           refine Runs.block ?_
           refine Runs.seqD Ty_ok kindOp_ok draws (by decide) (by kernel_rfl) fun k' hk'=>?_
           simp [h3, h7, hm3', hc6, Wire.cells]   -- R18
           refine RunDK.callA Ty_ok kindOp_ok (l2Link_ok b b.inner[k].link hed s5) e104 (.cons (ArgOk.encB false b) (.cons (.v _ _ _) .nil)) (by decide) rfl (by simp[encB,Big.cells,encN,encI,encS,encW,Wire.cells]) ?_
           simp
           apply hk'
           refine Runs.ite rfl (fun hc7 => ?_) (fun hc7 => ?_)   -- t97
           ·have hb3:okLink b b.inner[k].link=false:=by simpa using hc7
            refine Runs.seqE Ty_ok (by decide) fun k' hk'=>?_
            simp   -- R19
            apply hk'
            exact Runs.ret Tryz.func39 (RetOk.one Tryz.results39) (no (by rw[goodB_eq,all_bad (l:=b.inner) (p:=fun w=>okLink b w.link) hc6 hb3,Bool.and_false]) _ _)
           ·have hb3:okLink b b.inner[k].link=true:=by simpa using hc7
            refine Runs.skip ?_
            refine Runs.inBlock ?_
            refine Runs.evalE Ty_ok (by decide) fun k' hk'=>?_
            simp [h7, wrap_succ (show k < 4611686018427387904 by omega)]   -- R17
            apply hk'
            refine IH hc6 _ _ _ ⟨by simp[h3],by simp,rfl,rfl,fun i hi hij=>?_⟩
            rcases Nat.lt_or_ge i k with h | h
            ·exact hall i hi h
            ·have:i=k:=by omega
             subst this
             exact hb3
          ·have hc6:¬ k<b.inner.length:=by simpa using hc6
           have hke:k=b.inner.length:=by omega
           subst hke
           have hinner:=all_end (l:=b.inner) (p:=fun w=>okLink b w.link) fun i hi=>hall i hi hi
           refine Runs.exit rfl ?_
           refine Runs.seqE Ty_ok (by decide) fun k' hk'=>?_
           simp   -- R20
           apply hk'
           exact Runs.ret Tryz.func39 (RetOk.one Tryz.results39) (hQ _ _ _ _ (.v _ _ _) (by rw[goodB_eq,hpre,hnodes,hsites,hinner];rfl))
   simp [h3, hm3']   -- R3
   refine RunK.callA Ty_ok (l2Names_ok b.outer s5 s7) e100 (.cons (ArgOk.encS false b.outer) .nil) (by decide) (by decide) rfl (by simp[encS]) ?_
   rintro _ rfl
   cases p6:goodNames b.outer
   ·simp[guardOf]
    exact fin2 _ (by simp[h0]) (by simp[h3]) (by simp only[pre2,p6];simp)
   by_cases p7:(16:Int)<b.inner.length
   ·simp[h3,hm3',p7,guardOf]
    refine fin2 _ (by simp[h0]) (by simp[h3]) ?_
    have:goodNames (names b)=false:=by
     rw[goodNames_eq,show decide ((names b).length≤16)=false by simp[names];omega,Bool.false_and]
    simp only[pre2,this]
    simp
   simp[h3,hm3',p7,guardOf]
   refine RunK.callA Ty_ok (l2Inner_ok b s6) e101 (.cons (ArgOk.encB false b) .nil) (by decide) (by decide) rfl (by simp[encB,Big.cells,encN,encI,encS,encW]) ?_
   rintro _ rfl
   simp
   refine RunK.callA Ty_ok (l2Names_ok (names b) hnl hnn) e100 (.cons (ArgOk.encS true (names b)) .nil) (by decide) (by decide) rfl (by simp[encS]) ?_
   rintro _ rfl
   simp
   exact fin2 _ (by simp[h0]) (by simp[h3]) (by simp only[pre2,p6];simp)
 simp [h0]   -- R1
 refine RunK.callA Ty_ok (l2Sig_ok sig s1 s2) e99 (.cons (ArgOk.encSig false sig) .nil) (by decide) (by decide) rfl (by simp[encSig,h0]) ?_
 rintro _ rfl
 cases p1:goodSig sig
 ·simp[guardOf]
  exact fin _ (by simp[h0]) (by simp[h3]) (by simp only[pre1,p1];simp)
 simp[h3,hm3',guardOf]
 refine RunK.callA Ty_ok (l1In_ok b.roots 0 4) e93 (.cons (.v _ _ _) (.cons (.v _ _ _) (.cons (.v _ _ _) .nil))) (by decide) (by decide) rfl (by simp) ?_
 rintro _ rfl
 cases p2:within b.roots 0 4
 ·simp[guardOf]
  exact fin _ (by simp[h0]) (by simp[h3]) (by simp only[pre1,p2];simp)
 by_cases p3:(8:Int)<b.nodes.length
 ·simp[h3,hm3',p3,guardOf]
  exact fin _ (by simp[h0]) (by simp[h3]) (by simp only[pre1,show ¬ b.nodes.length≤8 by omega];simp)
 by_cases p4:(4:Int)<b.sites.length
 ·simp[h3,hm3',p3,p4,guardOf]
  exact fin _ (by simp[h0]) (by simp[h3]) (by simp only[pre1,show ¬ b.sites.length≤4 by omega];simp)
 simp[h3,hm3',p3,p4,guardOf]
 refine RunK.callA Ty_ok (l1In_ok b.edges 0 8) e93 (.cons (.v _ _ _) (.cons (.v _ _ _) (.cons (.v _ _ _) .nil))) (by decide) (by decide) rfl (by simp) ?_
 rintro _ rfl
 simp
 exact fin _ (by simp[h0]) (by simp[h3]) (by simp only[pre1,p1,p2,show b.nodes.length≤8 by omega,show b.sites.length≤4 by omega];simp)
end Go.Ab
/- Contracts of impl.ancestorsOf, spec.l2Above, slices.Index, slices.Contains and spec.l1Has. -/
namespace Go.Ab
open Go.Proofs
set_option linter.unusedSimpArgs false
theorem e48:Ent Tryz.prog 48:=Ent.of Tryz.func48 (by kernel_rfl) rfl
theorem e145:Ent Tryz.prog 145:=Ent.of Tryz.func145 (by kernel_rfl) rfl
theorem e53:Ent Tryz.prog 53:=Ent.of Tryz.func53 (by kernel_rfl) rfl
theorem e47:Ent Tryz.prog 47:=Ent.of Tryz.func47 (by kernel_rfl) rfl
theorem e118:Ent Tryz.prog 118:=Ent.of Tryz.func118 (by kernel_rfl) rfl
def parentB (b:Big) (i:Nat):Int:=(b.nodes.getD i default).parent
def aboveF (b:Big):Nat→Int→List Int
 | 0,_=>[]
 | d+1,node=>if node<0 then [] else parentB b node.toNat::aboveF b d (parentB b node.toNat)
def above (b:Big) (node:Int):List Int:=aboveF b (b.nodes.length+1) node
def Down (b:Big):Prop:=b.nodes.length≤8∧∀ i,i<b.nodes.length→parentB b i<i
theorem aboveF_len (b:Big):∀ d node,(aboveF b d node).length≤d
 | 0,_=>by simp[aboveF]
 | d+1,node=>by
  rw[aboveF]
  split
  ·simp
  ·have:=aboveF_len b d (parentB b node.toNat)
   simp
   omega
theorem ancestorsOf_ok {b:Big} (hd:Down b) (node:Int) (hn:node<b.nodes.length):OwnC Tryz.prog 48 [encB false b,int node] 1 (fun r=>r=encI true (above b node)):=by
 obtain⟨hd8,hd⟩:=hd
 refine OwnC.of Tryz.func48 rfl Tryz.ntmps48 (by simp) fun Q hQ=>?_
 refine Runs.seqE Ty_ok (by decide) fun k' hk'=>?_
 simp [encB, Big.cells]   -- R0
 apply hk'
 refine Runs.seqE Ty_ok (by decide) fun k' hk'=>?_
 simp   -- R1
 apply hk'
 refine Runs.seq ?_
 refine Runs.block (Runs.loopM (fun m ρ H n=>ρ 2 = .ptr (0,2) 1 0 0∧H (0,2)=some ⟨6,[b.cells false]⟩∧∃ (cur:Int) (acc:List Int),ρ 1=int cur∧cur+1≤m∧cur<b.nodes.length∧acc++aboveF b m cur=above b node∧acc.length+m≤b.nodes.length+1 ∧
  ρ 5 = .arr (1,6) acc.length 0 acc.length∧H (1,6)=some ⟨1,acc.map intC⟩) (b.nodes.length+1) ?_ ?_)
 ·exact⟨by simp,by simp[Big.cells],node,[],by simp,by omega,hn,by simp[above],by simp,by simp,by simp⟩
 ·rintro m ρ H n ⟨h2,hm2,cur,acc,h1,hcm,hcl,htot,hal,h5,hm6⟩ IH
  have hm2':=hm2
  simp only[Big.cells,encN] at hm2'
  refine Runs.seq ?_
  refine Runs.seqE Ty_ok (by decide) fun k' hk'=>?_
  simp [h1]   -- R2
  apply hk'
  refine Runs.ite rfl (fun hc1 => ?_) (fun hc1 => ?_)   -- t8
  ·have hc1:0≤cur:=by simpa using hc1
   obtain⟨q,rfl⟩:∃ q:Nat,cur=q:=⟨cur.toNat,by omega⟩
   have hq:q<b.nodes.length:=by omega
   obtain⟨m',rfl⟩:∃ m',m=m'+1:=⟨m - 1,by omega⟩
   have hpd:=hd q hq
   have hpq:parentB b q=b.nodes[q].parent:=by simp[parentB,hq]
   refine Runs.skip ?_
   refine Runs.block ?_
   refine Runs.seqE Ty_ok (by decide) fun k' hk'=>?_
   simp [h1, h2, hm2', hq, GNode.cells]   -- R3
   apply hk'
   refine Runs.evalE Ty_ok (by decide) fun k' hk'=>?_
   have hlen:(acc.map intC).length=acc.length:=by simp
   generalize hels:acc.map intC=els at hm6 hlen
   simp [h5, hm6, hlen, live, show acc.length ≤ 1073741823 by omega]   -- R4
   apply hk'
   refine Runs.inBlock ?_
   refine IH m' _ _ _ (by omega) ⟨by simp[h2],by simp[hm2],b.nodes[q].parent,acc++[b.nodes[q].parent],by simp,by omega,by omega,?_,by simp;omega,by simp,by simp[← hels,intC]⟩
   rw[← htot,aboveF,if_neg (by omega),Int.toNat_natCast,hpq]
   simp
  ·have hc1:cur<0:=by
    have:¬ 0≤cur:=by simpa using hc1
    omega
   have hacc:acc=above b node:=by
    rw[← htot]
    cases m with
    | zero=>simp[aboveF]
    | succ m=>rw[aboveF,if_pos hc1];simp
   refine Runs.exit rfl ?_
   refine Runs.seqE Ty_ok (by decide) fun k' hk'=>?_
   simp [h5]   -- R5
   apply hk'
   rw[hacc] at hm6
   refine Runs.ret Tryz.func48 (RetOk.one Tryz.results48) (hQ _ _ _ _ [(1,6)] ?_ rfl)
   simp only[Env.put]
   simp[hacc,encI]
   exact Own.arrF hm6 (by simp) (ints_flat _)
theorem l2Above_ok {b:Big} (hd:Down b) (node:Int) (hn:node<b.nodes.length):OwnC Tryz.prog 145 [encB false b,int node] 1 (fun r=>r=encI true (above b node)):=by
 obtain⟨hd8,hd⟩:=hd
 refine OwnC.of Tryz.func145 rfl Tryz.ntmps145 (by simp) fun Q hQ=>?_
 refine Runs.seqE Ty_ok (by decide) fun k' hk'=>?_
 simp [encB, Big.cells]   -- R0
 apply hk'
 refine Runs.seqE Ty_ok (by decide) fun k' hk'=>?_
 simp   -- R1
 apply hk'
 refine Runs.seq ?_
 refine Runs.block (Runs.loopM (fun m ρ H n=>ρ 2 = .ptr (0,2) 1 0 0∧H (0,2)=some ⟨6,[b.cells false]⟩∧∃ (cur:Int) (acc:List Int),ρ 1=int cur∧cur+1≤m∧cur<b.nodes.length∧acc++aboveF b m cur=above b node∧acc.length+m≤b.nodes.length+1 ∧
  ρ 5 = .arr (1,6) acc.length 0 acc.length∧H (1,6)=some ⟨1,acc.map intC⟩) (b.nodes.length+1) ?_ ?_)
 ·exact⟨by simp,by simp[Big.cells],node,[],by simp,by omega,hn,by simp[above],by simp,by simp,by simp⟩
 ·rintro m ρ H n ⟨h2,hm2,cur,acc,h1,hcm,hcl,htot,hal,h5,hm6⟩ IH
  have hm2':=hm2
  simp only[Big.cells,encN] at hm2'
  refine Runs.seq ?_
  refine Runs.seqE Ty_ok (by decide) fun k' hk'=>?_
  simp [h1]   -- R2
  apply hk'
  refine Runs.ite rfl (fun hc1 => ?_) (fun hc1 => ?_)   -- t8
  ·have hc1:0≤cur:=by simpa using hc1
   obtain⟨q,rfl⟩:∃ q:Nat,cur=q:=⟨cur.toNat,by omega⟩
   have hq:q<b.nodes.length:=by omega
   obtain⟨m',rfl⟩:∃ m',m=m'+1:=⟨m - 1,by omega⟩
   have hpd:=hd q hq
   have hpq:parentB b q=b.nodes[q].parent:=by simp[parentB,hq]
   refine Runs.skip ?_
   refine Runs.block ?_
   refine Runs.seqE Ty_ok (by decide) fun k' hk'=>?_
   simp [h1, h2, hm2', hq, GNode.cells]   -- R3
   apply hk'
   refine Runs.evalE Ty_ok (by decide) fun k' hk'=>?_
   have hlen:(acc.map intC).length=acc.length:=by simp
   generalize hels:acc.map intC=els at hm6 hlen
   simp [h5, hm6, hlen, live, show acc.length ≤ 1073741823 by omega]   -- R4
   apply hk'
   refine Runs.inBlock ?_
   refine IH m' _ _ _ (by omega) ⟨by simp[h2],by simp[hm2],b.nodes[q].parent,acc++[b.nodes[q].parent],by simp,by omega,by omega,?_,by simp;omega,by simp,by simp[← hels,intC]⟩
   rw[← htot,aboveF,if_neg (by omega),Int.toNat_natCast,hpq]
   simp
  ·have hc1:cur<0:=by
    have:¬ 0≤cur:=by simpa using hc1
    omega
   have hacc:acc=above b node:=by
    rw[← htot]
    cases m with
    | zero=>simp[aboveF]
    | succ m=>rw[aboveF,if_pos hc1];simp
   refine Runs.exit rfl ?_
   refine Runs.seqE Ty_ok (by decide) fun k' hk'=>?_
   simp [h5]   -- R5
   apply hk'
   rw[hacc] at hm6
   refine Runs.ret Tryz.func145 (RetOk.one Tryz.results145) (hQ _ _ _ _ [(1,6)] ?_ rfl)
   simp only[Env.put]
   simp[hacc,encI]
   exact Own.arrF hm6 (by simp) (ints_flat _)
theorem index_ok (t:Bool) (l:List Int) (x:Int) (hl:l.length≤1048576):PureC Tryz.prog 53 [encI t l,int x] (fun r=>r=int (idxF l (fun y=>x == y))):=by
 refine PureC.of Tryz.func53 rfl Tryz.ntmps53 (by simp) fun Q hQ=>?_
 refine Runs.seqE Ty_ok (by decide) fun k' hk'=>?_
 simp [encI]   -- R0
 apply hk'
 refine Runs.seq ?_
 refine Runs.seqE Ty_ok (by decide) fun k' hk'=>?_
 simp   -- R1
 apply hk'
 refine Runs.block (Runs.loopUp l.length (fun k ρ H' n'=>ρ 0 = .list t (l.map intC)∧ρ 1=int x∧ρ 7=int l.length∧ρ 8=int k∧∀ i (h:i<l.length),i<k→(x == l[i])=false) ?_ ?_)
 ·simp
 ·rintro k ρ H' n' hk ⟨h0,h1,h7,h8,hno⟩ IH
  refine Runs.seqE Ty_ok (by decide) fun k' hk'=>?_
  simp [h7, h8]   -- R2
  apply hk'
  refine Runs.seq ?_
  refine Runs.ite rfl (fun hc1 => ?_) (fun hc1 => ?_)   -- t9
  ·have hc1:k<l.length:=by simpa using hc1
   refine Runs.skip ?_
   refine Runs.seq ?_
   refine Runs.block ?_
   refine Runs.seqE Ty_ok (by decide) fun k' hk'=>?_
   simp [h8]   -- R3
   apply hk'
   refine Runs.seqE Ty_ok (by decide) fun k' hk'=>?_
   simp [h0, h1, hc1, intC]   -- R4
   apply hk'
   refine Runs.ite rfl (fun hc2 => ?_) (fun hc2 => ?_)   -- t16
   ·have hc2:(x == l[k])=true:=by simpa using hc2
    refine Runs.seqE Ty_ok (by decide) fun k' hk'=>?_
    simp   -- R5
    apply hk'
    refine Runs.ret Tryz.func53 (RetOk.one Tryz.results53) (hQ _ _ _ _ (.v _ _ _) ?_)
    simp[idxF_at (p:=fun y=>x == y) hc1 hc2 hno]
   ·have hc2:(x == l[k])=false:=by simpa using hc2
    refine Runs.skip ?_
    refine Runs.inBlock ?_
    refine Runs.evalE Ty_ok (by decide) fun k' hk'=>?_
    simp [h8, wrap_succ (show k < 4611686018427387904 by omega)]   -- R6
    apply hk'
    refine IH hc1 _ _ _ ⟨by simp[h0,intC],by simp[h1],by simp[h7],by simp,fun i h hi=>?_⟩
    rcases Nat.lt_or_ge i k with hik | hik
    ·exact hno i h hik
    ·have:i=k:=by omega
     subst this
     exact hc2
  ·have hc1:¬ k<l.length:=by simpa using hc1
   have hke:k=l.length:=by omega
   subst hke
   refine Runs.exit rfl ?_
   refine Runs.seqE Ty_ok (by decide) fun k' hk'=>?_
   simp   -- R7
   apply hk'
   refine Runs.ret Tryz.func53 (RetOk.one Tryz.results53) (hQ _ _ _ _ (.v _ _ _) ?_)
   simp[idxF_no (p:=fun y=>x == y) fun i h=>hno i h h]
theorem contains_ok (l:List Int) (x:Int) (hl:l.length≤1048576):PureC Tryz.prog 47 [encI false l,int x] (fun r=>r=bool (l.any (fun y=>x == y))):=by
 refine PureC.of Tryz.func47 rfl Tryz.ntmps47 (by simp) fun Q hQ=>?_
 refine Runs.seqE Ty_ok (by decide) fun k' hk'=>?_
 simp [encI]   -- R0
 apply hk'
 refine Runs.seqE Ty_ok (by decide) fun k' hk'=>?_
 simp   -- R1
 refine RunK.callA Ty_ok (index_ok false l x hl) e53 (.cons (ArgOk.encI false l) (.cons (.v _ _ _) .nil)) (by decide) (by decide) rfl (by simp[encI]) ?_
 rintro _ rfl
 simp
 apply hk'
 refine Runs.ret Tryz.func47 (RetOk.one Tryz.results47) (hQ _ _ _ _ (.v _ _ _) ?_)
 have:=idxF_any l (fun y=>x == y)
 simp only[Env.put]
 simp[this]
theorem l1Has_ok (l:List Int) (x:Int) (hl:l.length≤1048576):PureC Tryz.prog 118 [encI false l,int x] (fun r=>r=bool (l.any (fun y=>x == y))):=by
 refine PureC.of Tryz.func118 rfl Tryz.ntmps118 (by simp) fun Q hQ=>?_
 refine Runs.seqE Ty_ok (by decide) fun k' hk'=>?_
 simp [encI]   -- R0
 apply hk'
 refine Runs.seq ?_
 refine Runs.seqE Ty_ok (by decide) fun k' hk'=>?_
 simp   -- R1
 apply hk'
 refine Runs.block (Runs.loopUp l.length (fun k ρ H' n'=>ρ 0 = .list false (l.map intC)∧ρ 1=int x∧ρ 5=int k∧∀ i (h:i<l.length),i<k→¬ l[i]=x) ?_ ?_)
 ·simp
 ·rintro k ρ H' n' hk ⟨h0,h1,h5,hno⟩ IH
  refine Runs.seq ?_
  refine Runs.seqE Ty_ok (by decide) fun k' hk'=>?_
  simp [h0, h5]   -- R2
  apply hk'
  refine Runs.ite rfl (fun hc1 => ?_) (fun hc1 => ?_)   -- t9
  ·have hc1:k<l.length:=by simpa using hc1
   refine Runs.skip ?_
   refine Runs.seq ?_
   refine Runs.block ?_
   refine Runs.seqE Ty_ok (by decide) fun k' hk'=>?_
   simp [h0, h1, h5, hc1, intC]   -- R4
   apply hk'
   refine Runs.ite rfl (fun hc2 => ?_) (fun hc2 => ?_)   -- t17
   ·have hc2:l[k]=x:=by simpa using hc2
    refine Runs.seqE Ty_ok (by decide) fun k' hk'=>?_
    simp   -- R5
    apply hk'
    refine Runs.ret Tryz.func118 (RetOk.one Tryz.results118) (hQ _ _ _ _ (.v _ _ _) ?_)
    have:l.any (fun y=>x == y)=true:=by
     rw[List.any_eq_true]
     exact⟨l[k],List.getElem_mem hc1,by simp[hc2]⟩
    rw[this]
    try rfl
   ·have hc2:¬ l[k]=x:=by simpa using hc2
    refine Runs.skip ?_
    refine Runs.inBlock ?_
    refine Runs.evalE Ty_ok (by decide) fun k' hk'=>?_
    simp [h5, wrap_succ (show k < 4611686018427387904 by omega)]   -- R3
    apply hk'
    refine IH hc1 _ _ _ ⟨by simp[h0,intC],by simp[h1],by simp,fun i h hi=>?_⟩
    rcases Nat.lt_or_ge i k with hik | hik
    ·exact hno i h hik
    ·have:i=k:=by omega
     subst this
     exact hc2
  ·have hc1:¬ k<l.length:=by simpa using hc1
   have hke:k=l.length:=by omega
   subst hke
   refine Runs.exit rfl ?_
   refine Runs.seqE Ty_ok (by decide) fun k' hk'=>?_
   simp   -- R6
   apply hk'
   refine Runs.ret Tryz.func118 (RetOk.one Tryz.results118) (hQ _ _ _ _ (.v _ _ _) ?_)
   have:l.any (fun y=>x == y)=false:=by
    rw[List.any_eq_false]
    intro y hy
    obtain⟨i,hi,rfl⟩:=List.getElem_of_mem hy
    have:=hno i hi hi
    simpa using fun h=>this h.symm
   rw[this]
   try rfl
end Go.Ab
/- Contracts of impl.CommonPlace and spec.CommonPlace. -/
namespace Go.Ab
open Go.Proofs
set_option linter.unusedSimpArgs false
end Go.Ab
/- What a valid signature and a valid bigraph are, by names. -/
namespace Go.Ab.Vg
set_option linter.unusedSimpArgs false
set_option linter.unusedVariables false
structure ValidS (sig:Sig):Prop where
 len:1≤sig.length∧sig.length≤6
 ports:∀ c ∈ sig,0≤c.ports∧c.ports≤3
 kind:∀ c ∈ sig,0≤c.kind∧c.kind≤2
structure ValidB (sig:Sig) (b:Big):Prop where
 sg:ValidS sig
 roots:0≤b.roots∧b.roots≤4
 len:b.nodes.length≤8
 slen:b.sites.length≤4
 edges:0≤b.edges∧b.edges≤8
 outer:b.outer.length≤16
 inner:b.inner.length≤16
 ctl:∀ i (h:i<b.nodes.length),0≤b.nodes[i].control∧b.nodes[i].control<sig.length
 par:∀ i (h:i<b.nodes.length),-b.roots≤b.nodes[i].parent∧b.nodes[i].parent<i
 ports:∀ i (h:i<b.nodes.length),(b.nodes[i].links.length:Int)=(sig.getD b.nodes[i].control.toNat default).ports
 links:∀ i (h:i<b.nodes.length),∀ l ∈ b.nodes[i].links,0≤l∧l<b.edges+b.outer.length
 sites:∀ p ∈ b.sites,-b.roots≤p∧p<b.nodes.length
 wires:∀ w ∈ b.inner,0≤w.link∧w.link<b.edges+b.outer.length
theorem goodSig_valid {sig:Sig} (h:goodSig sig=true):ValidS sig:=by
 simp only[goodSig,within,okControl,Bool.and_eq_true,decide_eq_true_eq,List.all_eq_true,List.mem_range] at h
 obtain⟨h1,h2⟩:=h
 refine⟨by omega,fun c hc=>?_,fun c hc=>?_⟩<;>obtain⟨i,hi,rfl⟩:=List.getElem_of_mem hc<;>have:=h2 i hi<;>simp only[List.getD_eq_getElem?_getD,List.getElem?_eq_getElem hi,Option.getD_some] at this
 ·exact this.1.1.2
 ·exact this.1.2
theorem goodB_valid {sig:Sig} {b:Big} (h:goodB sig b=true):ValidB sig b:=by
 simp only[goodB,Bool.and_eq_true,decide_eq_true_eq,List.all_eq_true,List.mem_range] at h
 obtain⟨⟨⟨⟨⟨⟨⟨⟨⟨hs,hr⟩,hn⟩,hst⟩,he⟩,ho⟩,hi⟩,hno⟩,hsi⟩,hw⟩:=h
 have hV:=goodSig_valid hs
 simp only[within,Bool.and_eq_true,decide_eq_true_eq] at hr he
 simp only[goodNames,Bool.and_eq_true,decide_eq_true_eq,List.length_map] at ho hi
 have hno2:∀ i (h:i<b.nodes.length),(0≤b.nodes[i].control∧b.nodes[i].control≤(sig.length:Int) - 1)∧okParent sig b b.nodes[i].parent i=true∧(b.nodes[i].links.length:Int)=(sig.getD b.nodes[i].control.toNat default).ports∧∀ l ∈ b.nodes[i].links,okLink b l=true:=fun i h=>by
  have:=hno i h
  simp only[okNodeB,within,Bool.and_eq_true,decide_eq_true_eq,List.all_eq_true,List.getD_eq_getElem?_getD,List.getElem?_eq_getElem h,Option.getD_some] at this
  exact⟨this.1.1.1,this.1.1.2,by simpa using this.1.2,this.2⟩
 have hp:∀ p (m:Nat),okParent sig b p m=true → -b.roots≤p∧p<m:=fun p m h=>by
  simp only[okParent] at h
  split at h
  ·simp only[decide_eq_true_eq] at h;omega
  ·simp only[Bool.and_eq_true,decide_eq_true_eq] at h;omega
 have hl:∀ l,okLink b l=true→0≤l∧l<b.edges+b.outer.length:=fun l h=>by
  simp only[okLink,within,Bool.and_eq_true,decide_eq_true_eq] at h;omega
 exact⟨hV,hr,hn,hst,he,ho.1,hi.1,fun i h=>by have:=(hno2 i h).1;omega,fun i h=>hp _ _ (hno2 i h).2.1,fun i h=>(hno2 i h).2.2.1,fun i h l hm=>hl l ((hno2 i h).2.2.2 l hm),fun p hm=>hp _ _ (hsi p hm),fun w hm=>hl _ (hw w hm)⟩
theorem at_mem {α:Type} [Inhabited α] {l:List α} {i:Int} (h:0≤i∧i<l.length):at' l i ∈ l:=by
 obtain⟨h1,h2⟩:=at_get h rfl
 exact h2 ▸ List.getElem_mem h1
theorem at_eq {α:Type} [Inhabited α] {l:List α} {i:Int} (h:0≤i∧i<l.length):∃ h':i.toNat<l.length,at' l i=l[i.toNat]:=by
 obtain⟨h1,h2⟩:=at_get h rfl
 exact⟨h1,h2.symm⟩
theorem ValidB.ctlAt {sig:Sig} {b:Big} (h:ValidB sig b) {i:Int} (hi:0≤i∧i<b.nodes.length):0≤(at' b.nodes i).control∧(at' b.nodes i).control<sig.length:=by
 obtain⟨h1,h2⟩:=at_eq hi;rw[h2];exact h.ctl _ h1
theorem ValidB.parAt {sig:Sig} {b:Big} (h:ValidB sig b) {i:Int} (hi:0≤i∧i<b.nodes.length) : -b.roots≤(at' b.nodes i).parent∧(at' b.nodes i).parent<i:=by
 obtain⟨h1,h2⟩:=at_eq hi;rw[h2];have:=h.par _ h1;omega
theorem ValidB.portsAt {sig:Sig} {b:Big} (h:ValidB sig b) {i:Int} (hi:0≤i∧i<b.nodes.length):((at' b.nodes i).links.length:Int)=(at' sig (at' b.nodes i).control).ports:=by
 obtain⟨h1,h2⟩:=at_eq hi
 have h3:=h.ports _ h1
 have h4:=h.ctl _ h1
 rw[h2,h3];simp[at']
theorem ValidB.linksAt {sig:Sig} {b:Big} (h:ValidB sig b) {i:Int} (hi:0≤i∧i<b.nodes.length):∀ l ∈ (at' b.nodes i).links,0≤l∧l<b.edges+b.outer.length:=by
 obtain⟨h1,h2⟩:=at_eq hi;rw[h2];exact h.links _ h1
theorem ValidB.portsLe {sig:Sig} {b:Big} (h:ValidB sig b) {i:Int} (hi:0≤i∧i<b.nodes.length):(at' b.nodes i).links.length≤3:=by
 have h1:=h.portsAt hi
 have h2:=h.ctlAt hi
 have h3:=h.sg.ports _ (at_mem (l:=sig) h2)
 omega
end Go.Ab.Vg
/- Children of a place: pure conditions of (impl.Bigraph).childrenOf, spec.l2Kids and spec.l2Holes. -/
namespace Go.Ab.Vg
set_option linter.unusedSimpArgs false
set_option linter.unusedVariables false
def kidsB (b:Big) (p:Int):List Int:=idxs b.nodes (fun x=>decide (x.parent=p)) b.nodes.length
def holesB (b:Big) (p:Int):List Int:=idxs b.sites (fun x=>decide (x=p)) b.sites.length
end Go.Ab.Vg
/- Links' points, redexes: pure conditions of the functions of program and reference. -/
namespace Go.Ab.Vg
set_option linter.unusedSimpArgs false
set_option linter.unusedVariables false
def rowP (b:Big) (l:Int) (i k:Nat):List (Int × Int):=(idxs (at' b.nodes (i:Int)).links (fun x=>decide (x=l)) k).map fun z=>((i:Int),z)
def portsTo (b:Big) (l:Int) (i:Nat):List (Int × Int):=((List.range i).map fun j=>rowP b l j (at' b.nodes (j:Int)).links.length).flatten
def portsB (b:Big) (l:Int):List (Int × Int):=portsTo b l b.nodes.length
def endsTo (b:Big) (l:Int) (i:Nat):List Str:=((b.inner.take i).filter fun w=>decide (w.link=l)).map (·.name)
def endsB (b:Big) (l:Int):List Str:=(b.inner.filter fun w=>decide (w.link=l)).map (·.name)
theorem portsTo_succ (b:Big) (l:Int) (i:Nat):portsTo b l (i+1)=portsTo b l i++rowP b l i (at' b.nodes (i:Int)).links.length:=by simp[portsTo,List.range_succ]
theorem rowP_zero (b:Big) (l:Int) (i:Nat):rowP b l i 0=[]:=rfl
theorem rowP_yes {b:Big} {l:Int} {i k:Nat} (h:at' (at' b.nodes (i:Int)).links (k:Int)=l):rowP b l i (k+1)=rowP b l i k++[((i:Int),(k:Int))]:=by
 rw[rowP,idxs_yes _ _ (by simpa using h),List.map_append];rfl
theorem rowP_no {b:Big} {l:Int} {i k:Nat} (h:¬ at' (at' b.nodes (i:Int)).links (k:Int)=l):rowP b l i (k+1)=rowP b l i k:=by
 rw[rowP,idxs_no _ _ (by simpa using h)];rfl
theorem rowP_len (b:Big) (l:Int) (i k:Nat):(rowP b l i k).length≤k:=by rw[rowP,List.length_map];exact idxs_len _ _ _
theorem portsTo_len {b:Big} {m:Nat} (h:∀ i,i<b.nodes.length→(at' b.nodes (i:Int)).links.length≤m) (l:Int):∀ i,i≤b.nodes.length→(portsTo b l i).length≤m * i
 | 0,_=>by simp[portsTo]
 | i+1,hi=>by
  rw[portsTo_succ,List.length_append]
  have h1:=portsTo_len h l i (by omega)
  have h2:=rowP_len b l i (at' b.nodes (i:Int)).links.length
  have h3:=h i (by omega)
  rw[Nat.mul_succ];omega
theorem mem_portsTo {b:Big} {l:Int} {i:Nat} {p:Int × Int}:p ∈ portsTo b l i↔∃ j:Nat,j<i∧p.1=j∧0≤p.2∧p.2<(at' b.nodes (j:Int)).links.length∧at' (at' b.nodes (j:Int)).links p.2=l:=by
 simp only[portsTo,List.mem_flatten,List.mem_map,List.mem_range,rowP]
 constructor
 ·rintro⟨_,⟨j,hj,rfl⟩,hp⟩
  obtain⟨z,hz,rfl⟩:=List.mem_map.1 hp
  have:=(mem_idxs _ _).1 hz
  exact⟨j,hj,rfl,this.1,this.2.1,by simpa using this.2.2⟩
 ·rintro⟨j,hj,h1,h2,h3,h4⟩
  refine⟨_,⟨j,hj,rfl⟩,List.mem_map.2 ⟨p.2,(mem_idxs _ _).2 ⟨h2,h3,by simpa using h4⟩,?_⟩⟩
  exact Prod.ext h1.symm rfl
theorem endsTo_succ {b:Big} (l:Int) {i:Nat} (h:i<b.inner.length):endsTo b l (i+1)=endsTo b l i++if b.inner[i].link=l then [b.inner[i].name] else []:=by
 rw[endsTo,List.take_succ_eq_append_getElem h,List.filter_append,List.map_append]
 congr 1
 by_cases hc:b.inner[i].link=l<;>simp[hc]
theorem endsTo_len (b:Big) (l:Int) (i:Nat):(endsTo b l i).length≤i:=by
 rw[endsTo,List.length_map]
 exact Nat.le_trans (List.length_filter_le _ _) (by simp;omega)
theorem endsTo_end (b:Big) (l:Int):endsTo b l b.inner.length=endsB b l:=by simp[endsTo,endsB]
abbrev LinkSz (b:Big):Prop:=b.nodes.length≤1024∧(∀ i,i<b.nodes.length→(at' b.nodes (i:Int)).links.length≤1024)∧b.inner.length≤1048576
theorem ValidB.linkSz {sig:Sig} {b:Big} (h:ValidB sig b):LinkSz b:=by
 have h1:=h.len
 have h2:=h.inner
 exact⟨by omega,fun i hi=>by have:=h.portsLe (i:=i) (by omega);omega,by omega⟩
abbrev l2Ports_pre (b:Big) (_:Int):Prop:=LinkSz b
abbrev l2Ports (b:Big) (l:Int):=portsB b l
def l2Ports_wp (b:Big) (link:Int) (Z:(List (Int × Int))→Prop):Prop:=
 loopW (σ:=Int × (List (Int × Int))) (fun (i14,l15) K19=>∀ len20:Int,len20=(b.nodes.length:Int)→∀ c22:Bool,c22=decide (i14<len20)→((c22=true→loopW (σ:=Int × (List (Int × Int))) (fun (k31,l32) K36=>(0≤i14∧i14<b.nodes.length)∧∀ x38:GNode,x38=at' b.nodes i14→∀ len40:Int,len40=(x38.links.length:Int)→∀ c42:Bool,c42=decide (k31<len40)→((c42=true→(0≤i14∧i14<b.nodes.length)∧∀ x45:GNode,x45=at' b.nodes i14→(0≤k31∧k31<x38.links.length)∧∀ x49:Int,x49=at' x38.links k31→∀ c51:Bool,c51=decide (x49=link)→((c51=true→(l32.length+1≤1073741824)∧∀ l56:List (Int × Int),l56=l32++[(i14,k31)]→(I64 (k31+1))∧∀ v66:Int,v66=k31+1→K36 (v66,l56))∧(c51=false→(I64 (k31+1))∧∀ v69:Int,v69=k31+1→K36 (v69,l32))))∧(c42=false→(I64 (i14+1))∧∀ v72:Int,v72=i14+1→K19 (v72,l32)))) (0,l15))∧(c22=false→Z l15))) (0,([]:List (Int × Int)))
theorem l2Ports_vc (b:Big) (l:Int) (h:l2Ports_pre b l):l2Ports_wp b l (fun y=>y=l2Ports b l):=by
 unfold l2Ports_wp
 obtain⟨h1,h2,h3⟩:=h
 refine loopW.upL b.nodes.length (fun i out=>out=portsTo b l i) [] rfl ?_
 rintro i out K hi rfl IH
 simp only[forall_eq,decide_eq_true_eq,decide_eq_false_iff_not]
 refine⟨fun hc=>?_,fun hc=>by rw[show i=b.nodes.length by omega];rfl⟩
 have hi1:i<b.nodes.length:=by omega
 have hpl:=portsTo_len h2 l i (by omega)
 have hli:=h2 i hi1
 refine loopW.upL (at' b.nodes (i:Int)).links.length (fun k out=>out=portsTo b l i++rowP b l i k) _ (by simp[rowP_zero]) ?_
 rintro k out K2 hk rfl IH2
 have hrl:=rowP_len b l i k
 dsimp only
 refine⟨by omega,fun hc2=>⟨by omega,by omega,fun hc3=>⟨by simp;omega,by simp only[I64];omega,IH2 (by omega) _ ?_⟩,fun hc3=>⟨by simp only[I64];omega,IH2 (by omega) _ ?_⟩⟩,fun hc2=>⟨by simp only[I64];omega,IH hi1 _ ?_⟩⟩
 ·rw[List.append_assoc,rowP_yes hc3]
 ·rw[rowP_no hc3]
 ·rw[show k=(at' b.nodes (i:Int)).links.length by omega,portsTo_succ]
abbrev pointsOf_pre (b:Big) (_:Int):Prop:=LinkSz b
abbrev pointsOf (b:Big) (l:Int):=(portsB b l,endsB b l)
def pointsOf_wp (b:Big) (link:Int) (Z:((List (Int × Int)) × (List Str))→Prop):Prop:=
 ∀ len9:Int,len9=(b.nodes.length:Int)→loopW (σ:=Int × (List (Int × Int))) (fun (v20,l21) K26=>∀ c27:Bool,c27=decide (v20<len9)→((c27=true→(0≤v20∧v20<b.nodes.length)∧∀ x30:GNode,x30=at' b.nodes v20→∀ len36:Int,len36=(x30.links.length:Int)→loopW (σ:=Int × (List (Int × Int))) (fun (v47,l48) K53=>∀ c54:Bool,c54=decide (v47<len36)→((c54=true→(0≤v47∧v47<x30.links.length)∧∀ x57:Int,x57=at' x30.links v47→∀ c59:Bool,c59=decide (x57=link)→((c59=true→(l48.length+1≤1073741824)∧∀ l62:List (Int × Int),l62=l48++[(v20,v47)]→(I64 (v47+1))∧∀ v73:Int,v73=v47+1→K53 (v73,l62))∧(c59=false→(I64 (v47+1))∧∀ v76:Int,v76=v47+1→K53 (v76,l48))))∧(c54=false→(I64 (v20+1))∧∀ v79:Int,v79=v20+1→K26 (v79,l48)))) (0,l21))∧(c27=false→∀ len81:Int,len81=(b.inner.length:Int)→loopW (σ:=Int × (List Str)) (fun (v92,l93) K98=>∀ c99:Bool,c99=decide (v92<len81)→((c99=true→(0≤v92∧v92<b.inner.length)∧∀ x102:Wire,x102=at' b.inner v92→∀ c108:Bool,c108=decide (x102.link=link)→((c108=true→(l93.length+1≤1073741824)∧∀ l111:List Str,l111=l93++[x102.name]→(I64 (v92+1))∧∀ v122:Int,v122=v92+1→K98 (v122,l111))∧(c108=false→(I64 (v92+1))∧∀ v125:Int,v125=v92+1→K98 (v125,l93))))∧(c99=false→Z (l21,l93)))) (0,([]:List Str))))) (0,([]:List (Int × Int)))
theorem pointsOf_vc (b:Big) (l:Int) (h:pointsOf_pre b l):pointsOf_wp b l (fun y=>y=pointsOf b l):=by
 unfold pointsOf_wp
 obtain⟨h1,h2,h3⟩:=h
 rintro _ rfl
 refine loopW.upL b.nodes.length (fun i out=>out=portsTo b l i) [] rfl ?_
 rintro i out K hi rfl IH
 simp only[forall_eq,decide_eq_true_eq,decide_eq_false_iff_not]
 refine⟨fun hc=>?_,fun hc=>?_⟩
 ·have hi1:i<b.nodes.length:=by omega
  have hpl:=portsTo_len h2 l i (by omega)
  have hli:=h2 i hi1
  refine⟨by omega,loopW.upL (at' b.nodes (i:Int)).links.length (fun k out=>out=portsTo b l i++rowP b l i k) _ (by simp[rowP_zero]) ?_⟩
  rintro k out K2 hk rfl IH2
  have hrl:=rowP_len b l i k
  dsimp only
  refine⟨fun hc2=>⟨by omega,fun hc3=>⟨by simp;omega,by simp only[I64];omega,IH2 (by omega) _ ?_⟩,fun hc3=>⟨by simp only[I64];omega,IH2 (by omega) _ ?_⟩⟩,fun hc2=>⟨by simp only[I64];omega,IH hi1 _ ?_⟩⟩
  ·rw[List.append_assoc,rowP_yes hc3]
  ·rw[rowP_no hc3]
  ·rw[show k=(at' b.nodes (i:Int)).links.length by omega,portsTo_succ]
 ·rw[show i=b.nodes.length by omega]
  refine loopW.upL b.inner.length (fun i out=>out=endsTo b l i) [] (by simp[endsTo]) ?_
  rintro i out K hi rfl IH
  have hle:=endsTo_len b l i
  dsimp only
  refine⟨fun hc=>?_,fun hc=>by rw[show i=b.inner.length by omega,endsTo_end];rfl⟩
  have hi1:i<b.inner.length:=by omega
  rw[at_lt hi1]
  refine⟨by omega,fun hc3=>⟨by omega,by simp only[I64];omega,IH hi1 _ ?_⟩,fun hc3=>⟨by simp only[I64];omega,IH hi1 _ ?_⟩⟩
  ·rw[endsTo_succ l hi1,if_pos hc3]
  ·rw[endsTo_succ l hi1,if_neg hc3,List.append_nil]
abbrev isClosedB (b:Big):Bool:=decide (b.sites.length=0) && decide (b.inner.length=0)
abbrev isClosedB_pre (b:Big):Prop:=b.sites.length≤1048576∧b.inner.length≤1048576
def isClosedB_wp (b:Big) (Z:Bool→Prop):Prop:=
 joinW (fun (J4:Bool→Prop)=>∀ len10:Int,len10=(b.sites.length:Int)→∀ c12:Bool,c12=decide (len10=0)→((c12=true→∀ len14:Int,len14=(b.inner.length:Int)→∀ c16:Bool,c16=decide (len14=0)→J4 (c16))∧(c12=false→J4 (false)))) (fun b7=>Z b7)
theorem isClosedB_vc (b:Big) (h:isClosedB_pre b):isClosedB_wp b (fun y=>y=isClosedB b):=by
 unfold isClosedB_wp
 refine⟨fun x=>x=isClosedB b,?_,fun x h=>h⟩
 simp only[forall_eq,decide_eq_true_eq,decide_eq_false_iff_not,isClosedB]
 refine⟨fun h1=>?_,fun h1=>?_⟩
 ·simp[show b.sites.length=0 by omega]
 ·simp[show ¬ b.sites.length=0 by omega]
def agentB (sig:Sig) (b:Big):Bool:=goodB sig b && isClosedB b
abbrev agentB_pre (sig:Sig) (b:Big):Prop:=SmallB sig b
def agentB_wp (sig:List Control) (b:Big) (Z:Bool→Prop):Prop:=
 joinW (fun (J4:Bool→Prop)=>(SmallB sig b)∧∀ r11:Bool,r11=goodB sig b→((r11=true→(isClosedB_pre b)∧∀ r13:Bool,r13=isClosedB b→J4 (r13))∧(r11=false→J4 (false)))) (fun b7=>Z b7)
theorem agentB_vc (sig:Sig) (b:Big) (h:agentB_pre sig b):agentB_wp sig b (fun y=>y=agentB sig b):=by
 unfold agentB_wp
 refine⟨fun x=>x=agentB sig b,?_,fun x h=>h⟩
 simp only[forall_eq]
 refine⟨h,fun h1=>⟨⟨h.sitesLen,h.innerLen⟩,by rw[agentB,h1];rfl⟩,fun h1=>by rw[agentB,h1];rfl⟩
abbrev l2Agent (sig:Sig) (b:Big):Bool:=agentB sig b
abbrev l2Agent_pre (sig:Sig) (b:Big):Prop:=SmallB sig b
def l2Agent_wp (sig:List Control) (b:Big) (Z:Bool→Prop):Prop:=
 joinW (fun (J4:Bool→Prop)=>(SmallB sig b)∧∀ r11:Bool,r11=goodB sig b→((r11=true→∀ len12:Int,len12=(b.sites.length:Int)→∀ c14:Bool,c14=decide (len12=0)→((c14=true→∀ len16:Int,len16=(b.inner.length:Int)→∀ c18:Bool,c18=decide (len16=0)→J4 (c18))∧(c14=false→J4 (false))))∧(r11=false→J4 (false)))) (fun b7=>Z b7)
theorem l2Agent_vc (sig:Sig) (b:Big) (h:l2Agent_pre sig b):l2Agent_wp sig b (fun y=>y=l2Agent sig b):=by
 unfold l2Agent_wp
 refine⟨fun x=>x=agentB sig b,?_,fun x h=>h⟩
 simp only[forall_eq,decide_eq_true_eq,decide_eq_false_iff_not]
 refine⟨h,fun h1=>⟨fun h2=>?_,fun h2=>?_⟩,fun h1=>by rw[agentB,h1];rfl⟩
 ·rw[agentB,h1,isClosedB];simp[show b.sites.length=0 by omega]
 ·rw[agentB,h1,isClosedB];simp[show ¬ b.sites.length=0 by omega]
end Go.Ab.Vg
/- The abstract machine, part Sc: copying into an array of the call's own (elements of one cell). -/
namespace Go.Ab
section
variable {P:Program} {N:Nat} {Ty:Types} {ρ:Env} {H:Heap} {n:Nat}
variable {d:Option Tmp} {ty:TypeId} {pos:String} {af:Array Edge} {gu:Option (Nat × Bool)}
end
end Go.Ab
/- slices.Repeat of one number. -/
namespace Go.Ab.Vg
set_option linter.unusedSimpArgs false
set_option linter.unusedVariables false
open Go.Proofs
end Go.Ab.Vg
/- Matches: pure conditions of the functions of program and reference. -/
namespace Go.Ab.Vg
set_option linter.unusedSimpArgs false
set_option linter.unusedVariables false
def hasI (l:List Int) (x:Int):Bool:=l.any fun y=>x == y
theorem hasI_iff {l:List Int} {x:Int}:hasI l x=true↔x ∈ l:=by simp[hasI]
def underF (b:Big) (nodes:List Int):Nat→Int→Bool
 | 0,_=>false
 | m+1,p=>if p<0 then false else if p ∈ nodes then true else underF b nodes m (at' b.nodes p).parent
def underB (b:Big) (nodes:List Int) (p:Int):Bool:=underF b nodes (p+1).toNat p
abbrev DownB (b:Big):Prop:=b.nodes.length≤1048576∧∀ i:Int,0≤i→i<b.nodes.length→(at' b.nodes i).parent<i
theorem ValidB.downB {sig:Sig} {b:Big} (h:ValidB sig b):DownB b:=⟨by have:=h.len;omega,fun i h0 h1=>(h.parAt ⟨h0,h1⟩).2⟩
def imgAt (agent:Big) (nodes:List Int) (p:Int × Int):Int:=at' (at' agent.nodes (at' nodes p.1)).links p.2
def firstOf (agent:Big) (nodes:List Int) (l:List (Int × Int)):Int:=match l with | [] => -1 | p::_=>imgAt agent nodes p
abbrev firstL (redex agent:Big) (nodes:List Int) (l:Int):Int:=firstOf agent nodes (portsB redex l)
def LinkOk (redex agent:Big) (nodes:List Int) (l:Int):Prop:=(∀ p ∈ portsB redex l,imgAt agent nodes p=firstL redex agent nodes l)∧(l<redex.edges→firstL redex agent nodes l<agent.edges∧(portsB agent (firstL redex agent nodes l)).length=(portsB redex l).length)
def LinksP (redex agent:Big) (nodes:List Int):Prop:=∀ l:Int,0≤l→l<redex.edges+redex.outer.length→LinkOk redex agent nodes l
def parentImg (redex:Big) (m:Match) (k:Int):Int:=if 0≤(at' redex.nodes k).parent then at' m.nodes (at' redex.nodes k).parent else at' m.roots (-1 - (at' redex.nodes k).parent)
def ImgOk (redex agent:Big) (m:Match) (k:Int):Prop:=
 (at' agent.nodes (at' m.nodes k)).control=(at' redex.nodes k).control∧(at' agent.nodes (at' m.nodes k)).parent=parentImg redex m k∧((holesB redex k).length=0→∀ c ∈ kidsB agent (at' m.nodes k),c ∈ m.nodes)
def NodesOk (redex agent:Big) (nodes:List Int):Prop:=nodes.length=redex.nodes.length∧∀ i:Nat,i<nodes.length→isNodeB agent (at' nodes (i:Int))=true∧at' nodes (i:Int) ∉ nodes.take i
def RootsOk (redex agent:Big) (m:Match):Prop:=(m.roots.length:Int)=redex.roots∧∀ p ∈ m.roots,-agent.roots≤p∧p<agent.nodes.length∧underB agent m.nodes p=false
def MatchP (redex agent:Big) (m:Match):Prop:=NodesOk redex agent m.nodes∧RootsOk redex agent m∧(∀ k:Nat,k<redex.nodes.length→ImgOk redex agent m (k:Int))∧LinksP redex agent m.nodes
open Classical in
noncomputable def matchB (redex agent:Big) (m:Match):Bool:=decide (MatchP redex agent m)
end Go.Ab.Vg
/- Matches: pure conditions of the reference's functions. -/
namespace Go.Ab.Vg
set_option linter.unusedSimpArgs false
set_option linter.unusedVariables false
end Go.Ab.Vg
/- FirstMatch, AllMatches, CountActive (statements 20, 21, 19): the search for matches, as lists. -/
namespace Go.Ab.Vg
set_option linter.unusedSimpArgs false
set_option linter.unusedVariables false
def rootsB (redex agent:Big) (nodes:List Int):List Int:=(List.range redex.roots.toNat).map fun r:Nat=>(at' agent.nodes (at' nodes (at' (kidsB redex (-1 - (r:Int))) 0))).parent
def canB (redex agent:Big) (nodes:List Int) (x:Int):Bool:=
 decide ((at' agent.nodes x).control=(at' redex.nodes (nodes.length:Int)).control) && !hasI nodes x && (decide ((at' redex.nodes (nodes.length:Int)).parent<0) || decide ((at' agent.nodes x).parent=at' nodes (at' redex.nodes (nodes.length:Int)).parent))
noncomputable def allM (redex agent:Big) (rs:List Int→List Int) (can:List Int→Int→Bool):Nat→List Int→List Match
 | 0,nodes=>if matchB redex agent ⟨nodes,rs nodes⟩ then [⟨nodes,rs nodes⟩] else []
 | k+1,nodes=>(List.range agent.nodes.length).flatMap fun x:Nat=>if can nodes (x:Int) then allM redex agent rs can k (nodes++[(x:Int)]) else []
end Go.Ab.Vg
