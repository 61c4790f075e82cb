/- Merged texts (7 of 15) of the proof that ends in Lly: Gj Gk Gl Gx L2k Ma Sc Re Mb Mc Mk. -/
import Derived.Test.YtbpdcoahefnnkaaGreatDoorAbQll6
import Derived.Laws.CopyRow
import Derived.Laws.IdiomCopy
/- Contract of spec.l2Good. -/
namespace Go.Ab
open Go.Proofs
set_option linter.unusedSimpArgs false
theorem ctl_all {sig:Sig} {b:Big} {k:Nat} (h:∀ i,i<k→okNodeB sig b i=true):CtlOk sig b k:=by
 induction k with
 | zero=>intro i hi;omega
 | succ k ih=>exact ctl_step (h k (by omega)) (ih fun i hi=>h i (by omega))
def pre1 (sig:Sig) (b:Big):Bool:=goodSig sig && within b.roots 0 4 && decide (b.nodes.length≤8) && decide (b.sites.length≤4) && within b.edges 0 8
def pre2 (b:Big):Bool:=goodNames b.outer && goodNames (names b)
theorem goodPre_eq (sig:Sig) (b:Big):goodPre sig b=(pre1 sig b && pre2 b):=by
 simp only[goodPre,pre1,pre2,Bool.and_assoc]
theorem l2Good_ok (sig:Sig) (b:Big) (hs:SmallB sig b):PureC Tryz.prog 89 [encSig false sig,encB false b] (fun r=>r=bool (goodB sig b)):=by
 obtain⟨s1,s2,s3,s4,s5,s6,s7,s8,s9,s10,s11⟩:=id hs
 have hnl:(names b).length≤1048576:=by simpa[names] using s6
 have hnn:∀ s ∈ names b,s.length≤1048576:=by
  intro s hs
  obtain⟨w,hw,rfl⟩:=List.mem_map.1 hs
  exact s8 w hw
 refine PureC.of Tryz.func89 rfl Tryz.ntmps89 (by simp) fun Q hQ=>?_
 have no:goodB sig b=false→∀ H n,Q (bool false) H n:=fun h H n=>hQ _ _ _ _ (.v _ _ _) (by rw[h])
 refine Runs.seqE Ty_ok (by decide) fun k' hk'=>?_
 simp [encSig, encB, Big.cells]   -- R0
 apply hk'
 refine Runs.cut (fun ρ H n=>ρ 0 = .list false (sig.map Control.cells)∧ρ 3 = .ptr (0,3) 1 0 0∧H (0,3)=some ⟨6,[b.cells false]⟩) ⟨by simp,by simp,by simp[Big.cells]⟩ ?_
 clear hk'
 rintro ρ H n ⟨h0,h3,hm3⟩
 have hm3':=hm3
 simp only[Big.cells,encN,encI,encS,encW] at hm3'
 refine Runs.seq ?_
 refine Runs.seqE Ty_ok (by decide) fun k' hk'=>?_
 have fin:∀ ρ:Env,ρ 0 = .list false (sig.map Control.cells)→ρ 3 = .ptr (0,3) 1 0 0→ρ 34=bool (!pre1 sig b)→Runs Tryz.prog 89 98 k' ρ H n Q:=by
  clear h0 h3
  intro ρ h0 h3 h34
  apply hk'
  refine Runs.ite h34 (fun hc1 => ?_) (fun hc1 => ?_)   -- t34
  ·have hb:pre1 sig b=false:=by simpa using hc1
   refine Runs.seqE Ty_ok (by decide) fun k' hk'=>?_
   simp   -- R2
   apply hk'
   exact Runs.ret Tryz.func89 (RetOk.one Tryz.results89) (no (by rw[goodB_eq,goodPre_eq,hb];rfl) _ _)
  ·have hb1:pre1 sig b=true:=by simpa using hc1
   have hb':=hb1
   simp only[pre1,within,Bool.and_eq_true,decide_eq_true_eq] at hb'
   obtain⟨⟨⟨⟨_,hr⟩,hn8⟩,_⟩,hed⟩:=hb'
   refine Runs.skip ?_
   refine Runs.seq ?_
   refine Runs.seqE Ty_ok (by decide) fun k' hk'=>?_
   have fin2:∀ ρ:Env,ρ 0 = .list false (sig.map Control.cells)→ρ 3 = .ptr (0,3) 1 0 0→ρ 50=bool (!pre2 b)→Runs Tryz.prog 89 98 k' ρ H n Q:=by
    clear h0 h3
    intro ρ h0 h3 h50
    apply hk'
    refine Runs.ite h50 (fun hc1 => ?_) (fun hc1 => ?_)   -- t50
    ·have hb:pre2 b=false:=by simpa using hc1
     refine Runs.seqE Ty_ok (by decide) fun k' hk'=>?_
     simp   -- R4
     apply hk'
     exact Runs.ret Tryz.func89 (RetOk.one Tryz.results89) (no (by rw[goodB_eq,goodPre_eq,hb,Bool.and_false];rfl) _ _)
    ·have hb2:pre2 b=true:=by simpa using hc1
     have hpre:goodPre sig b=true:=by rw[goodPre_eq,hb1,hb2];rfl
     refine Runs.skip ?_
     refine Runs.seq ?_
     refine Runs.seqE Ty_ok (by decide) fun k' hk'=>?_
     simp   -- R5
     apply hk'
     refine Runs.block (Runs.loopUp b.nodes.length (fun k ρ' H' n'=>ρ' 0 = .list false (sig.map Control.cells)∧ρ' 3 = .ptr (0,3) 1 0 0∧ρ' 5=int k∧H'=H∧n'=n∧∀ i,i<k→okNodeB sig b i=true) ?_ ?_)
     ·exact⟨by simp[h0],by simp[h3],by simp,rfl,rfl,fun i hi=>by omega⟩
     ·clear h0 h3
      rintro k ρ H' n' hk ⟨h0,h3,h5,rfl,rfl,hall⟩ IH
      refine Runs.seq ?_
      refine Runs.seqE Ty_ok (by decide) fun k' hk'=>?_
      simp [h3, h5, hm3']   -- R6
      apply hk'
      refine Runs.ite rfl (fun hc2 => ?_) (fun hc2 => ?_)   -- t55
      ·have hc2:k<b.nodes.length:=by simpa using hc2
       refine Runs.skip ?_
       refine Runs.seq ?_
       refine Runs.block ?_
       refine Runs.seqE Ty_ok (by decide) fun k' hk'=>?_
       simp [h0, h3, h5, hm3']   -- R8
       refine RunK.callA Ty_ok (l2Node_ok sig b hs k hc2 hr hed (ctl_all hall)) e144 (.cons (ArgOk.encSig false sig) (.cons (ArgOk.encB false b) (.cons (.v _ _ _) .nil))) (by decide) (by decide) rfl (by simp[h0,h5,encSig,encB,Big.cells,encN,encI,encS,encW]) ?_
       rintro _ rfl
       simp
       apply hk'
       refine Runs.ite rfl (fun hc3 => ?_) (fun hc3 => ?_)   -- t62
       ·have hb3:okNodeB sig b k=false:=by simpa using hc3
        refine Runs.seqE Ty_ok (by decide) fun k' hk'=>?_
        simp   -- R9
        apply hk'
        exact Runs.ret Tryz.func89 (RetOk.one Tryz.results89) (no (by rw[goodB_eq,all_range_bad hc2 hb3,Bool.and_false];rfl) _ _)
       ·have hb3:okNodeB sig b k=true:=by simpa using hc3
        refine Runs.skip ?_
        refine Runs.inBlock ?_
        refine Runs.evalE Ty_ok (by decide) fun k' hk'=>?_
        simp [h5, wrap_succ (show k < 4611686018427387904 by omega)]   -- R7
        apply hk'
        refine IH hc2 _ _ _ ⟨by simp[h0],by simp[h3],by simp,rfl,rfl,fun i hi=>?_⟩
        rcases Nat.lt_or_ge i k with h | h
        ·exact hall i h
        ·rw[show i=k by omega];exact hb3
      ·have hc2:¬ k<b.nodes.length:=by simpa using hc2
       have hke:k=b.nodes.length:=by omega
       subst hke
       have hnodes:=all_range_end hall
       have hctl:=ctl_all hall
       refine Runs.exit rfl ?_
       refine Runs.seq ?_
       refine Runs.seqE Ty_ok (by decide) fun k' hk'=>?_
       simp   -- R10
       apply hk'
       clear IH hall h5
       refine Runs.block (Runs.loopUp b.sites.length (fun k ρ' H2 n2=>ρ' 0 = .list false (sig.map Control.cells)∧ρ' 3 = .ptr (0,3) 1 0 0∧ρ' 6=int k∧H2=H'∧n2=n'∧∀ i (hi:i<b.sites.length),i<k→okParent sig b b.sites[i] b.nodes.length=true) ?_ ?_)
       ·exact⟨by simp[h0],by simp[h3],by simp,rfl,rfl,fun i hi h=>by omega⟩
       ·clear h0 h3
        rintro k ρ H2 n2 hk2 ⟨h0,h3,h6,rfl,rfl,hall⟩ IH
        refine Runs.seq ?_
        refine Runs.seqE Ty_ok (by decide) fun k' hk'=>?_
        simp [h3, h6, hm3']   -- R11
        apply hk'
        refine Runs.ite rfl (fun hc4 => ?_) (fun hc4 => ?_)   -- t67
        ·have hc4:k<b.sites.length:=by simpa using hc4
         refine Runs.skip ?_
         refine Runs.seq ?_
         refine Runs.block ?_
         refine Runs.seqD Ty_ok kindOp_ok draws (by decide) (by kernel_rfl) fun k' hk'=>?_
         simp [h0, h3, h6, hm3', hc4, intC]   -- R13
         refine RunDK.callA Ty_ok kindOp_ok (l2Under_ok sig b b.sites[k] b.nodes.length (s11 _ (List.getElem_mem hc4)) hr (Nat.le_refl _) hctl) e145 (.cons (ArgOk.encSig false sig) (.cons (ArgOk.encB false b) (.cons (.v _ _ _) (.cons (.v _ _ _) .nil)))) (by decide) rfl (by simp[h0,encSig,encB,Big.cells,encN,encI,encS,encW,intC]) ?_
         simp
         apply hk'
         refine Runs.ite rfl (fun hc5 => ?_) (fun hc5 => ?_)   -- t81
         ·have hb3:okParent sig b b.sites[k] b.nodes.length=false:=by simpa using hc5
          refine Runs.seqE Ty_ok (by decide) fun k' hk'=>?_
          simp   -- R14
          apply hk'
          exact Runs.ret Tryz.func89 (RetOk.one Tryz.results89) (no (by rw[goodB_eq,all_bad hc4 hb3,Bool.and_false];rfl) _ _)
         ·have hb3:okParent sig b b.sites[k] b.nodes.length=true:=by simpa using hc5
          refine Runs.skip ?_
          refine Runs.inBlock ?_
          refine Runs.evalE Ty_ok (by decide) fun k' hk'=>?_
          simp [h6, wrap_succ (show k < 4611686018427387904 by omega)]   -- R12
          apply hk'
          refine IH hc4 _ _ _ ⟨by simp[h0],by simp[h3],by simp,rfl,rfl,fun i hi hij=>?_⟩
          rcases Nat.lt_or_ge i k with h | h
          ·exact hall i hi h
          ·have:i=k:=by omega
           subst this
           exact hb3
        ·have hc4:¬ k<b.sites.length:=by simpa using hc4
         have hke:k=b.sites.length:=by omega
         subst hke
         have hsites:=all_end (l:=b.sites) (p:=fun p=>okParent sig b p b.nodes.length) fun i hi=>hall i hi hi
         refine Runs.exit rfl ?_
         refine Runs.seq ?_
         refine Runs.seqE Ty_ok (by decide) fun k' hk'=>?_
         simp   -- R15
         apply hk'
         clear IH hall h6
         refine Runs.block (Runs.loopUp b.inner.length (fun k ρ' H3 n3=>ρ' 3 = .ptr (0,3) 1 0 0∧ρ' 7=int k∧H3=H2∧n3=n2∧∀ i (hi:i<b.inner.length),i<k→okLink b b.inner[i].link=true) ?_ ?_)
         ·exact⟨by simp[h3],by simp,rfl,rfl,fun i hi h=>by omega⟩
         ·clear h0 h3
          rintro k ρ H3 n3 hk3 ⟨h3,h7,rfl,rfl,hall⟩ IH
          refine Runs.seq ?_
          refine Runs.seqE Ty_ok (by decide) fun k' hk'=>?_
          simp [h3, h7, hm3']   -- R16
          apply hk'
          refine Runs.ite rfl (fun hc6 => ?_) (fun hc6 => ?_)   -- t86
          ·have hc6:k<b.inner.length:=by simpa using hc6
           refine Runs.skip ?_
           refine Runs.seq ?_
           refine Runs.block ?_
           refine Runs.seqD Ty_ok kindOp_ok draws (by decide) (by kernel_rfl) fun k' hk'=>?_
           simp [h3, h7, hm3', hc6, Wire.cells]   -- R18
           refine RunDK.callA Ty_ok kindOp_ok (l2Link_ok b b.inner[k].link hed s5) e146 (.cons (ArgOk.encB false b) (.cons (.v _ _ _) .nil)) (by decide) rfl (by simp[encB,Big.cells,encN,encI,encS,encW,Wire.cells]) ?_
           simp
           apply hk'
           refine Runs.ite rfl (fun hc7 => ?_) (fun hc7 => ?_)   -- t97
           ·have hb3:okLink b b.inner[k].link=false:=by simpa using hc7
            refine Runs.seqE Ty_ok (by decide) fun k' hk'=>?_
            simp   -- R19
            apply hk'
            exact Runs.ret Tryz.func89 (RetOk.one Tryz.results89) (no (by rw[goodB_eq,all_bad (l:=b.inner) (p:=fun w=>okLink b w.link) hc6 hb3,Bool.and_false]) _ _)
           ·have hb3:okLink b b.inner[k].link=true:=by simpa using hc7
            refine Runs.skip ?_
            refine Runs.inBlock ?_
            refine Runs.evalE Ty_ok (by decide) fun k' hk'=>?_
            simp [h7, wrap_succ (show k < 4611686018427387904 by omega)]   -- R17
            apply hk'
            refine IH hc6 _ _ _ ⟨by simp[h3],by simp,rfl,rfl,fun i hi hij=>?_⟩
            rcases Nat.lt_or_ge i k with h | h
            ·exact hall i hi h
            ·have:i=k:=by omega
             subst this
             exact hb3
          ·have hc6:¬ k<b.inner.length:=by simpa using hc6
           have hke:k=b.inner.length:=by omega
           subst hke
           have hinner:=all_end (l:=b.inner) (p:=fun w=>okLink b w.link) fun i hi=>hall i hi hi
           refine Runs.exit rfl ?_
           refine Runs.seqE Ty_ok (by decide) fun k' hk'=>?_
           simp   -- R20
           apply hk'
           exact Runs.ret Tryz.func89 (RetOk.one Tryz.results89) (hQ _ _ _ _ (.v _ _ _) (by rw[goodB_eq,hpre,hnodes,hsites,hinner];rfl))
   simp [h3, hm3']   -- R3
   refine RunK.callA Ty_ok (l2Names_ok b.outer s5 s7) e142 (.cons (ArgOk.encS false b.outer) .nil) (by decide) (by decide) rfl (by simp[encS]) ?_
   rintro _ rfl
   cases p6:goodNames b.outer
   ·simp[guardOf]
    exact fin2 _ (by simp[h0]) (by simp[h3]) (by simp only[pre2,p6];simp)
   by_cases p7:(16:Int)<b.inner.length
   ·simp[h3,hm3',p7,guardOf]
    refine fin2 _ (by simp[h0]) (by simp[h3]) ?_
    have:goodNames (names b)=false:=by
     rw[goodNames_eq,show decide ((names b).length≤16)=false by simp[names];omega,Bool.false_and]
    simp only[pre2,this]
    simp
   simp[h3,hm3',p7,guardOf]
   refine RunK.callA Ty_ok (l2Inner_ok b s6) e143 (.cons (ArgOk.encB false b) .nil) (by decide) (by decide) rfl (by simp[encB,Big.cells,encN,encI,encS,encW]) ?_
   rintro _ rfl
   simp
   refine RunK.callA Ty_ok (l2Names_ok (names b) hnl hnn) e142 (.cons (ArgOk.encS true (names b)) .nil) (by decide) (by decide) rfl (by simp[encS]) ?_
   rintro _ rfl
   simp
   exact fin2 _ (by simp[h0]) (by simp[h3]) (by simp only[pre2,p6];simp)
 simp [h0]   -- R1
 refine RunK.callA Ty_ok (l2Sig_ok sig s1 s2) e141 (.cons (ArgOk.encSig false sig) .nil) (by decide) (by decide) rfl (by simp[encSig,h0]) ?_
 rintro _ rfl
 cases p1:goodSig sig
 ·simp[guardOf]
  exact fin _ (by simp[h0]) (by simp[h3]) (by simp only[pre1,p1];simp)
 simp[h3,hm3',guardOf]
 refine RunK.callA Ty_ok (l1In_ok b.roots 0 4) e88 (.cons (.v _ _ _) (.cons (.v _ _ _) (.cons (.v _ _ _) .nil))) (by decide) (by decide) rfl (by simp) ?_
 rintro _ rfl
 cases p2:within b.roots 0 4
 ·simp[guardOf]
  exact fin _ (by simp[h0]) (by simp[h3]) (by simp only[pre1,p2];simp)
 by_cases p3:(8:Int)<b.nodes.length
 ·simp[h3,hm3',p3,guardOf]
  exact fin _ (by simp[h0]) (by simp[h3]) (by simp only[pre1,show ¬ b.nodes.length≤8 by omega];simp)
 by_cases p4:(4:Int)<b.sites.length
 ·simp[h3,hm3',p3,p4,guardOf]
  exact fin _ (by simp[h0]) (by simp[h3]) (by simp only[pre1,show ¬ b.sites.length≤4 by omega];simp)
 simp[h3,hm3',p3,p4,guardOf]
 refine RunK.callA Ty_ok (l1In_ok b.edges 0 8) e88 (.cons (.v _ _ _) (.cons (.v _ _ _) (.cons (.v _ _ _) .nil))) (by decide) (by decide) rfl (by simp) ?_
 rintro _ rfl
 simp
 exact fin _ (by simp[h0]) (by simp[h3]) (by simp only[pre1,p1,p2,show b.nodes.length≤8 by omega,show b.sites.length≤4 by omega];simp)
end Go.Ab
/- Contracts of impl.ancestorsOf, spec.l2Above, slices.Index, slices.Contains and spec.l1Has. -/
namespace Go.Ab
open Go.Proofs
set_option linter.unusedSimpArgs false
theorem e171:Ent Tryz.prog 171:=Ent.of Tryz.func171 (by kernel_rfl) rfl
theorem e131:Ent Tryz.prog 131:=Ent.of Tryz.func131 (by kernel_rfl) rfl
theorem e163:Ent Tryz.prog 163:=Ent.of Tryz.func163 (by kernel_rfl) rfl
theorem index_ok (t:Bool) (l:List Int) (x:Int) (hl:l.length≤1048576):PureC Tryz.prog 171 [encI t l,int x] (fun r=>r=int (idxF l (fun y=>x == y))):=by
 refine PureC.of Tryz.func171 rfl Tryz.ntmps171 (by simp) fun Q hQ=>?_
 refine Runs.seqE Ty_ok (by decide) fun k' hk'=>?_
 simp [encI]   -- R0
 apply hk'
 refine Runs.seq ?_
 refine Runs.seqE Ty_ok (by decide) fun k' hk'=>?_
 simp   -- R1
 apply hk'
 refine Runs.block (Runs.loopUp l.length (fun k ρ H' n'=>ρ 0 = .list t (l.map intC)∧ρ 1=int x∧ρ 7=int l.length∧ρ 8=int k∧∀ i (h:i<l.length),i<k→(x == l[i])=false) ?_ ?_)
 ·simp
 ·rintro k ρ H' n' hk ⟨h0,h1,h7,h8,hno⟩ IH
  refine Runs.seqE Ty_ok (by decide) fun k' hk'=>?_
  simp [h7, h8]   -- R2
  apply hk'
  refine Runs.seq ?_
  refine Runs.ite rfl (fun hc1 => ?_) (fun hc1 => ?_)   -- t9
  ·have hc1:k<l.length:=by simpa using hc1
   refine Runs.skip ?_
   refine Runs.seq ?_
   refine Runs.block ?_
   refine Runs.seqE Ty_ok (by decide) fun k' hk'=>?_
   simp [h8]   -- R3
   apply hk'
   refine Runs.seqE Ty_ok (by decide) fun k' hk'=>?_
   simp [h0, h1, hc1, intC]   -- R4
   apply hk'
   refine Runs.ite rfl (fun hc2 => ?_) (fun hc2 => ?_)   -- t16
   ·have hc2:(x == l[k])=true:=by simpa using hc2
    refine Runs.seqE Ty_ok (by decide) fun k' hk'=>?_
    simp   -- R5
    apply hk'
    refine Runs.ret Tryz.func171 (RetOk.one Tryz.results171) (hQ _ _ _ _ (.v _ _ _) ?_)
    simp[idxF_at (p:=fun y=>x == y) hc1 hc2 hno]
   ·have hc2:(x == l[k])=false:=by simpa using hc2
    refine Runs.skip ?_
    refine Runs.inBlock ?_
    refine Runs.evalE Ty_ok (by decide) fun k' hk'=>?_
    simp [h8, wrap_succ (show k < 4611686018427387904 by omega)]   -- R6
    apply hk'
    refine IH hc1 _ _ _ ⟨by simp[h0,intC],by simp[h1],by simp[h7],by simp,fun i h hi=>?_⟩
    rcases Nat.lt_or_ge i k with hik | hik
    ·exact hno i h hik
    ·have:i=k:=by omega
     subst this
     exact hc2
  ·have hc1:¬ k<l.length:=by simpa using hc1
   have hke:k=l.length:=by omega
   subst hke
   refine Runs.exit rfl ?_
   refine Runs.seqE Ty_ok (by decide) fun k' hk'=>?_
   simp   -- R7
   apply hk'
   refine Runs.ret Tryz.func171 (RetOk.one Tryz.results171) (hQ _ _ _ _ (.v _ _ _) ?_)
   simp[idxF_no (p:=fun y=>x == y) fun i h=>hno i h h]
theorem contains_ok (l:List Int) (x:Int) (hl:l.length≤1048576):PureC Tryz.prog 131 [encI false l,int x] (fun r=>r=bool (l.any (fun y=>x == y))):=by
 refine PureC.of Tryz.func131 rfl Tryz.ntmps131 (by simp) fun Q hQ=>?_
 refine Runs.seqE Ty_ok (by decide) fun k' hk'=>?_
 simp [encI]   -- R0
 apply hk'
 refine Runs.seqE Ty_ok (by decide) fun k' hk'=>?_
 simp   -- R1
 refine RunK.callA Ty_ok (index_ok false l x hl) e171 (.cons (ArgOk.encI false l) (.cons (.v _ _ _) .nil)) (by decide) (by decide) rfl (by simp[encI]) ?_
 rintro _ rfl
 simp
 apply hk'
 refine Runs.ret Tryz.func131 (RetOk.one Tryz.results131) (hQ _ _ _ _ (.v _ _ _) ?_)
 have:=idxF_any l (fun y=>x == y)
 simp only[Env.put]
 simp[this]
theorem l1Has_ok (l:List Int) (x:Int) (hl:l.length≤1048576):PureC Tryz.prog 163 [encI false l,int x] (fun r=>r=bool (l.any (fun y=>x == y))):=by
 refine PureC.of Tryz.func163 rfl Tryz.ntmps163 (by simp) fun Q hQ=>?_
 refine Runs.seqE Ty_ok (by decide) fun k' hk'=>?_
 simp [encI]   -- R0
 apply hk'
 refine Runs.seq ?_
 refine Runs.seqE Ty_ok (by decide) fun k' hk'=>?_
 simp   -- R1
 apply hk'
 refine Runs.block (Runs.loopUp l.length (fun k ρ H' n'=>ρ 0 = .list false (l.map intC)∧ρ 1=int x∧ρ 5=int k∧∀ i (h:i<l.length),i<k→¬ l[i]=x) ?_ ?_)
 ·simp
 ·rintro k ρ H' n' hk ⟨h0,h1,h5,hno⟩ IH
  refine Runs.seq ?_
  refine Runs.seqE Ty_ok (by decide) fun k' hk'=>?_
  simp [h0, h5]   -- R2
  apply hk'
  refine Runs.ite rfl (fun hc1 => ?_) (fun hc1 => ?_)   -- t9
  ·have hc1:k<l.length:=by simpa using hc1
   refine Runs.skip ?_
   refine Runs.seq ?_
   refine Runs.block ?_
   refine Runs.seqE Ty_ok (by decide) fun k' hk'=>?_
   simp [h0, h1, h5, hc1, intC]   -- R4
   apply hk'
   refine Runs.ite rfl (fun hc2 => ?_) (fun hc2 => ?_)   -- t17
   ·have hc2:l[k]=x:=by simpa using hc2
    refine Runs.seqE Ty_ok (by decide) fun k' hk'=>?_
    simp   -- R5
    apply hk'
    refine Runs.ret Tryz.func163 (RetOk.one Tryz.results163) (hQ _ _ _ _ (.v _ _ _) ?_)
    have:l.any (fun y=>x == y)=true:=by
     rw[List.any_eq_true]
     exact⟨l[k],List.getElem_mem hc1,by simp[hc2]⟩
    rw[this]
    try rfl
   ·have hc2:¬ l[k]=x:=by simpa using hc2
    refine Runs.skip ?_
    refine Runs.inBlock ?_
    refine Runs.evalE Ty_ok (by decide) fun k' hk'=>?_
    simp [h5, wrap_succ (show k < 4611686018427387904 by omega)]   -- R3
    apply hk'
    refine IH hc1 _ _ _ ⟨by simp[h0,intC],by simp[h1],by simp,fun i h hi=>?_⟩
    rcases Nat.lt_or_ge i k with hik | hik
    ·exact hno i h hik
    ·have:i=k:=by omega
     subst this
     exact hc2
  ·have hc1:¬ k<l.length:=by simpa using hc1
   have hke:k=l.length:=by omega
   subst hke
   refine Runs.exit rfl ?_
   refine Runs.seqE Ty_ok (by decide) fun k' hk'=>?_
   simp   -- R6
   apply hk'
   refine Runs.ret Tryz.func163 (RetOk.one Tryz.results163) (hQ _ _ _ _ (.v _ _ _) ?_)
   have:l.any (fun y=>x == y)=false:=by
    rw[List.any_eq_false]
    intro y hy
    obtain⟨i,hi,rfl⟩:=List.getElem_of_mem hy
    have:=hno i hi hi
    simpa using fun h=>this h.symm
   rw[this]
   try rfl
end Go.Ab
/- Contracts of impl.CommonPlace and spec.CommonPlace. -/
namespace Go.Ab
open Go.Proofs
set_option linter.unusedSimpArgs false
end Go.Ab
/- What a valid signature and a valid bigraph are, by names. -/
namespace Go.Ab.Vg
set_option linter.unusedSimpArgs false
set_option linter.unusedVariables false
structure ValidS (sig:Sig):Prop where
 len:1≤sig.length∧sig.length≤6
 ports:∀ c ∈ sig,0≤c.ports∧c.ports≤3
 kind:∀ c ∈ sig,0≤c.kind∧c.kind≤2
structure ValidB (sig:Sig) (b:Big):Prop where
 sg:ValidS sig
 roots:0≤b.roots∧b.roots≤4
 len:b.nodes.length≤8
 slen:b.sites.length≤4
 edges:0≤b.edges∧b.edges≤8
 outer:b.outer.length≤16
 inner:b.inner.length≤16
 ctl:∀ i (h:i<b.nodes.length),0≤b.nodes[i].control∧b.nodes[i].control<sig.length
 par:∀ i (h:i<b.nodes.length),-b.roots≤b.nodes[i].parent∧b.nodes[i].parent<i
 ports:∀ i (h:i<b.nodes.length),(b.nodes[i].links.length:Int)=(sig.getD b.nodes[i].control.toNat default).ports
 links:∀ i (h:i<b.nodes.length),∀ l ∈ b.nodes[i].links,0≤l∧l<b.edges+b.outer.length
 sites:∀ p ∈ b.sites,-b.roots≤p∧p<b.nodes.length
 wires:∀ w ∈ b.inner,0≤w.link∧w.link<b.edges+b.outer.length
theorem goodSig_valid {sig:Sig} (h:goodSig sig=true):ValidS sig:=by
 simp only[goodSig,within,okControl,Bool.and_eq_true,decide_eq_true_eq,List.all_eq_true,List.mem_range] at h
 obtain⟨h1,h2⟩:=h
 refine⟨by omega,fun c hc=>?_,fun c hc=>?_⟩<;>obtain⟨i,hi,rfl⟩:=List.getElem_of_mem hc<;>have:=h2 i hi<;>simp only[List.getD_eq_getElem?_getD,List.getElem?_eq_getElem hi,Option.getD_some] at this
 ·exact this.1.1.2
 ·exact this.1.2
theorem goodB_valid {sig:Sig} {b:Big} (h:goodB sig b=true):ValidB sig b:=by
 simp only[goodB,Bool.and_eq_true,decide_eq_true_eq,List.all_eq_true,List.mem_range] at h
 obtain⟨⟨⟨⟨⟨⟨⟨⟨⟨hs,hr⟩,hn⟩,hst⟩,he⟩,ho⟩,hi⟩,hno⟩,hsi⟩,hw⟩:=h
 have hV:=goodSig_valid hs
 simp only[within,Bool.and_eq_true,decide_eq_true_eq] at hr he
 simp only[goodNames,Bool.and_eq_true,decide_eq_true_eq,List.length_map] at ho hi
 have hno2:∀ i (h:i<b.nodes.length),(0≤b.nodes[i].control∧b.nodes[i].control≤(sig.length:Int) - 1)∧okParent sig b b.nodes[i].parent i=true∧(b.nodes[i].links.length:Int)=(sig.getD b.nodes[i].control.toNat default).ports∧∀ l ∈ b.nodes[i].links,okLink b l=true:=fun i h=>by
  have:=hno i h
  simp only[okNodeB,within,Bool.and_eq_true,decide_eq_true_eq,List.all_eq_true,List.getD_eq_getElem?_getD,List.getElem?_eq_getElem h,Option.getD_some] at this
  exact⟨this.1.1.1,this.1.1.2,by simpa using this.1.2,this.2⟩
 have hp:∀ p (m:Nat),okParent sig b p m=true → -b.roots≤p∧p<m:=fun p m h=>by
  simp only[okParent] at h
  split at h
  ·simp only[decide_eq_true_eq] at h;omega
  ·simp only[Bool.and_eq_true,decide_eq_true_eq] at h;omega
 have hl:∀ l,okLink b l=true→0≤l∧l<b.edges+b.outer.length:=fun l h=>by
  simp only[okLink,within,Bool.and_eq_true,decide_eq_true_eq] at h;omega
 exact⟨hV,hr,hn,hst,he,ho.1,hi.1,fun i h=>by have:=(hno2 i h).1;omega,fun i h=>hp _ _ (hno2 i h).2.1,fun i h=>(hno2 i h).2.2.1,fun i h l hm=>hl l ((hno2 i h).2.2.2 l hm),fun p hm=>hp _ _ (hsi p hm),fun w hm=>hl _ (hw w hm)⟩
theorem at_mem {α:Type} [Inhabited α] {l:List α} {i:Int} (h:0≤i∧i<l.length):at' l i ∈ l:=by
 obtain⟨h1,h2⟩:=at_get h rfl
 exact h2 ▸ List.getElem_mem h1
theorem at_eq {α:Type} [Inhabited α] {l:List α} {i:Int} (h:0≤i∧i<l.length):∃ h':i.toNat<l.length,at' l i=l[i.toNat]:=by
 obtain⟨h1,h2⟩:=at_get h rfl
 exact⟨h1,h2.symm⟩
theorem ValidB.ctlAt {sig:Sig} {b:Big} (h:ValidB sig b) {i:Int} (hi:0≤i∧i<b.nodes.length):0≤(at' b.nodes i).control∧(at' b.nodes i).control<sig.length:=by
 obtain⟨h1,h2⟩:=at_eq hi;rw[h2];exact h.ctl _ h1
theorem ValidB.parAt {sig:Sig} {b:Big} (h:ValidB sig b) {i:Int} (hi:0≤i∧i<b.nodes.length) : -b.roots≤(at' b.nodes i).parent∧(at' b.nodes i).parent<i:=by
 obtain⟨h1,h2⟩:=at_eq hi;rw[h2];have:=h.par _ h1;omega
theorem ValidB.portsAt {sig:Sig} {b:Big} (h:ValidB sig b) {i:Int} (hi:0≤i∧i<b.nodes.length):((at' b.nodes i).links.length:Int)=(at' sig (at' b.nodes i).control).ports:=by
 obtain⟨h1,h2⟩:=at_eq hi
 have h3:=h.ports _ h1
 have h4:=h.ctl _ h1
 rw[h2,h3];simp[at']
theorem ValidB.linksAt {sig:Sig} {b:Big} (h:ValidB sig b) {i:Int} (hi:0≤i∧i<b.nodes.length):∀ l ∈ (at' b.nodes i).links,0≤l∧l<b.edges+b.outer.length:=by
 obtain⟨h1,h2⟩:=at_eq hi;rw[h2];exact h.links _ h1
theorem ValidB.portsLe {sig:Sig} {b:Big} (h:ValidB sig b) {i:Int} (hi:0≤i∧i<b.nodes.length):(at' b.nodes i).links.length≤3:=by
 have h1:=h.portsAt hi
 have h2:=h.ctlAt hi
 have h3:=h.sg.ports _ (at_mem (l:=sig) h2)
 omega
end Go.Ab.Vg
/- Children of a place: pure conditions of (impl.Bigraph).childrenOf, spec.l2Kids and spec.l2Holes. -/
namespace Go.Ab.Vg
set_option linter.unusedSimpArgs false
set_option linter.unusedVariables false
def kidsB (b:Big) (p:Int):List Int:=idxs b.nodes (fun x=>decide (x.parent=p)) b.nodes.length
def holesB (b:Big) (p:Int):List Int:=idxs b.sites (fun x=>decide (x=p)) b.sites.length
abbrev l2Kids (b:Big) (p:Int):=kidsB b p
abbrev l2Kids_pre (b:Big) (_:Int):Prop:=b.nodes.length≤1048576
def l2Kids_wp (b:Big) (parent:Int) (Z:(List Int)→Prop):Prop:=
 loopW (σ:=Int × (List Int)) (fun (i14,l15) K19=>∀ len20:Int,len20=(b.nodes.length:Int)→∀ c22:Bool,c22=decide (i14<len20)→((c22=true→(0≤i14∧i14<b.nodes.length)∧∀ x25:GNode,x25=at' b.nodes i14→∀ c27:Bool,c27=decide (x25.parent=parent)→((c27=true→(l15.length+1≤1073741824)∧∀ l30:List Int,l30=l15++[i14]→(I64 (i14+1))∧∀ v40:Int,v40=i14+1→K19 (v40,l30))∧(c27=false→(I64 (i14+1))∧∀ v43:Int,v43=i14+1→K19 (v43,l15))))∧(c22=false→Z l15))) (0,([]:List Int))
theorem l2Kids_vc (b:Big) (p:Int) (h:l2Kids_pre b p):l2Kids_wp b p (fun y=>y=l2Kids b p):=by
 unfold l2Kids_wp
 refine loopW.upL b.nodes.length (fun k out=>out=idxs b.nodes (fun x=>decide (x.parent=p)) k) [] rfl ?_
 rintro k out K hk rfl IH
 have hl:=idxs_len b.nodes (fun x=>decide (x.parent=p)) k
 simp only[l2Kids_pre] at h
 simp only[forall_eq,decide_eq_true_eq,decide_eq_false_iff_not,I64]
 refine⟨fun h1=>⟨by omega,fun h2=>⟨by omega,by omega,?_⟩,fun h2=>⟨by omega,?_⟩⟩,fun h1=>?_⟩
 ·exact IH (by omega) _ (idxs_yes _ _ (by simpa using h2)).symm
 ·exact IH (by omega) _ (idxs_no _ _ (by simpa using h2)).symm
 ·rw[show k=b.nodes.length by omega];rfl
abbrev l2Holes (b:Big) (p:Int):=holesB b p
abbrev l2Holes_pre (b:Big) (_:Int):Prop:=b.sites.length≤1048576
def l2Holes_wp (b:Big) (parent:Int) (Z:(List Int)→Prop):Prop:=
 loopW (σ:=Int × (List Int)) (fun (i14,l15) K19=>∀ len20:Int,len20=(b.sites.length:Int)→∀ c22:Bool,c22=decide (i14<len20)→((c22=true→(0≤i14∧i14<b.sites.length)∧∀ x25:Int,x25=at' b.sites i14→∀ c27:Bool,c27=decide (x25=parent)→((c27=true→(l15.length+1≤1073741824)∧∀ l30:List Int,l30=l15++[i14]→(I64 (i14+1))∧∀ v40:Int,v40=i14+1→K19 (v40,l30))∧(c27=false→(I64 (i14+1))∧∀ v43:Int,v43=i14+1→K19 (v43,l15))))∧(c22=false→Z l15))) (0,([]:List Int))
theorem l2Holes_vc (b:Big) (p:Int) (h:l2Holes_pre b p):l2Holes_wp b p (fun y=>y=l2Holes b p):=by
 unfold l2Holes_wp
 refine loopW.upL b.sites.length (fun k out=>out=idxs b.sites (fun x=>decide (x=p)) k) [] rfl ?_
 rintro k out K hk rfl IH
 have hl:=idxs_len b.sites (fun x=>decide (x=p)) k
 simp only[l2Holes_pre] at h
 simp only[forall_eq,decide_eq_true_eq,decide_eq_false_iff_not,I64]
 refine⟨fun h1=>⟨by omega,fun h2=>⟨by omega,by omega,?_⟩,fun h2=>⟨by omega,?_⟩⟩,fun h1=>?_⟩
 ·exact IH (by omega) _ (idxs_yes _ _ (by simpa using h2)).symm
 ·exact IH (by omega) _ (idxs_no _ _ (by simpa using h2)).symm
 ·rw[show k=b.sites.length by omega];rfl
abbrev childrenOf (b:Big) (p:Int):=(kidsB b p,holesB b p)
abbrev childrenOf_pre (b:Big) (_:Int):Prop:=b.nodes.length≤1048576∧b.sites.length≤1048576
def childrenOf_wp (b:Big) (parent:Int) (Z:((List Int) × (List Int))→Prop):Prop:=
 ∀ len9:Int,len9=(b.nodes.length:Int)→loopW (σ:=Int × (List Int)) (fun (v20,l21) K26=>∀ c27:Bool,c27=decide (v20<len9)→((c27=true→(0≤v20∧v20<b.nodes.length)∧∀ x30:GNode,x30=at' b.nodes v20→∀ c36:Bool,c36=decide (x30.parent=parent)→((c36=true→(l21.length+1≤1073741824)∧∀ l39:List Int,l39=l21++[v20]→(I64 (v20+1))∧∀ v50:Int,v50=v20+1→K26 (v50,l39))∧(c36=false→(I64 (v20+1))∧∀ v53:Int,v53=v20+1→K26 (v53,l21))))∧(c27=false→∀ len55:Int,len55=(b.sites.length:Int)→loopW (σ:=Int × (List Int)) (fun (v66,l67) K72=>∀ c73:Bool,c73=decide (v66<len55)→((c73=true→(0≤v66∧v66<b.sites.length)∧∀ x76:Int,x76=at' b.sites v66→∀ c78:Bool,c78=decide (x76=parent)→((c78=true→(l67.length+1≤1073741824)∧∀ l81:List Int,l81=l67++[v66]→(I64 (v66+1))∧∀ v92:Int,v92=v66+1→K72 (v92,l81))∧(c78=false→(I64 (v66+1))∧∀ v95:Int,v95=v66+1→K72 (v95,l67))))∧(c73=false→Z (l21,l67)))) (0,([]:List Int))))) (0,([]:List Int))
theorem childrenOf_vc (b:Big) (p:Int) (h:childrenOf_pre b p):childrenOf_wp b p (fun y=>y=childrenOf b p):=by
 unfold childrenOf_wp
 rintro _ rfl
 simp only[childrenOf_pre] at h
 refine loopW.upL b.nodes.length (fun k out=>out=idxs b.nodes (fun x=>decide (x.parent=p)) k) [] rfl ?_
 rintro k out K hk rfl IH
 have hl:=idxs_len b.nodes (fun x=>decide (x.parent=p)) k
 simp only[forall_eq,decide_eq_true_eq,decide_eq_false_iff_not,I64]
 refine⟨fun h1=>⟨by omega,fun h2=>⟨by omega,by omega,?_⟩,fun h2=>⟨by omega,?_⟩⟩,fun h1=>?_⟩
 ·exact IH (by omega) _ (idxs_yes _ _ (by simpa using h2)).symm
 ·exact IH (by omega) _ (idxs_no _ _ (by simpa using h2)).symm
 rw[show k=b.nodes.length by omega]
 clear hl hk IH K h1
 refine loopW.upL b.sites.length (fun k out=>out=idxs b.sites (fun x=>decide (x=p)) k) [] rfl ?_
 rintro k out K hk rfl IH
 have hl:=idxs_len b.sites (fun x=>decide (x=p)) k
 dsimp only
 refine⟨fun h1=>⟨by omega,fun h2=>⟨by omega,by omega,?_⟩,fun h2=>⟨by omega,?_⟩⟩,fun h1=>?_⟩
 ·exact IH (by omega) _ (idxs_yes _ _ (by simpa using h2)).symm
 ·exact IH (by omega) _ (idxs_no _ _ (by simpa using h2)).symm
 ·rw[show k=b.sites.length by omega];rfl
end Go.Ab.Vg
/- Links' points, redexes: pure conditions of the functions of program and reference. -/
namespace Go.Ab.Vg
set_option linter.unusedSimpArgs false
set_option linter.unusedVariables false
def rowP (b:Big) (l:Int) (i k:Nat):List (Int × Int):=(idxs (at' b.nodes (i:Int)).links (fun x=>decide (x=l)) k).map fun z=>((i:Int),z)
def portsTo (b:Big) (l:Int) (i:Nat):List (Int × Int):=((List.range i).map fun j=>rowP b l j (at' b.nodes (j:Int)).links.length).flatten
def portsB (b:Big) (l:Int):List (Int × Int):=portsTo b l b.nodes.length
def endsTo (b:Big) (l:Int) (i:Nat):List Str:=((b.inner.take i).filter fun w=>decide (w.link=l)).map (·.name)
def endsB (b:Big) (l:Int):List Str:=(b.inner.filter fun w=>decide (w.link=l)).map (·.name)
theorem portsTo_succ (b:Big) (l:Int) (i:Nat):portsTo b l (i+1)=portsTo b l i++rowP b l i (at' b.nodes (i:Int)).links.length:=by simp[portsTo,List.range_succ]
theorem rowP_zero (b:Big) (l:Int) (i:Nat):rowP b l i 0=[]:=rfl
theorem rowP_yes {b:Big} {l:Int} {i k:Nat} (h:at' (at' b.nodes (i:Int)).links (k:Int)=l):rowP b l i (k+1)=rowP b l i k++[((i:Int),(k:Int))]:=by
 rw[rowP,idxs_yes _ _ (by simpa using h),List.map_append];rfl
theorem rowP_no {b:Big} {l:Int} {i k:Nat} (h:¬ at' (at' b.nodes (i:Int)).links (k:Int)=l):rowP b l i (k+1)=rowP b l i k:=by
 rw[rowP,idxs_no _ _ (by simpa using h)];rfl
theorem rowP_len (b:Big) (l:Int) (i k:Nat):(rowP b l i k).length≤k:=by rw[rowP,List.length_map];exact idxs_len _ _ _
theorem portsTo_len {b:Big} {m:Nat} (h:∀ i,i<b.nodes.length→(at' b.nodes (i:Int)).links.length≤m) (l:Int):∀ i,i≤b.nodes.length→(portsTo b l i).length≤m * i
 | 0,_=>by simp[portsTo]
 | i+1,hi=>by
  rw[portsTo_succ,List.length_append]
  have h1:=portsTo_len h l i (by omega)
  have h2:=rowP_len b l i (at' b.nodes (i:Int)).links.length
  have h3:=h i (by omega)
  rw[Nat.mul_succ];omega
theorem mem_portsTo {b:Big} {l:Int} {i:Nat} {p:Int × Int}:p ∈ portsTo b l i↔∃ j:Nat,j<i∧p.1=j∧0≤p.2∧p.2<(at' b.nodes (j:Int)).links.length∧at' (at' b.nodes (j:Int)).links p.2=l:=by
 simp only[portsTo,List.mem_flatten,List.mem_map,List.mem_range,rowP]
 constructor
 ·rintro⟨_,⟨j,hj,rfl⟩,hp⟩
  obtain⟨z,hz,rfl⟩:=List.mem_map.1 hp
  have:=(mem_idxs _ _).1 hz
  exact⟨j,hj,rfl,this.1,this.2.1,by simpa using this.2.2⟩
 ·rintro⟨j,hj,h1,h2,h3,h4⟩
  refine⟨_,⟨j,hj,rfl⟩,List.mem_map.2 ⟨p.2,(mem_idxs _ _).2 ⟨h2,h3,by simpa using h4⟩,?_⟩⟩
  exact Prod.ext h1.symm rfl
theorem endsTo_succ {b:Big} (l:Int) {i:Nat} (h:i<b.inner.length):endsTo b l (i+1)=endsTo b l i++if b.inner[i].link=l then [b.inner[i].name] else []:=by
 rw[endsTo,List.take_succ_eq_append_getElem h,List.filter_append,List.map_append]
 congr 1
 by_cases hc:b.inner[i].link=l<;>simp[hc]
theorem endsTo_len (b:Big) (l:Int) (i:Nat):(endsTo b l i).length≤i:=by
 rw[endsTo,List.length_map]
 exact Nat.le_trans (List.length_filter_le _ _) (by simp;omega)
theorem endsTo_end (b:Big) (l:Int):endsTo b l b.inner.length=endsB b l:=by simp[endsTo,endsB]
abbrev LinkSz (b:Big):Prop:=b.nodes.length≤1024∧(∀ i,i<b.nodes.length→(at' b.nodes (i:Int)).links.length≤1024)∧b.inner.length≤1048576
theorem ValidB.linkSz {sig:Sig} {b:Big} (h:ValidB sig b):LinkSz b:=by
 have h1:=h.len
 have h2:=h.inner
 exact⟨by omega,fun i hi=>by have:=h.portsLe (i:=i) (by omega);omega,by omega⟩
abbrev l2Ports_pre (b:Big) (_:Int):Prop:=LinkSz b
abbrev l2Ports (b:Big) (l:Int):=portsB b l
def l2Ports_wp (b:Big) (link:Int) (Z:(List (Int × Int))→Prop):Prop:=
 loopW (σ:=Int × (List (Int × Int))) (fun (i14,l15) K19=>∀ len20:Int,len20=(b.nodes.length:Int)→∀ c22:Bool,c22=decide (i14<len20)→((c22=true→loopW (σ:=Int × (List (Int × Int))) (fun (k31,l32) K36=>(0≤i14∧i14<b.nodes.length)∧∀ x38:GNode,x38=at' b.nodes i14→∀ len40:Int,len40=(x38.links.length:Int)→∀ c42:Bool,c42=decide (k31<len40)→((c42=true→(0≤i14∧i14<b.nodes.length)∧∀ x45:GNode,x45=at' b.nodes i14→(0≤k31∧k31<x38.links.length)∧∀ x49:Int,x49=at' x38.links k31→∀ c51:Bool,c51=decide (x49=link)→((c51=true→(l32.length+1≤1073741824)∧∀ l56:List (Int × Int),l56=l32++[(i14,k31)]→(I64 (k31+1))∧∀ v66:Int,v66=k31+1→K36 (v66,l56))∧(c51=false→(I64 (k31+1))∧∀ v69:Int,v69=k31+1→K36 (v69,l32))))∧(c42=false→(I64 (i14+1))∧∀ v72:Int,v72=i14+1→K19 (v72,l32)))) (0,l15))∧(c22=false→Z l15))) (0,([]:List (Int × Int)))
theorem l2Ports_vc (b:Big) (l:Int) (h:l2Ports_pre b l):l2Ports_wp b l (fun y=>y=l2Ports b l):=by
 unfold l2Ports_wp
 obtain⟨h1,h2,h3⟩:=h
 refine loopW.upL b.nodes.length (fun i out=>out=portsTo b l i) [] rfl ?_
 rintro i out K hi rfl IH
 simp only[forall_eq,decide_eq_true_eq,decide_eq_false_iff_not]
 refine⟨fun hc=>?_,fun hc=>by rw[show i=b.nodes.length by omega];rfl⟩
 have hi1:i<b.nodes.length:=by omega
 have hpl:=portsTo_len h2 l i (by omega)
 have hli:=h2 i hi1
 refine loopW.upL (at' b.nodes (i:Int)).links.length (fun k out=>out=portsTo b l i++rowP b l i k) _ (by simp[rowP_zero]) ?_
 rintro k out K2 hk rfl IH2
 have hrl:=rowP_len b l i k
 dsimp only
 refine⟨by omega,fun hc2=>⟨by omega,by omega,fun hc3=>⟨by simp;omega,by simp only[I64];omega,IH2 (by omega) _ ?_⟩,fun hc3=>⟨by simp only[I64];omega,IH2 (by omega) _ ?_⟩⟩,fun hc2=>⟨by simp only[I64];omega,IH hi1 _ ?_⟩⟩
 ·rw[List.append_assoc,rowP_yes hc3]
 ·rw[rowP_no hc3]
 ·rw[show k=(at' b.nodes (i:Int)).links.length by omega,portsTo_succ]
abbrev l2Ends_pre (b:Big) (_:Int):Prop:=LinkSz b
abbrev l2Ends (b:Big) (l:Int):=endsB b l
def l2Ends_wp (b:Big) (link:Int) (Z:(List Str)→Prop):Prop:=
 loopW (σ:=Int × (List Str)) (fun (i14,l15) K19=>∀ len20:Int,len20=(b.inner.length:Int)→∀ c22:Bool,c22=decide (i14<len20)→((c22=true→(0≤i14∧i14<b.inner.length)∧∀ x25:Wire,x25=at' b.inner i14→∀ c27:Bool,c27=decide (x25.link=link)→((c27=true→(0≤i14∧i14<b.inner.length)∧∀ x30:Wire,x30=at' b.inner i14→(l15.length+1≤1073741824)∧∀ l34:List Str,l34=l15++[x25.name]→(I64 (i14+1))∧∀ v44:Int,v44=i14+1→K19 (v44,l34))∧(c27=false→(I64 (i14+1))∧∀ v47:Int,v47=i14+1→K19 (v47,l15))))∧(c22=false→Z l15))) (0,([]:List Str))
theorem l2Ends_vc (b:Big) (l:Int) (h:l2Ends_pre b l):l2Ends_wp b l (fun y=>y=l2Ends b l):=by
 unfold l2Ends_wp
 obtain⟨h1,h2,h3⟩:=h
 refine loopW.upL b.inner.length (fun i out=>out=endsTo b l i) [] (by simp[endsTo]) ?_
 rintro i out K hi rfl IH
 have hle:=endsTo_len b l i
 simp only[forall_eq,decide_eq_true_eq,decide_eq_false_iff_not]
 refine⟨fun hc=>?_,fun hc=>by rw[show i=b.inner.length by omega,endsTo_end]⟩
 have hi1:i<b.inner.length:=by omega
 rw[at_lt hi1]
 refine⟨by omega,fun hc3=>⟨by omega,by omega,by simp only[I64];omega,IH hi1 _ ?_⟩,fun hc3=>⟨by simp only[I64];omega,IH hi1 _ ?_⟩⟩
 ·rw[endsTo_succ l hi1,if_pos hc3]
 ·rw[endsTo_succ l hi1,if_neg hc3,List.append_nil]
abbrev pointsOf_pre (b:Big) (_:Int):Prop:=LinkSz b
abbrev pointsOf (b:Big) (l:Int):=(portsB b l,endsB b l)
def pointsOf_wp (b:Big) (link:Int) (Z:((List (Int × Int)) × (List Str))→Prop):Prop:=
 ∀ len9:Int,len9=(b.nodes.length:Int)→loopW (σ:=Int × (List (Int × Int))) (fun (v20,l21) K26=>∀ c27:Bool,c27=decide (v20<len9)→((c27=true→(0≤v20∧v20<b.nodes.length)∧∀ x30:GNode,x30=at' b.nodes v20→∀ len36:Int,len36=(x30.links.length:Int)→loopW (σ:=Int × (List (Int × Int))) (fun (v47,l48) K53=>∀ c54:Bool,c54=decide (v47<len36)→((c54=true→(0≤v47∧v47<x30.links.length)∧∀ x57:Int,x57=at' x30.links v47→∀ c59:Bool,c59=decide (x57=link)→((c59=true→(l48.length+1≤1073741824)∧∀ l62:List (Int × Int),l62=l48++[(v20,v47)]→(I64 (v47+1))∧∀ v73:Int,v73=v47+1→K53 (v73,l62))∧(c59=false→(I64 (v47+1))∧∀ v76:Int,v76=v47+1→K53 (v76,l48))))∧(c54=false→(I64 (v20+1))∧∀ v79:Int,v79=v20+1→K26 (v79,l48)))) (0,l21))∧(c27=false→∀ len81:Int,len81=(b.inner.length:Int)→loopW (σ:=Int × (List Str)) (fun (v92,l93) K98=>∀ c99:Bool,c99=decide (v92<len81)→((c99=true→(0≤v92∧v92<b.inner.length)∧∀ x102:Wire,x102=at' b.inner v92→∀ c108:Bool,c108=decide (x102.link=link)→((c108=true→(l93.length+1≤1073741824)∧∀ l111:List Str,l111=l93++[x102.name]→(I64 (v92+1))∧∀ v122:Int,v122=v92+1→K98 (v122,l111))∧(c108=false→(I64 (v92+1))∧∀ v125:Int,v125=v92+1→K98 (v125,l93))))∧(c99=false→Z (l21,l93)))) (0,([]:List Str))))) (0,([]:List (Int × Int)))
theorem pointsOf_vc (b:Big) (l:Int) (h:pointsOf_pre b l):pointsOf_wp b l (fun y=>y=pointsOf b l):=by
 unfold pointsOf_wp
 obtain⟨h1,h2,h3⟩:=h
 rintro _ rfl
 refine loopW.upL b.nodes.length (fun i out=>out=portsTo b l i) [] rfl ?_
 rintro i out K hi rfl IH
 simp only[forall_eq,decide_eq_true_eq,decide_eq_false_iff_not]
 refine⟨fun hc=>?_,fun hc=>?_⟩
 ·have hi1:i<b.nodes.length:=by omega
  have hpl:=portsTo_len h2 l i (by omega)
  have hli:=h2 i hi1
  refine⟨by omega,loopW.upL (at' b.nodes (i:Int)).links.length (fun k out=>out=portsTo b l i++rowP b l i k) _ (by simp[rowP_zero]) ?_⟩
  rintro k out K2 hk rfl IH2
  have hrl:=rowP_len b l i k
  dsimp only
  refine⟨fun hc2=>⟨by omega,fun hc3=>⟨by simp;omega,by simp only[I64];omega,IH2 (by omega) _ ?_⟩,fun hc3=>⟨by simp only[I64];omega,IH2 (by omega) _ ?_⟩⟩,fun hc2=>⟨by simp only[I64];omega,IH hi1 _ ?_⟩⟩
  ·rw[List.append_assoc,rowP_yes hc3]
  ·rw[rowP_no hc3]
  ·rw[show k=(at' b.nodes (i:Int)).links.length by omega,portsTo_succ]
 ·rw[show i=b.nodes.length by omega]
  refine loopW.upL b.inner.length (fun i out=>out=endsTo b l i) [] (by simp[endsTo]) ?_
  rintro i out K hi rfl IH
  have hle:=endsTo_len b l i
  dsimp only
  refine⟨fun hc=>?_,fun hc=>by rw[show i=b.inner.length by omega,endsTo_end];rfl⟩
  have hi1:i<b.inner.length:=by omega
  rw[at_lt hi1]
  refine⟨by omega,fun hc3=>⟨by omega,by simp only[I64];omega,IH hi1 _ ?_⟩,fun hc3=>⟨by simp only[I64];omega,IH hi1 _ ?_⟩⟩
  ·rw[endsTo_succ l hi1,if_pos hc3]
  ·rw[endsTo_succ l hi1,if_neg hc3,List.append_nil]
abbrev l2Idle_pre (b:Big) (_:Int):Prop:=LinkSz b
abbrev l2Idle (b:Big) (l:Int):Bool:=decide ((portsB b l).length=0) && decide ((endsB b l).length=0)
def l2Idle_wp (b:Big) (link:Int) (Z:Bool→Prop):Prop:=
 joinW (fun (J4:Bool→Prop)=>(l2Ports_pre b link)∧∀ r11:List (Int × Int),r11=l2Ports b link→∀ len12:Int,len12=(r11.length:Int)→∀ c14:Bool,c14=decide (len12=0)→((c14=true→(l2Ends_pre b link)∧∀ r17:List Str,r17=l2Ends b link→∀ len18:Int,len18=(r17.length:Int)→∀ c20:Bool,c20=decide (len18=0)→J4 (c20))∧(c14=false→J4 (false)))) (fun b7=>Z b7)
theorem l2Idle_vc (b:Big) (l:Int) (h:l2Idle_pre b l):l2Idle_wp b l (fun y=>y=l2Idle b l):=by
 unfold l2Idle_wp
 refine⟨fun x=>x=l2Idle b l,?_,fun x h=>h⟩
 simp only[forall_eq,decide_eq_true_eq,decide_eq_false_iff_not,l2Idle]
 refine⟨h,fun h1=>⟨h,?_⟩,fun h1=>?_⟩
 ·simp only[l2Ports] at h1
  simp[show (portsB b l).length=0 by omega]
 ·simp only[l2Ports] at h1
  simp[show ¬ (portsB b l).length=0 by omega]
abbrev isIdle_pre (b:Big) (_:Int):Prop:=LinkSz b
abbrev isIdle (b:Big) (l:Int):Bool:=l2Idle b l
def isIdle_wp (b:Big) (link:Int) (Z:Bool→Prop):Prop:=
 (pointsOf_pre b link)∧∀ r5:(List (Int × Int)) × (List Str),r5=pointsOf b link→∀ len6:Int,len6=(r5.1.length:Int)→∀ len8:Int,len8=(r5.2.length:Int)→(I64 (len6+len8))∧∀ v11:Int,v11=len6+len8→∀ c13:Bool,c13=decide (v11=0)→Z c13
theorem isIdle_vc (b:Big) (l:Int) (h:isIdle_pre b l):isIdle_wp b l (fun y=>y=isIdle b l):=by
 unfold isIdle_wp
 have h1:(portsB b l).length≤1024 * 1024:=Nat.le_trans (portsTo_len h.2.1 l _ (Nat.le_refl _)) (by have:=h.1;omega)
 have h2:(endsB b l).length≤1048576:=by rw[← endsTo_end];have:=endsTo_len b l b.inner.length;have:=h.2.2;omega
 simp only[forall_eq]
 refine⟨h,by simp only[I64];omega,?_⟩
 rw[isIdle,l2Idle,Bool.eq_iff_iff]
 simp only[decide_eq_true_eq,Bool.and_eq_true]
 omega
abbrev isClosedB (b:Big):Bool:=decide (b.sites.length=0) && decide (b.inner.length=0)
abbrev isClosedB_pre (b:Big):Prop:=b.sites.length≤1048576∧b.inner.length≤1048576
def isClosedB_wp (b:Big) (Z:Bool→Prop):Prop:=
 joinW (fun (J4:Bool→Prop)=>∀ len10:Int,len10=(b.sites.length:Int)→∀ c12:Bool,c12=decide (len10=0)→((c12=true→∀ len14:Int,len14=(b.inner.length:Int)→∀ c16:Bool,c16=decide (len14=0)→J4 (c16))∧(c12=false→J4 (false)))) (fun b7=>Z b7)
theorem isClosedB_vc (b:Big) (h:isClosedB_pre b):isClosedB_wp b (fun y=>y=isClosedB b):=by
 unfold isClosedB_wp
 refine⟨fun x=>x=isClosedB b,?_,fun x h=>h⟩
 simp only[forall_eq,decide_eq_true_eq,decide_eq_false_iff_not,isClosedB]
 refine⟨fun h1=>?_,fun h1=>?_⟩
 ·simp[show b.sites.length=0 by omega]
 ·simp[show ¬ b.sites.length=0 by omega]
def agentB (sig:Sig) (b:Big):Bool:=goodB sig b && isClosedB b
abbrev agentB_pre (sig:Sig) (b:Big):Prop:=SmallB sig b
def agentB_wp (sig:List Control) (b:Big) (Z:Bool→Prop):Prop:=
 joinW (fun (J4:Bool→Prop)=>(SmallB sig b)∧∀ r11:Bool,r11=goodB sig b→((r11=true→(isClosedB_pre b)∧∀ r13:Bool,r13=isClosedB b→J4 (r13))∧(r11=false→J4 (false)))) (fun b7=>Z b7)
theorem agentB_vc (sig:Sig) (b:Big) (h:agentB_pre sig b):agentB_wp sig b (fun y=>y=agentB sig b):=by
 unfold agentB_wp
 refine⟨fun x=>x=agentB sig b,?_,fun x h=>h⟩
 simp only[forall_eq]
 refine⟨h,fun h1=>⟨⟨h.sitesLen,h.innerLen⟩,by rw[agentB,h1];rfl⟩,fun h1=>by rw[agentB,h1];rfl⟩
abbrev l2Agent (sig:Sig) (b:Big):Bool:=agentB sig b
abbrev l2Agent_pre (sig:Sig) (b:Big):Prop:=SmallB sig b
def l2Agent_wp (sig:List Control) (b:Big) (Z:Bool→Prop):Prop:=
 joinW (fun (J4:Bool→Prop)=>(SmallB sig b)∧∀ r11:Bool,r11=goodB sig b→((r11=true→∀ len12:Int,len12=(b.sites.length:Int)→∀ c14:Bool,c14=decide (len12=0)→((c14=true→∀ len16:Int,len16=(b.inner.length:Int)→∀ c18:Bool,c18=decide (len16=0)→J4 (c18))∧(c14=false→J4 (false))))∧(r11=false→J4 (false)))) (fun b7=>Z b7)
theorem l2Agent_vc (sig:Sig) (b:Big) (h:l2Agent_pre sig b):l2Agent_wp sig b (fun y=>y=l2Agent sig b):=by
 unfold l2Agent_wp
 refine⟨fun x=>x=agentB sig b,?_,fun x h=>h⟩
 simp only[forall_eq,decide_eq_true_eq,decide_eq_false_iff_not]
 refine⟨h,fun h1=>⟨fun h2=>?_,fun h2=>?_⟩,fun h1=>by rw[agentB,h1];rfl⟩
 ·rw[agentB,h1,isClosedB];simp[show b.sites.length=0 by omega]
 ·rw[agentB,h1,isClosedB];simp[show ¬ b.sites.length=0 by omega]
def OkPlace (b:Big) (p:Int):Prop:=¬ ((p<0∧((kidsB b p).length=0∨0<(holesB b p).length))∨1<(holesB b p).length)
def RedexP (b:Big):Prop:=b.inner.length=0∧b.roots ≠ 0∧(∀ p,-b.roots≤p→p<b.nodes.length→OkPlace b p)∧∀ l,0≤l→l<b.edges+b.outer.length→isIdle b l=false
open Classical in
noncomputable def redexB (b:Big):Bool:=decide (RedexP b)
theorem redexB_iff {b:Big}:redexB b=true↔RedexP b:=by simp[redexB]
theorem redexB_no {b:Big} (h:¬ RedexP b):redexB b=false:=by simp[redexB,h]
abbrev isRedex_pre (b:Big):Prop:=LinkSz b∧b.sites.length≤1048576∧0≤b.roots∧b.roots≤1024∧0≤b.edges∧b.edges≤1024∧b.outer.length≤1024
noncomputable abbrev isRedex (b:Big):Bool:=redexB b
def isRedex_wp (b:Big) (Z:Bool→Prop):Prop:=
 joinW (fun (J4:Bool→Prop)=>∀ len71:Int,len71=(b.inner.length:Int)→∀ c73:Bool,c73=decide (0<len71)→((c73=true→J4 (true))∧(c73=false→∀ c75:Bool,c75=decide (b.roots=0)→J4 (c75)))) (fun b7=>((b7=true→Z false)∧(b7=false→(I64 (-b.roots))∧∀ v11:Int,v11 = -b.roots→loopW (σ:=Int) (fun placeV15 K18=>∀ len19:Int,len19=(b.nodes.length:Int)→∀ c21:Bool,c21=decide (placeV15<len19)→((c21=true→(childrenOf_pre b placeV15)∧∀ r24:(List Int) × (List Int),r24=childrenOf b placeV15→joinW (fun (J25:Bool→Prop)=>∀ c34:Bool,c34=decide (placeV15<0)→((c34=true→∀ len36:Int,len36=(r24.1.length:Int)→∀ c38:Bool,c38=decide (len36=0)→((c38=true→J25 (true))∧(c38=false→∀ len40:Int,len40=(r24.2.length:Int)→∀ c42:Bool,c42=decide (0<len40)→((c42=true→J25 (true))∧(c42=false→∀ len44:Int,len44=(r24.2.length:Int)→∀ c47:Bool,c47=decide (1<len40)→J25 (c47))))))∧(c34=false→∀ len49:Int,len49=(r24.2.length:Int)→∀ c51:Bool,c51=decide (1<len49)→J25 (c51)))) (fun b28=>((b28=true→Z false)∧(b28=false→(I64 (placeV15+1))∧∀ v32:Int,v32=placeV15+1→K18 (v32)))))∧(c21=false→∀ len53:Int,len53=(b.outer.length:Int)→(I64 (b.edges+len53))∧∀ v56:Int,v56=b.edges+len53→loopW (σ:=Int) (fun v60 K63=>∀ c64:Bool,c64=decide (v60<v56)→((c64=true→(isIdle_pre b v60)∧∀ r67:Bool,r67=isIdle b v60→((r67=true→Z false)∧(r67=false→(I64 (v60+1))∧∀ v69:Int,v69=v60+1→K63 (v69))))∧(c64=false→Z true))) (0)))) (v11))))
theorem isRedex_vc (b:Big) (h:isRedex_pre b):isRedex_wp b (fun y=>y=isRedex b):=by
 unfold isRedex_wp
 obtain⟨hL,hs,hr0,hr1,he0,he1,ho⟩:=h
 have hch:childrenOf_pre b 0:=⟨by have:=hL.1;omega,hs⟩
 have hL1:=hL.1
 simp only[forall_eq,decide_eq_true_eq,decide_eq_false_iff_not]
 refine⟨fun c=>c=true↔¬ (b.inner.length=0∧b.roots ≠ 0),⟨fun h1=>iff_of_true rfl (by omega),fun h1=>by simp only[decide_eq_true_eq];omega⟩,fun c hc=>⟨fun h1=>(redexB_no fun hR=>hc.1 h1 ⟨hR.1,hR.2.1⟩).symm,fun h1=>?_⟩⟩
 have hc0:b.inner.length=0∧b.roots ≠ 0:=Classical.not_not.1 fun h=>by rw[hc.2 h] at h1;cases h1
 refine⟨by simp only[I64];omega,?_⟩
 refine loopW.byM (fun place => -b.roots≤place∧place≤b.nodes.length∧∀ p,-b.roots≤p→p<place→OkPlace b p) (fun place=>(b.nodes.length - place).toNat) ⟨by omega,by omega,fun p h1 h2=>by omega⟩ ?_
 rintro place ⟨hp1,hp2,hp3⟩
 refine⟨fun h2=>⟨hch,fun c=>c=true↔¬ OkPlace b place,?_,fun c hc=>⟨fun h3=>(redexB_no fun hR=>hc.1 h3 (hR.2.2.1 place hp1 h2)).symm,fun h3=>⟨by simp only[I64];omega,⟨by omega,by omega,fun p h4 h5=>?_⟩,by omega⟩⟩⟩,fun h2=>?_⟩
 ·simp only[OkPlace]
  refine⟨fun h3=>⟨fun h4=>?_,fun h4=>⟨fun h5=>?_,fun h5=>?_⟩⟩,fun h3=>?_⟩<;>simp only[decide_eq_true_eq,true_iff]<;>omega
 ·have hok:OkPlace b place:=Classical.not_not.1 fun h=>by rw[hc.2 h] at h3;cases h3
  rcases Int.lt_or_le p place with h6 | h6
  ·exact hp3 p h4 h6
  ·rw[show p=place by omega];exact hok
 ·have hN:((b.edges+b.outer.length).toNat:Int)=b.edges+b.outer.length:=by omega
  refine⟨by simp only[I64];omega,loopW.up1 (b.edges+b.outer.length).toNat (fun k=>∀ l,0≤l→l<(k:Int)→isIdle b l=false) (fun l h1 h2=>by omega) ?_⟩
  rintro k K hk hI IH
  refine⟨fun h3=>⟨hL,fun h4=>(redexB_no fun hR=>?_).symm,fun h4=>⟨by simp only[I64];omega,IH (by omega) fun l h5 h6=>?_⟩⟩,fun h3=>?_⟩
  ·have:=hR.2.2.2 k (by omega) h3
   rw[h4] at this;cases this
  ·rcases Int.lt_or_le l k with h7 | h7
   ·exact hI l h5 h7
   ·rw[show l=k by omega];exact h4
  ·exact (redexB_iff.2 ⟨hc0.1,hc0.2,fun p h4 h5=>hp3 p h4 (by omega),fun l h4 h5=>hI l h4 (by omega)⟩).symm
abbrev l8Solid_pre (b:Big):Prop:=isRedex_pre b
noncomputable abbrev l8Solid (b:Big):Bool:=redexB b
def l8Solid_wp (b:Big) (Z:Bool→Prop):Prop:=
 joinW (fun (J4:Bool→Prop)=>∀ len83:Int,len83=(b.inner.length:Int)→∀ c85:Bool,c85=decide (0<len83)→((c85=true→J4 (true))∧(c85=false→∀ c87:Bool,c87=decide (b.roots=0)→J4 (c87)))) (fun b7=>((b7=true→Z false)∧(b7=false→loopW (σ:=Int) (fun r12 K15=>∀ c16:Bool,c16=decide (r12<b.roots)→((c16=true→joinW (fun (J18:Bool→Prop)=>(I64 ((-1) - r12))∧∀ v28:Int,v28=(-1) - r12→(l2Kids_pre b v28)∧∀ r31:List Int,r31=l2Kids b v28→∀ len32:Int,len32=(r31.length:Int)→∀ c34:Bool,c34=decide (len32=0)→((c34=true→J18 (true))∧(c34=false→(I64 ((-1) - r12))∧∀ v37:Int,v37=(-1) - r12→(l2Holes_pre b v28)∧∀ r41:List Int,r41=l2Holes b v28→∀ len42:Int,len42=(r41.length:Int)→∀ c44:Bool,c44=decide (0<len42)→J18 (c44)))) (fun b21=>((b21=true→Z false)∧(b21=false→(I64 (r12+1))∧∀ v25:Int,v25=r12+1→K15 (v25)))))∧(c16=false→loopW (σ:=Int) (fun i48 K51=>∀ len52:Int,len52=(b.nodes.length:Int)→∀ c54:Bool,c54=decide (i48<len52)→((c54=true→(l2Holes_pre b i48)∧∀ r57:List Int,r57=l2Holes b i48→∀ len58:Int,len58=(r57.length:Int)→∀ c60:Bool,c60=decide (1<len58)→((c60=true→Z false)∧(c60=false→(I64 (i48+1))∧∀ v63:Int,v63=i48+1→K51 (v63))))∧(c54=false→loopW (σ:=Int) (fun link67 K70=>∀ len71:Int,len71=(b.outer.length:Int)→(I64 (b.edges+len71))∧∀ v74:Int,v74=b.edges+len71→∀ c76:Bool,c76=decide (link67<v74)→((c76=true→(l2Idle_pre b link67)∧∀ r79:Bool,r79=l2Idle b link67→((r79=true→Z false)∧(r79=false→(I64 (link67+1))∧∀ v81:Int,v81=link67+1→K70 (v81))))∧(c76=false→Z true))) (0)))) (0)))) (0))))
theorem l8Solid_vc (b:Big) (h:l8Solid_pre b):l8Solid_wp b (fun y=>y=l8Solid b):=by
 unfold l8Solid_wp
 obtain⟨hL,hs,hr0,hr1,he0,he1,ho⟩:=h
 have hL1:=hL.1
 have hk1:l2Kids_pre b 0:=by simp only[l2Kids_pre];omega
 simp only[forall_eq,decide_eq_true_eq,decide_eq_false_iff_not,l2Kids,l2Holes]
 refine⟨fun c=>c=true↔¬ (b.inner.length=0∧b.roots ≠ 0),⟨fun h1=>iff_of_true rfl (by omega),fun h1=>by simp only[decide_eq_true_eq];omega⟩,fun c hc=>⟨fun h1=>(redexB_no fun hR=>hc.1 h1 ⟨hR.1,hR.2.1⟩).symm,fun h1=>?_⟩⟩
 have hc0:b.inner.length=0∧b.roots ≠ 0:=Classical.not_not.1 fun h=>by rw[hc.2 h] at h1;cases h1
 have hR0:(b.roots.toNat:Int)=b.roots:=by omega
 refine loopW.up1 b.roots.toNat (fun k=>∀ r,0≤r→r<(k:Int)→(kidsB b (-1 - r)).length ≠ 0∧(holesB b (-1 - r)).length=0) (fun l h1 h2=>by omega) ?_
 rintro k K hk hI IH
 refine⟨fun h2=>⟨fun c=>c=true↔¬ ((kidsB b (-1 - (k:Int))).length ≠ 0∧(holesB b (-1 - (k:Int))).length=0),⟨by simp only[I64];omega,hk1,fun h3=>iff_of_true rfl (by omega),fun h3=>⟨by simp only[I64];omega,hs,by simp only[decide_eq_true_eq];omega⟩⟩,fun c hc=>⟨fun h3=>(redexB_no fun hR=>?_).symm,fun h3=>⟨by simp only[I64];omega,IH (by omega) fun r h4 h5=>?_⟩⟩⟩,fun h2=>?_⟩
 ·have:=hR.2.2.1 (-1 - (k:Int)) (by omega) (by omega)
  have h4:=hc.1 h3
  simp only[OkPlace] at this
  omega
 ·rcases Int.lt_or_le r k with h6 | h6
  ·exact hI r h4 h6
  ·rw[show r=k by omega]
   exact Classical.not_not.1 fun h=>by rw[hc.2 h] at h3;cases h3
 refine loopW.up1 b.nodes.length (fun k=>∀ i,0≤i→i<(k:Int)→¬ 1<(holesB b i).length) (fun l h1 h2=>by omega) ?_
 rintro q K2 hq hI2 IH2
 refine⟨fun h3=>⟨hs,fun h4=>(redexB_no fun hR=>?_).symm,fun h4=>⟨by simp only[I64];omega,IH2 (by omega) fun i h5 h6=>?_⟩⟩,fun h3=>?_⟩
 ·have:=hR.2.2.1 q (by omega) h3
  simp only[OkPlace] at this
  omega
 ·rcases Int.lt_or_le i q with h7 | h7
  ·exact hI2 i h5 h7
  ·rw[show i=q by omega];omega
 have hN:((b.edges+b.outer.length).toNat:Int)=b.edges+b.outer.length:=by omega
 refine loopW.up1 (b.edges+b.outer.length).toNat (fun k=>∀ l,0≤l→l<(k:Int)→isIdle b l=false) (fun l h1 h2=>by omega) ?_
 rintro z K3 hz hI3 IH3
 refine⟨by simp only[I64];omega,fun h4=>⟨hL,fun h5=>(redexB_no fun hR=>?_).symm,fun h5=>⟨by simp only[I64];omega,IH3 (by omega) fun l h6 h7=>?_⟩⟩,fun h4=>?_⟩
 ·have:=hR.2.2.2 z (by omega) h4
  simp only[isIdle] at this
  rw[h5] at this;cases this
 ·rcases Int.lt_or_le l z with h8 | h8
  ·exact hI3 l h6 h8
  ·rw[show l=z by omega];exact h5
 ·refine (redexB_iff.2 ⟨hc0.1,hc0.2,fun p h5 h6=>?_,fun l h5 h6=>hI3 l h5 (by omega)⟩).symm
  simp only[OkPlace]
  rcases Int.lt_or_le p 0 with h7 | h7
  ·have:=hI (-1 - p) (by omega) (by omega)
   rw[show -1 - (-1 - p)=p by omega] at this
   omega
  ·have:=hI2 p h7 (by omega)
   omega
end Go.Ab.Vg
/- The abstract machine, part Sc: copying into an array of the call's own (elements of one cell). -/
namespace Go.Ab
section
variable {P:Program} {N:Nat} {Ty:Types} {ρ:Env} {H:Heap} {n:Nat}
variable {d:Option Tmp} {ty:TypeId} {pos:String} {af:Array Edge} {gu:Option (Nat × Bool)}
theorem exec_copy {a:Act} {w w':World} {s x:Operand} {t t':TypeId} {u:Value} (h:(Builtin.copy_ #[t,t'] ty #[a.eval s,a.eval x]).run P w = .ok u w') :
  (execOp a.eval ⟨d,.call ⟨.builtin .copy,#[s,x],#[t,t']⟩,ty,pos,af,gu⟩).run P w = .ok (.value u) w':=by
 simp only[execOp,resolve,invoke,builtin,Sem.run_bind,Sem.run_pure,Result.andThen_ok,List.map_toArray,List.map_cons,List.map_nil,h]
def copied (es new:List (List AVal)) (off len:Nat):List (List AVal):=es.take off++new.take (min new.length len)++es.drop (off+min new.length len)
theorem copied_len {es new:List (List AVal)} {off len:Nat} (h:off+len≤es.length):(copied es new off len).length=es.length:=by simp[copied];omega
theorem OpSem.copy1 (hT:TypesOk P Ty) {t t':TypeId} {dst src:Operand} {j:TI} {id:Id} {g0 off len:Nat} {o:Ob} {els:List (List AVal)} (hk:kd Ty t = .slice j) (hj:j.size=1) (hd:ρ.ev dst = .arr id g0 off len) (hl:live H id g0=some o) (ho:o.size=1)
  (hs:srcOf H (ρ.ev src)=some els) (hes:els.all (·.length == 1)=true) (h1:els.all (fun e=>e.all one1)=true) :
  OpSem P N ⟨d,.call ⟨.builtin .copy,#[dst,src],#[t,t']⟩,ty,pos,af,gu⟩ ρ H n fun v1 H1 n1=>v1=int (min els.length len:Nat)∧H1=H.set id ⟨1,copied o.els els off len⟩∧n1=n:=by
 refine OpSem.of_value fun c a hH hn g r=>?_
 subst hH
 obtain⟨i,e,hi,hde,hje⟩:=kd_slice hk
 obtain⟨hu,_⟩:=hT t i hi
 rw[hde] at hu
 obtain⟨_,info,zv,hinfo,his,_,_,_⟩:=hT e j hje
 have hs1:(P.info? e).map (·.size)=some 1:=by rw[hinfo];simp[his,hj]
 have rs:=r.ev dst
 rw[hd] at rs
 obtain⟨l1,l2⟩:=live_some hl
 have rx:=srcOf_ok g (r.ev src) hs hes
 generalize hsv:a.eval dst=sv at rs
 generalize hxv:a.eval src=xv at rx
 cases rs with
 | arr _ _ _ _ _ hone hn0 hg hp=>
 obtain⟨p1,ad,cap,rfl,hab,hsp,hlc,hoff,hcl⟩:=hp o l1 l2
 obtain⟨ab,ao,asp⟩:=ad
 simp only at hab hsp hoff
 subst hab hsp
 obtain⟨hB,cl,el,hh,hsz,hel⟩:=g.obj id o l1
 rw[ho] at hsz hoff
 have hsame:min els.length len=0→c.H.set id ⟨1,copied o.els els off len⟩=c.H:=fun h0=>by
  funext q
  by_cases hq:q=id
  ·subst hq
   rw[Heap.get_set_self,l1]
   have:copied o.els els off len=o.els:=by simp[copied,h0]
   rw[this,← ho]
  ·exact Heap.get_set_ne _ _ hq
 by_cases hm:min els.length len=0
 ·have hrun:(Builtin.copy_ #[t,t'] ty #[a.eval dst,a.eval src]).run P c.w = .ok (goInt 0) c.w:=by
   rw[hsv,hxv]
   rcases rx with ⟨rfl,rfl⟩ | ⟨a2,cap2,news,rfl,_⟩
   ·exact run_copy_nil P c.w t t' ty e _ len cap hu (by rw[hs1];rfl)
   ·exact run_copy_none c.w t t' ty e _ _ len cap els.length cap2 hu hs1 hm
  exact⟨_,_,c,exec_copy hrun,⟨by rw[hm];rfl,(hsame hm).symm,hn⟩,.v _,g,Keeps.refl c⟩
 ·rcases rx with ⟨rfl,rfl⟩ | ⟨a2,cap2,news,rfl,hnl,hnc,hnr⟩
  ·simp at hm
  have hao:ao=off:=by
   rcases hoff with h | h
   ·omega
   ·omega
  subst hao
  have hog:o.els.length=g0:=l2
  have hml:(news.take (min els.length len)).length=min els.length len:=by rw[List.length_take,hnl];omega
  have hone':∀ v ∈ news.take (min els.length len),v.oneCell'=true:=fun v hv=>allOne h1 hnl hnr v (List.mem_of_mem_take hv)
  have hfit:ao+(news.take (min els.length len)).length≤cl.size:=by rw[hml];omega
  have hrun:(Builtin.copy_ #[t,t'] ty #[a.eval dst,a.eval src]).run P c.w = .ok (goInt (news.take (min els.length len)).length) (c.w.setRow (c.β id) (cl.toList.take ao++news.take (min els.length len)++cl.toList.drop (ao+(news.take (min els.length len)).length)).toArray):=by
   rw[hsv,hxv]
   exact run_copy_row P c.w t t' ty e (c.β id) ao len cap a2 els.length cap2 cl el _ hu hs1 hh hml (fun j v hj=>hnc j v (by
    rw[List.getElem?_take] at hj
    split at hj
    ·exact hj
    ·cases hj)) hfit hone'
  have hov:(cl.toList.take ao++news.take (min els.length len)++cl.toList.drop (ao+(news.take (min els.length len)).length)).toArray=over cl ao (news.take (min els.length len)):=rfl
  rw[hov] at hrun
  have hup:=upd_same g l1 ⟨1,copied o.els els ao len⟩ (c.w.setRow (c.β id) (over cl ao (news.take (min els.length len)))) cl (over cl ao (news.take (min els.length len))) el el ⟨rfl,rfl,rfl⟩ (by simp[World.setRow]) hh (fun k hk=>setRow_other c.w _ k _ hk) (setRow_heap c.w _ cl _ el _ hh)
   (by rw[over_size hfit];exact Nat.le_refl _) ho (by rw[copied_len (by omega)];exact Nat.le_refl _) ⟨?_,?_⟩
  ·exact⟨int (min els.length len:Nat),goInt (news.take (min els.length len)).length,{ c with H:=c.H.set id ⟨1,copied o.els els ao len⟩,w:=c.w.setRow (c.β id) (over cl ao (news.take (min els.length len))) },exec_copy hrun,⟨rfl,rfl,hn⟩,by rw[hml];exact .v _,hup.2,hup.1⟩
  ·rw[over_size hfit,copied_len (by omega)];simpa using hsz
  ·intro q e' he
   simp only[copied] at he
   have hcell:∀ (x:List AVal),o.els[q]?=some x→¬ (ao≤q∧q<ao+min els.length len)→x.length=1∧∀ (j:Nat) (y:AVal),x[j]?=some y→∃ z,(over cl ao (news.take (min els.length len)))[q * 1+j]?=some z∧Rep c y z:=fun x hx hnot=>by
    obtain⟨h2,h3⟩:=hel q x hx
    rw[ho] at h2 h3
    refine⟨h2,fun j y hy=>?_⟩
    have hj0:j=0:=by have:=(List.getElem?_eq_some_iff.1 hy).1;omega
    subst hj0
    have h4:=h3 0 y hy
    rwa [over_get hfit,hml,if_neg (by omega)]
   by_cases c1:q<ao
   ·rw[List.append_assoc,List.getElem?_append_left (by simp;omega),List.getElem?_take,if_pos c1] at he
    exact hcell e' he (by omega)
   ·by_cases c2:q<ao+min els.length len
    ·rw[List.append_assoc,List.getElem?_append_right (by simp;omega),List.getElem?_append_left (by simp;omega),List.getElem?_take] at he
     have hmin:min ao o.els.length=ao:=by omega
     simp only[List.length_take,hmin] at he
     rw[if_pos (by omega)] at he
     obtain⟨h2,h3⟩:=hnr _ e' he
     refine⟨h2,fun j y hy=>?_⟩
     have hj0:j=0:=by have:=(List.getElem?_eq_some_iff.1 hy).1;omega
     subst hj0
     obtain⟨z,hz,hrep⟩:=h3 0 y hy
     refine⟨z,?_,hrep⟩
     show (over cl ao (news.take (min els.length len)))[q * 1+0]?=some z
     rw[over_get hfit,hml,if_pos (by omega),List.getElem?_take,if_pos (by omega)]
     rw[← hz];congr 1;omega
    ·rw[List.getElem?_append_right (by simp;omega)] at he
     have hmin:min ao o.els.length=ao:=by omega
     have hmin2:min (min els.length len) els.length=min els.length len:=by omega
     simp only[List.length_append,List.length_take,hmin,hmin2,List.getElem?_drop] at he
     rw[show ao+min els.length len+(q - (ao+min els.length len))=q by omega] at he
     exact hcell e' he (by omega)
theorem OpSem.copy1' (hT:TypesOk P Ty) {t t':TypeId} {dst src:Operand} {j:TI} {id:Id} {g0 off len m:Nat} {o:Ob} {els es':List (List AVal)} (hk:kd Ty t = .slice j) (hj:j.size=1) (hd:ρ.ev dst = .arr id g0 off len) (hl:live H id g0=some o) (ho:o.size=1)
  (hs:srcOf H (ρ.ev src)=some els) (hes:els.all (·.length == 1)=true) (h1:els.all (fun e=>e.all one1)=true) (hm:min els.length len=m) (he:copied o.els els off len=es') :
  OpSem P N ⟨d,.call ⟨.builtin .copy,#[dst,src],#[t,t']⟩,ty,pos,af,gu⟩ ρ H n (isV (int m) (H.set id ⟨1,es'⟩) n):=by
 subst hm he
 exact OpSem.copy1 hT hk hj hd hl ho hs hes h1
end
end Go.Ab
/- slices.Repeat of one number. -/
namespace Go.Ab.Vg
set_option linter.unusedSimpArgs false
set_option linter.unusedVariables false
open Go.Proofs
theorem rep_vs (c:Ctx) (vs:List Value):Rep c (.tup (vs.map AVal.v)) (.tuple vs.toArray):=.tup _ _ (by simp) fun i a x ha hx=>by
 rw[List.getElem?_map] at ha
 rw[hx] at ha
 simp only[Option.map_some,Option.some.injEq] at ha
 exact ha ▸ .v x
theorem e198:Ent Tryz.prog 198:=Ent.of Tryz.func198 (by kernel_rfl) rfl
theorem e182:Ent Tryz.prog 182:=Ent.of Tryz.func182 (by kernel_rfl) rfl
theorem bitsMul_ok (x y:Nat) (hx:x<18446744073709551616) (hy:y<18446744073709551616):PureC Tryz.prog 198 [.v (.int .u64 x),.v (.int .u64 y)] (fun r=>r = .tup [.v (.int .u64 ((x * y / 18446744073709551616:Nat):Int)),.v (.int .u64 ((x * y % 18446744073709551616:Nat):Int))]):=by
 refine PureC.of_below fun c xs _ r=>?_
 obtain⟨a,b,rfl,ha,hb⟩:=r.two2
 rw[ha.v_inv,hb.v_inv]
 refine (Tryz.bits_Mul x y hx hy c.w).mono ?_
 rintro e w' ⟨he,rfl⟩
 exact⟨_,_,he,rfl,.tup _ (by simp),fun c'=>rep_vs c' [.int .u64 ((x * y / 18446744073709551616:Nat):Int),.int .u64 ((x * y % 18446744073709551616:Nat):Int)],Go.RowKit.Below.refl _ _⟩
def repeatI (l:List Int) (n:Int):List Int:=List.replicate n.toNat (l.headD 0)
abbrev repeatI_pre (l:List Int) (n:Int):Prop:=l.length=1∧0≤n∧n≤1048576
theorem copied_rep {v:Int} {N m:Nat} (hm:m≤N):copied ((List.replicate m v++List.replicate (N - m) (0:Int)).map intC) ((List.replicate m v).map intC) m (N - m)=(List.replicate (m+min m (N - m)) v++List.replicate (N - (m+min m (N - m))) (0:Int)).map intC:=by
 simp only[copied,List.length_map,List.length_replicate,← List.map_take,← List.map_drop,← List.map_append]
 congr 1
 refine List.ext_getElem (by simp;omega) fun i h1 h2=>?_
 simp only[List.getElem_append,List.getElem_take,List.getElem_drop,List.getElem_replicate,List.length_append,List.length_take,List.length_replicate]
 repeat' split
 all_goals first | rfl | omega
theorem repeat_ok (v n:Int) (h:0≤n∧n≤1048576):OwnS Tryz.prog 182 [.list false ([v].map intC),int n] (.s [.c]) (fun r=>r = .list true ((List.replicate n.toNat v).map intC)):=by
 obtain⟨N,rfl⟩:∃ N:Nat,n=N:=⟨n.toNat,by omega⟩
 refine OwnS.of Tryz.func182 rfl Tryz.ntmps182 (by simp) fun Q hQ=>?_
 refine Runs.seqE Ty_ok (by decide) fun k' hk'=>?_
 simp
 apply hk'
 refine Runs.seq ?_
 refine Runs.seqE Ty_ok (by decide) fun k' hk'=>?_
 simp
 apply hk'
 refine Runs.ite rfl (fun hc1=>?_) (fun hc1=>?_)
 ·simp at hc1;omega
 clear hc1 hk'
 refine Runs.skip ?_
 refine Runs.seqE Ty_ok (by decide) fun k' hk'=>?_
 simp
 have hw:IntKind.u64.wrap (N:Int)=N:=by simp[IntKind.wrap,IntKind.bits,IntKind.signed];omega
 have hw1:IntKind.u64.wrap 1=1:=by simp[IntKind.wrap,IntKind.bits,IntKind.signed]
 have hwi:IntKind.i64.wrap (N:Int)=N:=wrap64 (by omega) (by omega)
 refine RunK.callA Ty_ok (bitsMul_ok 1 N (by omega) (by omega)) e198 (.cons (.v _ _ _) (.cons (.v _ _ _) .nil)) (by decide) (by decide) rfl (by simp[hw,hw1]) ?_
 rintro _ rfl
 have hd:(N:Int) / 18446744073709551616=0:=by omega
 have hm:(N:Int) % 18446744073709551616=N:=by omega
 simp[hd,hm]
 apply hk'
 refine Runs.seq ?_
 refine Runs.seqE Ty_ok (by decide) fun k' hk'=>?_
 simp
 apply hk'
 refine Runs.ite rfl (fun hc1=>?_) (fun hc1=>?_)
 ·simp at hc1;omega
 clear hc1 hk' hw1 hd hm
 refine Runs.skip ?_
 refine Runs.seqE Ty_ok (by decide) fun k' hk'=>?_
 simp[hwi,show (N:Int)≤1073741824 by omega]
 apply hk'
 refine Runs.cut (fun ρ H n=>ρ 0 = .list false [intC v]∧ρ 7 = .arr (0,30) N 0 N∧H (0,30)=some ⟨1,(List.replicate N (0:Int)).map intC⟩∧n=1) (by simp[intC]) ?_
 clear hk' hw hwi
 rintro ρ H _ ⟨h0,h7,hH,rfl⟩
 refine Runs.seqE Ty_ok (by decide) fun k' hk'=>?_
 simp[h0,h7]
 refine RunK.op Ty_ok (by decide) (by decide) rfl (OpSem.copy1 (id:=(0,30)) (g0:=N) (off:=0) (len:=N) (o:=⟨1,(List.replicate N (0:Int)).map intC⟩) (els:=[v].map intC) Ty_ok kd_24 rfl (by simp[h7]) (by simp[live,hH]) rfl (by simp[srcOf,h0]) (by simp[intC]) (by simp[intC])) ?_
 rintro _ H' n' ⟨rfl,rfl,rfl⟩
 simp
 apply hk'
 refine Runs.cut (fun ρ H n=>∃ m:Nat,ρ 7 = .arr (0,30) N 0 N∧ρ 8=int m∧m≤N∧(m=0→N=0)∧H (0,30)=some ⟨1,(List.replicate m v++List.replicate (N - m) (0:Int)).map intC⟩∧n=1) ⟨min 1 N,by simp[h7],by simp,by omega,by omega,?_,rfl⟩ ?_
 ·have hc:copied (List.replicate N (intC 0)) [intC v] 0 N=(List.replicate (min 1 N) v++List.replicate (N - min 1 N) (0:Int)).map intC:=by
   rcases Nat.eq_zero_or_pos N with h1 | h1
   ·subst h1;simp[copied]
   ·rw[show min 1 N=1 by omega];simp[copied,show min 1 N=1 by omega]
  simp[hc]
 clear hk' h0 h7 hH
 rintro ρ H _ ⟨m,h7,h8,hm,hm0,hH,rfl⟩
 refine Runs.seq ?_
 refine Runs.block (Runs.loopM (fun q ρ H n=>∃ m:Nat,q=N - m∧ρ 7 = .arr (0,30) N 0 N∧ρ 8=int m∧m≤N∧(m=0→N=0)∧H (0,30)=some ⟨1,(List.replicate m v++List.replicate (N - m) (0:Int)).map intC⟩∧n=1) (N - m) ⟨m,rfl,h7,h8,hm,hm0,hH,rfl⟩ ?_)
 clear h7 h8 hm hm0 hH
 rintro q ρ H _ ⟨m,rfl,h7,h8,hm,hm0,hH,rfl⟩ IH
 refine Runs.seq ?_
 refine Runs.seqE Ty_ok (by decide) fun k' hk'=>?_
 have hlen:((List.replicate m v++List.replicate (N - m) (0:Int)).map intC).length=N:=by simp;omega
 generalize hels:(List.replicate m v++List.replicate (N - m) (0:Int)).map intC=els at hH hlen
 simp[h7,h8,live,hH,hlen]
 apply hk'
 refine Runs.ite rfl (fun hc1=>?_) (fun hc1=>?_)
 ·have hc1:m<N:=by simpa using hc1
  refine Runs.skip ?_
  refine Runs.block ?_
  refine Runs.evalDE Ty_ok kindOp_ok draws (by decide) (by kernel_rfl) fun k' hk'=>?_
  simp[h7,h8,live,hH,hlen,hm]
  have hmm:((m:Int)+(min m (N - m):Nat))=((m+min m (N - m):Nat):Int):=by omega
  refine RunDK.op Ty_ok kindOp_ok (v:=int (min m (N - m):Nat)) (H':=H.set (0,30) ⟨1,(List.replicate (m+min m (N - m)) v++List.replicate (N - (m+min m (N - m))) (0:Int)).map intC⟩) (n':=1) rfl (by decide) (fun h=>by cases h) ?_ ?_
  ·have e2:=copied_rep (v:=v) (N:=N) (m:=m) hm
   rw[hels] at e2
   exact OpSem.copy1' (id:=(0,30)) (g0:=N) (off:=m) (len:=N - m) (o:=⟨1,els⟩) (els:=(List.replicate m v).map intC) Ty_ok kd_24 rfl (by rw[loc_ev (by simp[Op.operands,Call.operands])];simp) (by simp[live,hH,hlen]) rfl
    (by rw[loc_ev (by simp[Op.operands,Call.operands])];simp[srcOf,live,hH,← hels,List.take_append,show m+(N - m)=N by omega]) (by simp[intC]) (by simp[intC]) (by simp) e2
  have hwr:IntKind.i64.wrap ((m:Int)+(min m (N - m):Nat))=((m+min m (N - m):Nat):Int):=by rw[hmm];exact wrap64 (by omega) (by omega)
  have hz1:0<min m (N - m):=by omega
  have hz2:m+min m (N - m)≤N:=by omega
  generalize hq:m+min m (N - m)=q at hwr hz2
  generalize min m (N - m)=z at hq hwr hz1
  simp[hwr]
  apply hk'
  refine Runs.inBlock ?_
  exact IH (N - q) _ _ _ (by omega) ⟨q,rfl,by simp[h7],by simp,hz2,by omega,by simp,rfl⟩
 ·have hc1:¬ m<N:=by simpa using hc1
  refine Runs.exit rfl ?_
  refine Runs.seqE Ty_ok (by decide) fun k' hk'=>?_
  simp[h7]
  apply hk'
  have hmN:m=N:=by omega
  subst hmN
  simp at hels
  exact Runs.ret1 (v:=.arr (0,30) m 0 m) Tryz.func182 Tryz.results182 (by simp) (hQ _ _ _ _ (Sep.ofArr (els:=els) (by simp) hH hlen (by simp) (by simp) (by simp[← hels,intC]) (by simp)) (by simp[← hels]))
theorem repeatI_ok (l:List Int) (n:Int) (h:repeatI_pre l n):OwnS Tryz.prog 182 [.list false (l.map intC),int n] (.s [.c]) (fun r=>r = .list true ((repeatI l n).map intC)):=by
 obtain⟨h1,h2⟩:=h
 match l,h1 with
 | [v],_=>exact repeat_ok v n h2
end Go.Ab.Vg
/- Matches: pure conditions of the functions of program and reference. -/
namespace Go.Ab.Vg
set_option linter.unusedSimpArgs false
set_option linter.unusedVariables false
def hasI (l:List Int) (x:Int):Bool:=l.any fun y=>x == y
theorem hasI_iff {l:List Int} {x:Int}:hasI l x=true↔x ∈ l:=by simp[hasI]
theorem hasI_no {l:List Int} {x:Int}:hasI l x=false↔x ∉ l:=by rw[← hasI_iff];simp
def underF (b:Big) (nodes:List Int):Nat→Int→Bool
 | 0,_=>false
 | m+1,p=>if p<0 then false else if p ∈ nodes then true else underF b nodes m (at' b.nodes p).parent
def underB (b:Big) (nodes:List Int) (p:Int):Bool:=underF b nodes (p+1).toNat p
theorem underF_fuel {b:Big} (hd:∀ i:Int,0≤i→i<b.nodes.length→(at' b.nodes i).parent<i) (nodes:List Int):∀ (m m':Nat) (p:Int),p<b.nodes.length→p+1≤m→p+1≤m'→underF b nodes m p=underF b nodes m' p
 | 0,0,_,_,_,_=>rfl
 | 0,m'+1,p,_,h,_=>by rw[underF,underF,if_pos (by omega)]
 | m+1,0,p,_,_,h=>by rw[underF,underF,if_pos (by omega)]
 | m+1,m'+1,p,h,h1,h2=>by
  rw[underF,underF]
  split
  ·rfl
  ·split
   ·rfl
   ·have:=hd p (by omega) h
    exact underF_fuel hd nodes m m' _ (by omega) (by omega) (by omega)
theorem underB_neg {b:Big} {nodes:List Int} {p:Int} (h:p<0):underB b nodes p=false:=by
 rw[underB,show (p+1).toNat=0 by omega];rfl
theorem underB_in {b:Big} {nodes:List Int} {p:Int} (h:0≤p) (hm:p ∈ nodes):underB b nodes p=true:=by
 rw[underB,show (p+1).toNat=p.toNat+1 by omega,underF,if_neg (by omega),if_pos hm]
theorem underB_up {b:Big} (hd:∀ i:Int,0≤i→i<b.nodes.length→(at' b.nodes i).parent<i) {nodes:List Int} {p:Int} (h:0≤p) (hl:p<b.nodes.length) (hm:p ∉ nodes):underB b nodes p=underB b nodes (at' b.nodes p).parent:=by
 have:=hd p h hl
 rw[underB,show (p+1).toNat=p.toNat+1 by omega,underF,if_neg (by omega),if_neg hm,underB]
 exact underF_fuel hd nodes _ _ _ (by omega) (by omega) (by omega)
abbrev DownB (b:Big):Prop:=b.nodes.length≤1048576∧∀ i:Int,0≤i→i<b.nodes.length→(at' b.nodes i).parent<i
theorem ValidB.downB {sig:Sig} {b:Big} (h:ValidB sig b):DownB b:=⟨by have:=h.len;omega,fun i h0 h1=>(h.parAt ⟨h0,h1⟩).2⟩
abbrev isUnder_pre (b:Big) (p:Int) (nodes:List Int):Prop:=DownB b∧p<b.nodes.length∧nodes.length≤1048576
abbrev isUnder (b:Big) (p:Int) (nodes:List Int):Bool:=underB b nodes p
def isUnder_wp (b:Big) (place:Int) (nodes:List Int) (Z:Bool→Prop):Prop:=
 loopW (σ:=Int) (fun placeV6 K9=>∀ c10:Bool,c10=decide (0≤placeV6)→((c10=true→(nodes.length≤1048576)∧∀ r13:Bool,r13=hasI nodes placeV6→((r13=true→Z true)∧(r13=false→(0≤placeV6∧placeV6<b.nodes.length)∧∀ x15:GNode,x15=at' b.nodes placeV6→K9 (x15.parent))))∧(c10=false→Z false))) (place)
theorem isUnder_vc (b:Big) (p:Int) (nodes:List Int) (h:isUnder_pre b p nodes):isUnder_wp b p nodes (fun y=>y=isUnder b p nodes):=by
 unfold isUnder_wp
 obtain⟨⟨hn,hd⟩,hp,hl⟩:=h
 simp only[forall_eq,decide_eq_true_eq,decide_eq_false_iff_not]
 refine loopW.byM (fun q=>q<b.nodes.length∧underB b nodes q=underB b nodes p) (fun q=>(q+1).toNat) ⟨hp,rfl⟩ ?_
 rintro q ⟨h1,h2⟩
 refine⟨fun h3=>⟨hl,fun h4=>?_,fun h4=>⟨⟨h3,h1⟩,⟨?_,?_⟩,?_⟩⟩,fun h3=>?_⟩
 ·rw[isUnder,← h2,underB_in h3 (hasI_iff.1 h4)]
 ·have:=hd q h3 h1;omega
 ·rw[← h2,underB_up hd h3 h1 (hasI_no.1 h4)]
 ·have:=hd q h3 h1;omega
 ·rw[isUnder,← h2,underB_neg (by omega)]
abbrev l8Inside_pre (b:Big) (m:Match) (p:Int):Prop:=DownB b∧p<b.nodes.length∧m.nodes.length≤1048576
abbrev l8Inside (b:Big) (m:Match) (p:Int):Bool:=underB b m.nodes p
def l8Inside_wp (agent:Big) (m:Match) (place:Int) (Z:Bool→Prop):Prop:=
 loopW (σ:=Int) (fun placeV7 K10=>∀ c11:Bool,c11=decide (0≤placeV7)→((c11=true→(m.nodes.length≤1048576)∧∀ r14:Bool,r14=hasI m.nodes placeV7→((r14=true→Z true)∧(r14=false→(0≤placeV7∧placeV7<agent.nodes.length)∧∀ x16:GNode,x16=at' agent.nodes placeV7→K10 (x16.parent))))∧(c11=false→Z false))) (place)
theorem l8Inside_vc (b:Big) (m:Match) (p:Int) (h:l8Inside_pre b m p):l8Inside_wp b m p (fun y=>y=l8Inside b m p):=by
 unfold l8Inside_wp
 obtain⟨⟨hn,hd⟩,hp,hl⟩:=h
 simp only[forall_eq,decide_eq_true_eq,decide_eq_false_iff_not]
 refine loopW.byM (fun q=>q<b.nodes.length∧underB b m.nodes q=underB b m.nodes p) (fun q=>(q+1).toNat) ⟨hp,rfl⟩ ?_
 rintro q ⟨h1,h2⟩
 refine⟨fun h3=>⟨hl,fun h4=>?_,fun h4=>⟨⟨h3,h1⟩,⟨?_,?_⟩,?_⟩⟩,fun h3=>?_⟩
 ·rw[l8Inside,← h2,underB_in h3 (hasI_iff.1 h4)]
 ·have:=hd q h3 h1;omega
 ·rw[← h2,underB_up hd h3 h1 (hasI_no.1 h4)]
 ·have:=hd q h3 h1;omega
 ·rw[l8Inside,← h2,underB_neg (by omega)]
def imgAt (agent:Big) (nodes:List Int) (p:Int × Int):Int:=at' (at' agent.nodes (at' nodes p.1)).links p.2
def firstOf (agent:Big) (nodes:List Int) (l:List (Int × Int)):Int:=match l with | [] => -1 | p::_=>imgAt agent nodes p
abbrev firstL (redex agent:Big) (nodes:List Int) (l:Int):Int:=firstOf agent nodes (portsB redex l)
def LinkOk (redex agent:Big) (nodes:List Int) (l:Int):Prop:=(∀ p ∈ portsB redex l,imgAt agent nodes p=firstL redex agent nodes l)∧(l<redex.edges→firstL redex agent nodes l<agent.edges∧(portsB agent (firstL redex agent nodes l)).length=(portsB redex l).length)
def LinksP (redex agent:Big) (nodes:List Int):Prop:=∀ l:Int,0≤l→l<redex.edges+redex.outer.length→LinkOk redex agent nodes l
open Classical in
noncomputable def linksR (redex agent:Big) (nodes:List Int):List Int × Bool:=
 if LinksP redex agent nodes then ((List.range (redex.edges+redex.outer.length).toNat).map fun l:Nat=>firstL redex agent nodes (l:Int),true) else ([],false)
def parentImg (redex:Big) (m:Match) (k:Int):Int:=if 0≤(at' redex.nodes k).parent then at' m.nodes (at' redex.nodes k).parent else at' m.roots (-1 - (at' redex.nodes k).parent)
def ImgOk (redex agent:Big) (m:Match) (k:Int):Prop:=
 (at' agent.nodes (at' m.nodes k)).control=(at' redex.nodes k).control∧(at' agent.nodes (at' m.nodes k)).parent=parentImg redex m k∧((holesB redex k).length=0→∀ c ∈ kidsB agent (at' m.nodes k),c ∈ m.nodes)
def NodesOk (redex agent:Big) (nodes:List Int):Prop:=nodes.length=redex.nodes.length∧∀ i:Nat,i<nodes.length→isNodeB agent (at' nodes (i:Int))=true∧at' nodes (i:Int) ∉ nodes.take i
def RootsOk (redex agent:Big) (m:Match):Prop:=(m.roots.length:Int)=redex.roots∧∀ p ∈ m.roots,-agent.roots≤p∧p<agent.nodes.length∧underB agent m.nodes p=false
def MatchP (redex agent:Big) (m:Match):Prop:=NodesOk redex agent m.nodes∧RootsOk redex agent m∧(∀ k:Nat,k<redex.nodes.length→ImgOk redex agent m (k:Int))∧LinksP redex agent m.nodes
open Classical in
noncomputable def matchB (redex agent:Big) (m:Match):Bool:=decide (MatchP redex agent m)
theorem matchB_iff {redex agent:Big} {m:Match}:matchB redex agent m=true↔MatchP redex agent m:=by simp[matchB]
theorem matchB_no {redex agent:Big} {m:Match} (h:¬ MatchP redex agent m):matchB redex agent m=false:=by simp[matchB,h]
abbrev MSz (m:Match):Prop:=m.nodes.length≤1048576∧m.roots.length≤1048576
structure Pair (sig:Sig) (redex agent:Big):Prop where
 r:ValidB sig redex
 a:ValidB sig agent
 red:RedexP redex
def areImages1_wp (c:Int) (v_:Match) (Z:Bool→Prop):Prop:=
 (v_.nodes.length≤1048576)∧∀ r3:Bool,r3=hasI v_.nodes c→Z (!r3)
abbrev areImages1 (c:Int) (m:Match):Bool := !(hasI m.nodes c)
abbrev areImages1_pre (c:Int) (m:Match):Prop:=m.nodes.length≤1048576
theorem areImages1_vc (c:Int) (m:Match) (h:areImages1_pre c m):areImages1_wp c m (fun y=>y=areImages1 c m):=by
 unfold areImages1_wp
 exact⟨h,by rintro _ rfl;rfl⟩
def ImgsOk (redex agent:Big) (m:Match):Prop:=∀ k:Nat,k<redex.nodes.length→ImgOk redex agent m (k:Int)
open Classical in
noncomputable def areImages (redex agent:Big) (m:Match):Bool:=decide (ImgsOk redex agent m)
theorem areImages_no {redex agent:Big} {m:Match} (h:¬ ImgsOk redex agent m):areImages redex agent m=false:=by simp[areImages,h]
theorem areImages_yes {redex agent:Big} {m:Match} (h:ImgsOk redex agent m):areImages redex agent m=true:=by simp[areImages,h]
theorem areImages_iff {redex agent:Big} {m:Match}:areImages redex agent m=true↔ImgsOk redex agent m:=by simp[areImages]
abbrev InNodes (agent:Big) (nodes:List Int) (n:Nat):Prop:=nodes.length=n∧∀ i:Nat,i<nodes.length→0≤at' nodes (i:Int)∧at' nodes (i:Int)<agent.nodes.length
abbrev areImages_pre (redex agent:Big) (m:Match):Prop:=(∃ sig,Pair sig redex agent)∧InNodes agent m.nodes redex.nodes.length∧(m.roots.length:Int)=redex.roots
def areImages_wp (redex:Big) (agent:Big) (m:Match) (Z:Bool→Prop):Prop:=
 ∀ len6:Int,len6=(redex.nodes.length:Int)→loopW (σ:=Int) (fun v10 K13=>∀ c14:Bool,c14=decide (v10<len6)→((c14=true→(0≤v10∧v10<redex.nodes.length)∧∀ x17:GNode,x17=at' redex.nodes v10→(0≤v10∧v10<m.nodes.length)∧∀ x22:Int,x22=at' m.nodes v10→(0≤x22∧x22<agent.nodes.length)∧∀ x25:GNode,x25=at' agent.nodes x22→∀ c29:Bool,c29=decide (0≤x17.parent)→((c29=true→(0≤x17.parent∧x17.parent<m.nodes.length)∧∀ x32:Int,x32=at' m.nodes x17.parent→joinW (fun (J34:Bool→Prop)=>∀ c60:Bool,c60=decide (x25.control ≠ x17.control)→((c60=true→J34 (true))∧(c60=false→∀ c62:Bool,c62=decide (x25.parent ≠ x32)→J34 (c62)))) (fun b37=>((b37=true→Z false)∧(b37=false→(childrenOf_pre redex v10)∧∀ r41:(List Int) × (List Int),r41=childrenOf redex v10→∀ len42:Int,len42=(r41.2.length:Int)→∀ c44:Bool,c44=decide (0<len42)→((c44=true→(I64 (v10+1))∧∀ v47:Int,v47=v10+1→K13 (v47))∧(c44=false→(0≤v10∧v10<m.nodes.length)∧∀ x50:Int,x50=at' m.nodes v10→(childrenOf_pre agent x50)∧∀ r53:(List Int) × (List Int),r53=childrenOf agent x50→(r53.1.length≤1048576∧∀ z ∈ r53.1,areImages1_pre z m)∧∀ r56:Bool,r56=r53.1.any (fun z=>areImages1 z m)→((r56=true→Z false)∧(r56=false→(I64 (v10+1))∧∀ v58:Int,v58=v10+1→K13 (v58)))))))))∧(c29=false→(I64 ((-1) - x17.parent))∧∀ v65:Int,v65=(-1) - x17.parent→(0≤v65∧v65<m.roots.length)∧∀ x68:Int,x68=at' m.roots v65→joinW (fun (J70:Bool→Prop)=>∀ c96:Bool,c96=decide (x25.control ≠ x17.control)→((c96=true→J70 (true))∧(c96=false→∀ c98:Bool,c98=decide (x25.parent ≠ x68)→J70 (c98)))) (fun b73=>((b73=true→Z false)∧(b73=false→(childrenOf_pre redex v10)∧∀ r77:(List Int) × (List Int),r77=childrenOf redex v10→∀ len78:Int,len78=(r77.2.length:Int)→∀ c80:Bool,c80=decide (0<len78)→((c80=true→(I64 (v10+1))∧∀ v83:Int,v83=v10+1→K13 (v83))∧(c80=false→(0≤v10∧v10<m.nodes.length)∧∀ x86:Int,x86=at' m.nodes v10→(childrenOf_pre agent x86)∧∀ r89:(List Int) × (List Int),r89=childrenOf agent x86→(r89.1.length≤1048576∧∀ z ∈ r89.1,areImages1_pre z m)∧∀ r92:Bool,r92=r89.1.any (fun z=>areImages1 z m)→((r92=true→Z false)∧(r92=false→(I64 (v10+1))∧∀ v94:Int,v94=v10+1→K13 (v94)))))))))))∧(c14=false→Z true))) (0)
theorem areImages_vc (redex agent:Big) (m:Match) (h:areImages_pre redex agent m):areImages_wp redex agent m (fun y=>y=areImages redex agent m):=by
 unfold areImages_wp
 obtain⟨⟨sig,hP⟩,⟨hlen,hin⟩,hroots⟩:=h
 have hr8:=hP.r.len
 have ha8:=hP.a.len
 have hrr:=hP.r.roots
 have hcr:childrenOf_pre redex 0:=⟨by omega,by have:=hP.r.slen;omega⟩
 have hca:childrenOf_pre agent 0:=⟨by omega,by have:=hP.a.slen;omega⟩
 simp only[forall_eq,decide_eq_true_eq,decide_eq_false_iff_not]
 refine loopW.up1 redex.nodes.length (fun k=>∀ j:Nat,j<k→ImgOk redex agent m j) (fun j hj=>by omega) ?_
 rintro k K hk hI IH
 refine⟨fun hc=>?_,fun hc=>(areImages_yes fun j hj=>hI j (by omega)).symm⟩
 have hk1:k<redex.nodes.length:=by omega
 have hpar:=hP.r.parAt (i:=k) ⟨by omega,by omega⟩
 have him:=hin k (by omega)
 have hkl:(kidsB agent (at' m.nodes (k:Int))).length≤agent.nodes.length:=idxs_len _ _ _
 have hnext:ImgOk redex agent m k→∀ j:Nat,j<k+1→ImgOk redex agent m j:=fun h j hj=>by
  rcases Nat.lt_or_ge j k with h1 | h1
  ·exact hI j h1
  ·rw[show j=k by omega];exact h
 refine⟨by omega,by omega,him,fun h1=>⟨by omega,?_⟩,fun h1=>⟨by simp only[I64];omega,by omega,?_⟩⟩
 ·have hx:at' m.nodes (at' redex.nodes (k:Int)).parent=parentImg redex m k:=by rw[parentImg,if_pos h1]
  generalize at' m.nodes (at' redex.nodes (k:Int)).parent=x at hx ⊢
  refine⟨fun c=>c=true↔¬ ((at' agent.nodes (at' m.nodes (k:Int))).control=(at' redex.nodes (k:Int)).control∧(at' agent.nodes (at' m.nodes (k:Int))).parent=x),⟨fun h2=>iff_of_true rfl (fun h3=>h2 h3.1),fun h2=>by simp only[decide_eq_true_eq];exact⟨fun h3 h4=>h3 h4.2,fun h3 h4=>h3 ⟨Classical.not_not.1 h2,h4⟩⟩⟩,fun c hc=>⟨fun h3=>(areImages_no fun hA=>?_).symm,fun h3=>?_⟩⟩
  ·have:=hA k hk1
   exact hc.1 h3 ⟨this.1,by rw[hx];exact this.2.1⟩
  have hcp:=Classical.not_not.1 (fun h=>by rw[hc.2 h] at h3;cases h3)
  refine⟨hcr,fun h4=>⟨by simp only[I64];omega,IH hk1 fun j hj=>hnext ⟨hcp.1,by rw[← hx];exact hcp.2,fun h0=>by omega⟩ j hj⟩,fun h4=>⟨by omega,hca,⟨by omega,fun z _=>by simp only[areImages1_pre];omega⟩,fun h5=>(areImages_no fun hA=>?_).symm,fun h5=>⟨by simp only[I64];omega,IH hk1 fun j hj=>hnext ⟨hcp.1,by rw[← hx];exact hcp.2,fun _ c hcm=>?_⟩ j hj⟩⟩⟩
  ·obtain⟨z,hz,hz2⟩:=List.any_eq_true.1 h5
   have:=(hA k hk1).2.2 (by omega) z hz
   rw[areImages1,hasI_iff.2 this] at hz2
   cases hz2
  ·have:=List.any_eq_false.1 h5 c hcm
   rw[areImages1] at this
   simpa using hasI_iff.1 (by simpa using this)
 ·have hx:at' m.roots (-1 - (at' redex.nodes (k:Int)).parent)=parentImg redex m k:=by rw[parentImg,if_neg h1]
  generalize at' m.roots (-1 - (at' redex.nodes (k:Int)).parent)=x at hx ⊢
  refine⟨fun c=>c=true↔¬ ((at' agent.nodes (at' m.nodes (k:Int))).control=(at' redex.nodes (k:Int)).control∧(at' agent.nodes (at' m.nodes (k:Int))).parent=x),⟨fun h2=>iff_of_true rfl (fun h3=>h2 h3.1),fun h2=>by simp only[decide_eq_true_eq];exact⟨fun h3 h4=>h3 h4.2,fun h3 h4=>h3 ⟨Classical.not_not.1 h2,h4⟩⟩⟩,fun c hc=>⟨fun h3=>(areImages_no fun hA=>?_).symm,fun h3=>?_⟩⟩
  ·have:=hA k hk1
   exact hc.1 h3 ⟨this.1,by rw[hx];exact this.2.1⟩
  have hcp:=Classical.not_not.1 (fun h=>by rw[hc.2 h] at h3;cases h3)
  refine⟨hcr,fun h4=>⟨by simp only[I64];omega,IH hk1 fun j hj=>hnext ⟨hcp.1,by rw[← hx];exact hcp.2,fun h0=>by omega⟩ j hj⟩,fun h4=>⟨by omega,hca,⟨by omega,fun z _=>by simp only[areImages1_pre];omega⟩,fun h5=>(areImages_no fun hA=>?_).symm,fun h5=>⟨by simp only[I64];omega,IH hk1 fun j hj=>hnext ⟨hcp.1,by rw[← hx];exact hcp.2,fun _ c hcm=>?_⟩ j hj⟩⟩⟩
  ·obtain⟨z,hz,hz2⟩:=List.any_eq_true.1 h5
   have:=(hA k hk1).2.2 (by omega) z hz
   rw[areImages1,hasI_iff.2 this] at hz2
   cases hz2
  ·have:=List.any_eq_false.1 h5 c hcm
   rw[areImages1] at this
   simpa using hasI_iff.1 (by simpa using this)
theorem idxs_prefix {α:Type} [Inhabited α] (l:List α) (p:α→Bool) {k k':Nat} (h:k≤k'):idxs l p k <+: idxs l p k':=by
 induction h with
 | refl=>exact List.prefix_refl _
 | @step q _ ih=>
  refine ih.trans ?_
  rcases Bool.eq_false_or_eq_true (p (at' l (q:Int))) with h | h
  ·rw[idxs_yes _ _ h];exact List.prefix_append _ _
  ·rw[idxs_no _ _ h];exact List.prefix_refl _
theorem rowP_prefix (b:Big) (l:Int) (i:Nat) {k k':Nat} (h:k≤k'):rowP b l i k <+: rowP b l i k':=List.IsPrefix.map _ (idxs_prefix _ _ h)
theorem portsTo_prefix (b:Big) (l:Int) {i i':Nat} (h:i≤i'):portsTo b l i <+: portsTo b l i':=by
 induction h with
 | refl=>exact List.prefix_refl _
 | step _ ih=>exact ih.trans (by rw[portsTo_succ];exact List.prefix_append _ _)
def ptTo (b:Big) (l:Int) (i k:Nat):List (Int × Int):=portsTo b l i++rowP b l i k
theorem ptTo_prefix {b:Big} (l:Int) {i k:Nat} (hi:i<b.nodes.length) (hk:k≤(at' b.nodes (i:Int)).links.length):ptTo b l i k <+: portsB b l:=by
 have h1:ptTo b l i k <+: portsTo b l (i+1):=by
  rw[ptTo,portsTo_succ]
  exact (List.prefix_append_right_inj _).2 (rowP_prefix _ _ _ hk)
 exact h1.trans (portsTo_prefix _ _ (by omega))
theorem firstOf_prefix {agent:Big} {nodes:List Int} {P Q:List (Int × Int)} (h:P <+: Q) (hne:P ≠ []):firstOf agent nodes P=firstOf agent nodes Q:=by
 obtain⟨t,rfl⟩:=h
 cases P with
 | nil=>exact absurd rfl hne
 | cons a P=>rfl
theorem firstOf_snoc {agent:Big} {nodes:List Int} (P:List (Int × Int)) (p:Int × Int):firstOf agent nodes (P++[p])=if P=[] then imgAt agent nodes p else firstOf agent nodes P:=by
 cases P<;>simp[firstOf]
theorem linksR_no {redex agent:Big} {nodes:List Int} (h:¬ LinksP redex agent nodes):linksR redex agent nodes=([],false):=by rw[linksR,if_neg h]
theorem linksR_yes {redex agent:Big} {nodes:List Int} (h:LinksP redex agent nodes):linksR redex agent nodes=((List.range (redex.edges+redex.outer.length).toNat).map fun l:Nat=>firstL redex agent nodes (l:Int),true):=by rw[linksR,if_pos h]
def outTo (redex agent:Big) (nodes:List Int) (i k:Nat):List Int:=(List.range (redex.edges+redex.outer.length).toNat).map fun l:Nat=>firstOf agent nodes (ptTo redex (l:Int) i k)
theorem outTo_at {redex agent:Big} {nodes:List Int} {i k:Nat} {l:Int} (h0:0≤l) (h:l<redex.edges+redex.outer.length):at' (outTo redex agent nodes i k) l=firstOf agent nodes (ptTo redex l i k):=by
 obtain⟨q,rfl⟩:∃ q:Nat,l=q:=⟨l.toNat,by omega⟩
 rw[at_lt (by simp[outTo];omega)]
 simp[outTo]
theorem outTo_len (redex agent:Big) (nodes:List Int) (i k:Nat):(outTo redex agent nodes i k).length=(redex.edges+redex.outer.length).toNat:=by simp[outTo]
theorem outTo_set {redex agent:Big} {nodes:List Int} {i k:Nat} {l:Int} (h0:0≤l) (hl:at' (at' redex.nodes (i:Int)).links (k:Int)=l) (hx:ptTo redex l i k=[]∨imgAt agent nodes ((i:Int),(k:Int))=firstOf agent nodes (ptTo redex l i k)) :
  (outTo redex agent nodes i k).set l.toNat (imgAt agent nodes ((i:Int),(k:Int)))=outTo redex agent nodes i (k+1):=by
 refine List.ext_getElem (by simp[outTo]) fun q h1 h2=>?_
 simp only[outTo,List.getElem_set,List.getElem_map,List.getElem_range]
 split
 ·rename_i hq
  have hq2:((q:Nat):Int)=l:=by omega
  rw[hq2,ptTo,rowP_yes hl,← List.append_assoc,firstOf_snoc]
  split
  ·rfl
  ·rename_i hne
   exact hx.resolve_left hne
 ·rename_i hq
  rw[ptTo,ptTo,rowP_no (by rw[hl];omega)]
theorem ptTo_next (b:Big) (l:Int) (i:Nat):ptTo b l i (at' b.nodes (i:Int)).links.length=ptTo b l (i+1) 0:=by simp[ptTo,portsTo_succ,rowP_zero]
theorem ptTo_end (b:Big) (l:Int):ptTo b l b.nodes.length 0=portsB b l:=by simp[ptTo,portsB,rowP_zero]
theorem ptTo_zero (b:Big) (l:Int):ptTo b l 0 0=[]:=by simp[ptTo,portsTo,rowP_zero]
abbrev matchLinks_pre (redex agent:Big) (nodes:List Int):Prop:=(∃ sig,Pair sig redex agent)∧InNodes agent nodes redex.nodes.length∧∀ k:Nat,k<redex.nodes.length→(at' agent.nodes (at' nodes (k:Int))).control=(at' redex.nodes (k:Int)).control
theorem img_in {redex agent:Big} {nodes:List Int} (h:matchLinks_pre redex agent nodes) {l:Int} {p:Int × Int} (hp:p ∈ portsB redex l) :
  (0≤p.1∧p.1<nodes.length)∧(0≤at' nodes p.1∧at' nodes p.1<agent.nodes.length)∧(0≤p.2∧p.2<(at' agent.nodes (at' nodes p.1)).links.length)∧0≤imgAt agent nodes p:=by
 obtain⟨⟨sig,hP⟩,⟨hlen,hin⟩,hctl⟩:=h
 obtain⟨j,hj,h1,h2,h3,_⟩:=mem_portsTo.1 hp
 have hi:=hin j (by omega)
 have e1:=hP.r.portsAt (i:=j) ⟨by omega,by omega⟩
 have e2:=hP.a.portsAt hi
 rw[hctl j hj] at e2
 have h4:p.2<(at' agent.nodes (at' nodes p.1)).links.length:=by rw[h1];omega
 rw[← h1] at hi
 exact⟨by omega,hi,⟨h2,h4⟩,(hP.a.linksAt hi _ (at_mem ⟨h2,h4⟩)).1⟩
noncomputable abbrev matchLinks (redex agent:Big) (nodes:List Int):=linksR redex agent nodes
def matchLinks_wp (redex:Big) (agent:Big) (nodes:List Int) (Z:((List Int) × Bool)→Prop):Prop:=
 ∀ len5:Int,len5=(redex.outer.length:Int)→(I64 (redex.edges+len5))∧∀ v8:Int,v8=redex.edges+len5→(repeatI_pre [(-1)] v8)∧∀ r11:List Int,r11=repeatI [(-1)] v8→∀ len21:Int,len21=(redex.nodes.length:Int)→loopW (σ:=Int × (List Int)) (fun (v30,l31) K35=>∀ c36:Bool,c36=decide (v30<len21)→((c36=true→(0≤v30∧v30<redex.nodes.length)∧∀ x39:GNode,x39=at' redex.nodes v30→∀ len44:Int,len44=(x39.links.length:Int)→loopW (σ:=Int × (List Int)) (fun (v53,l54) K58=>∀ c59:Bool,c59=decide (v53<len44)→((c59=true→(0≤v53∧v53<x39.links.length)∧∀ x62:Int,x62=at' x39.links v53→(0≤v30∧v30<nodes.length)∧∀ x65:Int,x65=at' nodes v30→(0≤x65∧x65<agent.nodes.length)∧∀ x68:GNode,x68=at' agent.nodes x65→(0≤v53∧v53<x68.links.length)∧∀ x71:Int,x71=at' x68.links v53→joinW (fun (J75:Bool→Prop)=>(0≤x62∧x62<l54.length)∧∀ x106:Int,x106=at' l54 x62→∀ c109:Bool,c109=decide (0≤x106)→((c109=true→(0≤x62∧x62<l54.length)∧∀ x112:Int,x112=at' l54 x62→∀ c116:Bool,c116=decide (x106 ≠ x71)→J75 (c116))∧(c109=false→J75 (false)))) (fun b78=>((b78=true→Z ([],false))∧(b78=false→(0≤x62∧x62<l54.length)∧∀ x89:Int,x89=at' l54 x62→∀ l92:List Int,l92=l54.set x62.toNat x71→(I64 (v53+1))∧∀ v99:Int,v99=v53+1→K58 (v99,l92)))))∧(c59=false→(I64 (v30+1))∧∀ v119:Int,v119=v30+1→K35 (v119,l54)))) (0,l31))∧(c36=false→loopW (σ:=Int) (fun v124 K128=>∀ c129:Bool,c129=decide (v124<redex.edges)→((c129=true→(pointsOf_pre redex v124)∧∀ r132:(List (Int × Int)) × (List Str),r132=pointsOf redex v124→(0≤v124∧v124<l31.length)∧∀ x153:Int,x153=at' l31 v124→(pointsOf_pre agent x153)∧∀ r157:(List (Int × Int)) × (List Str),r157=pointsOf agent x153→joinW (fun (J158:Bool→Prop)=>(0≤v124∧v124<l31.length)∧∀ x171:Int,x171=at' l31 v124→∀ c175:Bool,c175=decide (agent.edges≤x153)→((c175=true→J158 (true))∧(c175=false→∀ len177:Int,len177=(r157.1.length:Int)→∀ len179:Int,len179=(r132.1.length:Int)→∀ c181:Bool,c181=decide (len177 ≠ len179)→J158 (c181)))) (fun b161=>((b161=true→Z ([],false))∧(b161=false→(I64 (v124+1))∧∀ v168:Int,v168=v124+1→K128 (v168)))))∧(c129=false→Z (l31,true)))) (0)))) (0,r11)
theorem matchLinks_vc (redex agent:Big) (nodes:List Int) (h:matchLinks_pre redex agent nodes):matchLinks_wp redex agent nodes (fun y=>y=matchLinks redex agent nodes):=by
 unfold matchLinks_wp
 have hpre:=h
 obtain⟨⟨sig,hP⟩,⟨hlen,hin⟩,hctl⟩:=h
 have hE:=hP.r.edges
 have hO:=hP.r.outer
 have hr8:=hP.r.len
 have hLr:=hP.r.linkSz
 have hLa:=hP.a.linkSz
 simp only[forall_eq,decide_eq_true_eq,decide_eq_false_iff_not,pointsOf]
 have h0:repeatI [(-1)] (redex.edges+redex.outer.length)=outTo redex agent nodes 0 0:=by
  simp only[repeatI,outTo,ptTo_zero,firstOf,List.headD_cons]
  refine List.ext_getElem (by simp) fun q h1 h2=>by simp
 rw[h0]
 refine⟨by simp only[I64];omega,⟨rfl,by omega,by omega⟩,?_⟩
 refine loopW.upL redex.nodes.length (fun i out=>out=outTo redex agent nodes i 0∧∀ l,∀ p ∈ ptTo redex l i 0,imgAt agent nodes p=firstOf agent nodes (ptTo redex l i 0)) _ ⟨rfl,fun l p hp=>by rw[ptTo_zero] at hp;cases hp⟩ ?_
 rintro i out K hi ⟨rfl,hg⟩ IH
 dsimp only
 refine⟨fun hc=>?_,fun hc=>?_⟩
 ·have hi1:i<redex.nodes.length:=by omega
  refine⟨by omega,loopW.upL (at' redex.nodes (i:Int)).links.length (fun k out=>out=outTo redex agent nodes i k∧∀ l,∀ p ∈ ptTo redex l i k,imgAt agent nodes p=firstOf agent nodes (ptTo redex l i k)) _ ⟨rfl,hg⟩ ?_⟩
  rintro k out K2 hk ⟨rfl,hg2⟩ IH2
  dsimp only
  have hll:=hLr.2.1 i hi1
  refine⟨fun hc2=>?_,fun hc2=>⟨by simp only[I64];omega,IH hi1 _ ⟨?_,?_⟩⟩⟩
  ·have hk1:k<(at' redex.nodes (i:Int)).links.length:=by omega
   obtain⟨l0,hl0⟩:∃ l0,at' (at' redex.nodes (i:Int)).links (k:Int)=l0:=⟨_,rfl⟩
   have hl:=hP.r.linksAt (i:=i) ⟨by omega,by omega⟩ _ (at_mem (l:=(at' redex.nodes (i:Int)).links) (i:=(k:Int)) ⟨by omega,by omega⟩)
   rw[hl0] at hl ⊢
   have hpf:=ptTo_prefix (b:=redex) l0 hi1 (k:=k+1) (by omega)
   have hsn:ptTo redex l0 i (k+1)=ptTo redex l0 i k++[((i:Int),(k:Int))]:=by rw[ptTo,rowP_yes hl0,← List.append_assoc];rfl
   have hmem:((i:Int),(k:Int)) ∈ portsB redex l0:=hpf.subset (by rw[hsn];simp)
   obtain⟨q1,q2,q3,q4⟩:=img_in hpre hmem
   have hpk:=ptTo_prefix (b:=redex) l0 hi1 (k:=k) (by omega)
   have hown:at' (at' agent.nodes (at' nodes (i:Int))).links (k:Int)=imgAt agent nodes ((i:Int),(k:Int)):=rfl
   rw[hown]
   have hol:=outTo_len redex agent nodes i k
   refine⟨by omega,q1,q2,q3,fun c=>c=true↔(0≤firstOf agent nodes (ptTo redex l0 i k)∧firstOf agent nodes (ptTo redex l0 i k) ≠ imgAt agent nodes ((i:Int),(k:Int))),?_,fun c hJ=>⟨fun h1=>?_,fun h1=>⟨by omega,by simp only[I64];omega,?_⟩⟩⟩
   ·rw[outTo_at hl.1 hl.2]
    refine⟨by omega,fun h1=>⟨by omega,by simp only[decide_eq_true_eq];exact⟨fun h2=>⟨h1,h2⟩,fun h2=>h2.2⟩⟩,fun h1=>iff_of_false (by simp) fun h2=>h1 h2.1⟩
   ·obtain⟨h2,h3⟩:=hJ.1 h1
    refine (linksR_no fun hL=>?_).symm
    have hne:ptTo redex l0 i k ≠ []:=fun h=>by rw[h] at h2;simp[firstOf] at h2
    rw[firstOf_prefix hpk hne] at h3
    exact h3 ((hL l0 hl.1 hl.2).1 _ hmem).symm
   ·have hx:ptTo redex l0 i k=[]∨imgAt agent nodes ((i:Int),(k:Int))=firstOf agent nodes (ptTo redex l0 i k):=by
     by_cases hne:ptTo redex l0 i k=[]
     ·exact .inl hne
     ·refine .inr (Classical.byContradiction fun h2=>?_)
      have:0≤firstOf agent nodes (ptTo redex l0 i k):=by
       cases hq:ptTo redex l0 i k with
       | nil=>exact absurd hq hne
       | cons a P=>exact (img_in hpre (hpk.subset (by rw[hq];simp):a ∈ portsB redex l0)).2.2.2
      rw[hJ.2 ⟨this,fun h=>h2 h.symm⟩] at h1
      cases h1
    rw[outTo_set hl.1 hl0 hx]
    refine IH2 hk1 _ ⟨rfl,fun l p hp=>?_⟩
    by_cases hll0:l=l0
    ·subst hll0
     rw[hsn] at hp ⊢
     rw[firstOf_snoc]
     rcases List.mem_append.1 hp with hp | hp
     ·rw[if_neg (fun h=>by rw[h] at hp;cases hp)]
      exact hg2 _ p hp
     ·simp only[List.mem_singleton] at hp
      subst hp
      split
      ·rfl
      ·rename_i hne
       exact hx.resolve_left hne
    ·have hno:ptTo redex l i (k+1)=ptTo redex l i k:=by rw[ptTo,rowP_no (by rw[hl0];exact fun h=>hll0 h.symm)];rfl
     rw[hno] at hp ⊢
     exact hg2 l p hp
  ·rw[show k=(at' redex.nodes (i:Int)).links.length by omega]
   simp only[outTo,ptTo_next]
  ·rw[show k=(at' redex.nodes (i:Int)).links.length by omega] at hg2
   simp only[ptTo_next] at hg2
   exact hg2
 ·have hie:i=redex.nodes.length:=by omega
  subst hie
  simp only[ptTo_end] at hg
  have hol:=outTo_len redex agent nodes redex.nodes.length 0
  have hfl:∀ l,0≤l→l<redex.edges+redex.outer.length→at' (outTo redex agent nodes redex.nodes.length 0) l=firstL redex agent nodes l:=fun l h1 h2=>by rw[outTo_at h1 h2,ptTo_end]
  refine loopW.up1 redex.edges.toNat (fun q=>∀ l,0≤l→l<(q:Int)→firstL redex agent nodes l<agent.edges∧(portsB agent (firstL redex agent nodes l)).length=(portsB redex l).length) (fun l h1 h2=>by omega) ?_
  rintro q K3 hq hI IH3
  refine⟨fun h1=>?_,fun h1=>?_⟩
  ·rw[hfl q (by omega) (by omega)]
   refine⟨hLr,by omega,hLa,fun c=>c=true↔¬ (firstL redex agent nodes q<agent.edges∧(portsB agent (firstL redex agent nodes q)).length=(portsB redex q).length),⟨by omega,fun h2=>iff_of_true rfl (by omega),fun h2=>by simp only[decide_eq_true_eq];omega⟩,fun c hJ=>⟨fun h2=>(linksR_no fun hL=>hJ.1 h2 ((hL q (by omega) (by omega)).2 h1)).symm,fun h2=>⟨by simp only[I64];omega,IH3 (by omega) fun l h3 h4=>?_⟩⟩⟩
   rcases Int.lt_or_le l q with h5 | h5
   ·exact hI l h3 h5
   ·rw[show l=q by omega]
    exact Classical.not_not.1 fun h=>by rw[hJ.2 h] at h2;cases h2
  ·have hL:LinksP redex agent nodes:=fun l h2 h3=>⟨fun p hp=>hg l p hp,fun h4=>hI l h2 (by omega)⟩
   rw[matchLinks,linksR_yes hL]
   simp only[outTo,ptTo_end]
def isMatch1_wp (p:Int) (v_:Big) (v_':Match) (Z:Bool→Prop):Prop:=
 joinW (fun (J2:Bool→Prop)=>(I64 (-v_.roots))∧∀ v9:Int,v9 = -v_.roots→∀ len11:Int,len11=(v_.nodes.length:Int)→(I64 (len11 - 1))∧∀ v14:Int,v14=len11 - 1→∀ r16:Bool,r16=within p v9 v14→((r16=true→(isUnder_pre v_ p v_'.nodes)∧∀ r18:Bool,r18=isUnder v_ p v_'.nodes→J2 (r18))∧(r16=false→J2 (true)))) (fun b5=>Z b5)
abbrev isMatch1 (p:Int) (agent:Big) (m:Match):Bool := !(within p (-agent.roots) (agent.nodes.length - 1)) || underB agent m.nodes p
abbrev isMatch1_pre (p:Int) (agent:Big) (m:Match):Prop:=DownB agent∧m.nodes.length≤1048576∧I64 (-agent.roots)
theorem isMatch1_vc (p:Int) (agent:Big) (m:Match) (h:isMatch1_pre p agent m):isMatch1_wp p agent m (fun y=>y=isMatch1 p agent m):=by
 unfold isMatch1_wp
 obtain⟨hd,hm,hr⟩:=h
 simp only[forall_eq]
 refine⟨fun c=>c=isMatch1 p agent m,⟨hr,by have:=hd.1;simp only[I64];omega,fun h1=>⟨?_,?_⟩,fun h1=>?_⟩,fun c h=>h⟩
 ·simp only[within,Bool.and_eq_true,decide_eq_true_eq] at h1
  exact⟨hd,by omega,hm⟩
 ·rw[isMatch1,h1];rfl
 ·rw[isMatch1,h1];rfl
noncomputable abbrev isMatch (redex agent:Big) (m:Match):Bool:=matchB redex agent m
abbrev isMatch_pre (redex agent:Big) (m:Match):Prop:=(∃ sig,Pair sig redex agent)∧MSz m
def isMatch_wp (redex:Big) (agent:Big) (m:Match) (Z:Bool→Prop):Prop:=
 joinW (fun (J6:Bool→Prop)=>∀ len48:Int,len48=(m.nodes.length:Int)→∀ len50:Int,len50=(redex.nodes.length:Int)→∀ c52:Bool,c52=decide (len48 ≠ len50)→((c52=true→J6 (true))∧(c52=false→∀ len54:Int,len54=(m.roots.length:Int)→∀ c56:Bool,c56=decide (len54 ≠ redex.roots)→J6 (c56)))) (fun b9=>((b9=true→Z false)∧(b9=false→∀ len12:Int,len12=(m.nodes.length:Int)→loopW (σ:=Int) (fun v16 K19=>∀ c20:Bool,c20=decide (v16<len12)→((c20=true→(0≤v16∧v16<m.nodes.length)∧∀ x23:Int,x23=at' m.nodes v16→joinW (fun (J25:Bool→Prop)=>(agent.nodes.length≤1048576)∧∀ r35:Bool,r35=isNodeB agent x23→((r35=true→((0:Int)≤0∧(0:Int)≤v16∧v16≤m.nodes.length)∧∀ l37:List Int,l37=(m.nodes.take v16.toNat).drop 0→(l37.length≤1048576)∧∀ r40:Bool,r40=hasI l37 x23→J25 (r40))∧(r35=false→J25 (true)))) (fun b28=>((b28=true→Z false)∧(b28=false→(I64 (v16+1))∧∀ v32:Int,v32=v16+1→K19 (v32)))))∧(c20=false→(m.roots.length≤1048576∧∀ z ∈ m.roots,isMatch1_pre z agent m)∧∀ r42:Bool,r42=m.roots.any (fun z=>isMatch1 z agent m)→((r42=true→Z false)∧(r42=false→(areImages_pre redex agent m)∧∀ r44:Bool,r44=areImages redex agent m→((r44=true→(matchLinks_pre redex agent m.nodes)∧∀ r46:(List Int) × Bool,r46=matchLinks redex agent m.nodes→Z r46.2)∧(r44=false→Z false))))))) (0))))
theorem isMatch_vc (redex agent:Big) (m:Match) (h:isMatch_pre redex agent m):isMatch_wp redex agent m (fun y=>y=isMatch redex agent m):=by
 unfold isMatch_wp
 obtain⟨⟨sig,hP⟩,hm1,hm2⟩:=h
 have ha8:=hP.a.len
 have har:=hP.a.roots
 simp only[forall_eq,decide_eq_true_eq,decide_eq_false_iff_not,List.drop_zero]
 refine⟨fun c=>c=true↔¬ (m.nodes.length=redex.nodes.length∧(m.roots.length:Int)=redex.roots),⟨fun h1=>iff_of_true rfl (by omega),fun h1=>by simp only[decide_eq_true_eq];omega⟩,fun c hJ=>⟨fun h1=>(matchB_no fun hM=>hJ.1 h1 ⟨hM.1.1,hM.2.1.1⟩).symm,fun h1=>?_⟩⟩
 have hlr:=Classical.not_not.1 fun h=>by rw[hJ.2 h] at h1;cases h1
 refine loopW.up1 m.nodes.length (fun k=>∀ i:Nat,i<k→isNodeB agent (at' m.nodes (i:Int))=true∧at' m.nodes (i:Int) ∉ m.nodes.take i) (fun i hi=>by omega) ?_
 rintro k K hk hI IH
 refine⟨fun h2=>⟨by omega,fun c=>c=true↔¬ (isNodeB agent (at' m.nodes (k:Int))=true∧at' m.nodes (k:Int) ∉ m.nodes.take k),⟨by omega,fun h3=>⟨by omega,by simp;omega,?_⟩,fun h3=>iff_of_true rfl (by rw[h3];simp)⟩,fun c hJ2=>⟨fun h3=>(matchB_no fun hM=>hJ2.1 h3 (hM.1.2 k (by omega))).symm,fun h3=>⟨by simp only[I64];omega,IH (by omega) fun i hi=>?_⟩⟩⟩,fun h2=>?_⟩
 ·rw[Int.toNat_natCast]
  dsimp only
  rw[hasI_iff]
  exact⟨fun h4 h5=>h5.2 h4,fun h4=>Classical.not_not.1 fun h5=>h4 ⟨h3,h5⟩⟩
 ·rcases Nat.lt_or_ge i k with h5 | h5
  ·exact hI i h5
  ·rw[show i=k by omega]
   exact Classical.not_not.1 fun h=>by rw[hJ2.2 h] at h3;cases h3
 ·have hN:NodesOk redex agent m.nodes:=⟨hlr.1,fun i hi=>hI i (by omega)⟩
  have hnode:∀ x,isNodeB agent x=true→0≤x∧x<agent.nodes.length:=fun x hx=>by
   simp only[isNodeB,within,Bool.and_eq_true,decide_eq_true_eq] at hx;omega
  have hin:InNodes agent m.nodes redex.nodes.length:=⟨hlr.1,fun i hi=>hnode _ (hN.2 i hi).1⟩
  refine⟨⟨hm2,fun z _=>⟨hP.a.downB,hm1,by simp only[I64];omega⟩⟩,fun h3=>(matchB_no fun hM=>?_).symm,fun h3=>?_⟩
  ·obtain⟨z,hz,hz2⟩:=List.any_eq_true.1 h3
   obtain⟨q1,q2,q3⟩:=hM.2.1.2 z hz
   rw[isMatch1,q3,Bool.or_false,Bool.not_eq_true'] at hz2
   simp only[within,Bool.and_eq_false_iff,decide_eq_false_iff_not] at hz2
   omega
  ·have hR:RootsOk redex agent m:=⟨hlr.2,fun p hp=>by
    have:=List.any_eq_false.1 h3 p hp
    simp only[isMatch1,Bool.or_eq_true,Bool.not_eq_true',not_or,Bool.not_eq_false] at this
    obtain⟨t1,t2⟩:=this
    simp only[within,Bool.and_eq_true,decide_eq_true_eq] at t1
    exact⟨by omega,by omega,by simpa using t2⟩⟩
   refine⟨⟨⟨sig,hP⟩,hin,hlr.2⟩,fun h4=>?_,fun h4=>(matchB_no fun hM=>?_).symm⟩
   ·have hI2:=areImages_iff.1 h4
    refine⟨⟨⟨sig,hP⟩,hin,fun k hk=>(hI2 k hk).1⟩,?_⟩
    by_cases hL:LinksP redex agent m.nodes
    ·rw[matchLinks,linksR_yes hL]
     exact (matchB_iff.2 ⟨hN,hR,hI2,hL⟩).symm
    ·rw[matchLinks,linksR_no hL]
     exact (matchB_no fun hM=>hL hM.2.2.2).symm
   ·rw[areImages_iff.2 hM.2.2.1] at h4
    cases h4
theorem ValidB.redexPre {sig:Sig} {b:Big} (hV:ValidB sig b):isRedex_pre b:=by
 have h2:=hV.slen
 have h3:=hV.roots
 have h4:=hV.edges
 have h5:=hV.outer
 exact⟨hV.linkSz,by omega,by omega,by omega,by omega,by omega,by omega⟩
noncomputable def matching (sig:Sig) (redex agent:Big):Bool:=goodB sig redex && redexB redex && agentB sig agent
abbrev isMatching_pre (sig:Sig) (redex agent:Big):Prop:=SmallB sig redex∧SmallB sig agent
noncomputable abbrev isMatching (sig:Sig) (redex agent:Big):Bool:=matching sig redex agent
def isMatching_wp (sig:List Control) (redex:Big) (agent:Big) (Z:Bool→Prop):Prop:=
 joinW (fun (J5:Bool→Prop)=>(SmallB sig redex)∧∀ r12:Bool,r12=goodB sig redex→((r12=true→(isRedex_pre redex)∧∀ r14:Bool,r14=isRedex redex→((r14=true→(agentB_pre sig agent)∧∀ r16:Bool,r16=agentB sig agent→J5 (r16))∧(r14=false→J5 (false))))∧(r12=false→J5 (false)))) (fun b8=>Z b8)
theorem isMatching_vc (sig:Sig) (redex agent:Big) (h:isMatching_pre sig redex agent):isMatching_wp sig redex agent (fun y=>y=isMatching sig redex agent):=by
 unfold isMatching_wp
 simp only[forall_eq]
 refine⟨fun c=>c=matching sig redex agent,⟨h.1,fun h1=>⟨?_,fun h2=>⟨h.2,by rw[matching,h1,show redexB redex=true from h2];rfl⟩,fun h2=>by rw[matching,h1,show redexB redex=false from h2];rfl⟩,fun h1=>by rw[matching,h1];rfl⟩,fun c h=>h⟩
 have hV:=goodB_valid h1
 have h2:=hV.slen
 have h3:=hV.roots
 have h4:=hV.edges
 have h5:=hV.outer
 exact⟨hV.linkSz,by omega,by omega,by omega,by omega,by omega,by omega⟩
theorem matching_pair {sig:Sig} {redex agent:Big} (h:matching sig redex agent=true):Pair sig redex agent:=by
 simp only[matching,agentB,Bool.and_eq_true] at h
 exact⟨goodB_valid h.1.1,goodB_valid h.2.1,redexB_iff.1 h.1.2⟩
noncomputable def IsMatch (sig:Sig) (redex agent:Big) (m:Match):Bool × Bool:=if matching sig redex agent then (matchB redex agent m,true) else (false,false)
abbrev IsMatch_pre (sig:Sig) (redex agent:Big) (m:Match):Prop:=SmallB sig redex∧SmallB sig agent∧MSz m
-- impl.IsMatch is not in this seat
noncomputable abbrev isMatched (sig:Sig) (redex agent:Big) (m:Match):Bool:=matching sig redex agent && matchB redex agent m
abbrev isMatched_pre (sig:Sig) (redex agent:Big) (m:Match):Prop:=IsMatch_pre sig redex agent m
def isMatched_wp (sig:List Control) (redex:Big) (agent:Big) (m:Match) (Z:Bool→Prop):Prop:=
 joinW (fun (J6:Bool→Prop)=>(isMatching_pre sig redex agent)∧∀ r13:Bool,r13=isMatching sig redex agent→((r13=true→(isMatch_pre redex agent m)∧∀ r15:Bool,r15=isMatch redex agent m→J6 (r15))∧(r13=false→J6 (false)))) (fun b9=>Z b9)
theorem isMatched_vc (sig:Sig) (redex agent:Big) (m:Match) (h:isMatched_pre sig redex agent m):isMatched_wp sig redex agent m (fun y=>y=isMatched sig redex agent m):=by
 unfold isMatched_wp
 simp only[forall_eq]
 refine⟨fun c=>c=isMatched sig redex agent m,⟨⟨h.1,h.2.1⟩,fun h1=>⟨⟨⟨sig,matching_pair h1⟩,h.2.2⟩,?_⟩,fun h1=>?_⟩,fun c h=>h⟩
 ·rw[isMatched,show matching sig redex agent=true from h1];rfl
 ·rw[isMatched,show matching sig redex agent=false from h1];rfl
end Go.Ab.Vg
/- Matches: pure conditions of the reference's functions. -/
namespace Go.Ab.Vg
set_option linter.unusedSimpArgs false
set_option linter.unusedVariables false
noncomputable abbrev l8Redex (sig:Sig) (b:Big):Bool:=goodB sig b && redexB b
abbrev l8Redex_pre (sig:Sig) (b:Big):Prop:=SmallB sig b
def l8Redex_wp (sig:List Control) (b:Big) (Z:Bool→Prop):Prop:=
 joinW (fun (J4:Bool→Prop)=>(SmallB sig b)∧∀ r11:Bool,r11=goodB sig b→((r11=true→(l8Solid_pre b)∧∀ r13:Bool,r13=l8Solid b→J4 (r13))∧(r11=false→J4 (false)))) (fun b7=>Z b7)
theorem l8Redex_vc (sig:Sig) (b:Big) (h:l8Redex_pre sig b):l8Redex_wp sig b (fun y=>y=l8Redex sig b):=by
 unfold l8Redex_wp
 simp only[forall_eq]
 refine⟨fun c=>c=l8Redex sig b,⟨h,fun h1=>⟨(goodB_valid h1).redexPre,by rw[l8Redex,h1];rfl⟩,fun h1=>by rw[l8Redex,h1];rfl⟩,fun c h=>h⟩
noncomputable abbrev l8Both (sig:Sig) (redex agent:Big):Bool:=matching sig redex agent
abbrev l8Both_pre (sig:Sig) (redex agent:Big):Prop:=SmallB sig redex∧SmallB sig agent
def l8Both_wp (sig:List Control) (redex:Big) (agent:Big) (Z:Bool→Prop):Prop:=
 joinW (fun (J5:Bool→Prop)=>(l8Redex_pre sig redex)∧∀ r12:Bool,r12=l8Redex sig redex→((r12=true→(l2Agent_pre sig agent)∧∀ r14:Bool,r14=l2Agent sig agent→J5 (r14))∧(r12=false→J5 (false)))) (fun b8=>Z b8)
theorem l8Both_vc (sig:Sig) (redex agent:Big) (h:l8Both_pre sig redex agent):l8Both_wp sig redex agent (fun y=>y=l8Both sig redex agent):=by
 unfold l8Both_wp
 simp only[forall_eq]
 refine⟨fun c=>c=matching sig redex agent,⟨h.1,fun h1=>⟨h.2,?_⟩,fun h1=>?_⟩,fun c h=>h⟩
 ·rw[matching,show (goodB sig redex && redexB redex)=true from h1];rfl
 ·rw[matching,show (goodB sig redex && redexB redex)=false from h1];rfl
def ImagesP (redex agent:Big) (nodes:List Int):Prop:=NodesOk redex agent nodes∧∀ k:Nat,k<redex.nodes.length→(at' agent.nodes (at' nodes (k:Int))).control=(at' redex.nodes (k:Int)).control
open Classical in
noncomputable def l8Images (redex agent:Big) (nodes:List Int):Bool:=decide (ImagesP redex agent nodes)
abbrev l8Images_pre (redex agent:Big) (nodes:List Int):Prop:=nodes.length≤1048576∧agent.nodes.length≤1048576
def l8Images_wp (redex:Big) (agent:Big) (nodes:List Int) (Z:Bool→Prop):Prop:=
 ∀ len5:Int,len5=(nodes.length:Int)→∀ len7:Int,len7=(redex.nodes.length:Int)→∀ c9:Bool,c9=decide (len5 ≠ len7)→((c9=true→Z false)∧(c9=false→loopW (σ:=Int) (fun i13 K16=>∀ len17:Int,len17=(nodes.length:Int)→∀ c19:Bool,c19=decide (i13<len17)→((c19=true→joinW (fun (J21:Bool→Prop)=>(0≤i13∧i13<nodes.length)∧∀ x31:Int,x31=at' nodes i13→(agent.nodes.length≤1048576)∧∀ r34:Bool,r34=isNodeB agent x31→((r34=true→((0:Int)≤0∧(0:Int)≤i13∧i13≤nodes.length)∧∀ l36:List Int,l36=(nodes.take i13.toNat).drop 0→(0≤i13∧i13<nodes.length)∧∀ x39:Int,x39=at' nodes i13→(l36.length≤1048576)∧∀ r43:Bool,r43=hasI l36 x31→((r43=true→J21 (true))∧(r43=false→(0≤i13∧i13<nodes.length)∧∀ x45:Int,x45=at' nodes i13→(0≤x31∧x31<agent.nodes.length)∧∀ x49:GNode,x49=at' agent.nodes x31→(0≤i13∧i13<redex.nodes.length)∧∀ x52:GNode,x52=at' redex.nodes i13→∀ c54:Bool,c54=decide (x49.control ≠ x52.control)→J21 (c54))))∧(r34=false→J21 (true)))) (fun b24=>((b24=true→Z false)∧(b24=false→(I64 (i13+1))∧∀ v28:Int,v28=i13+1→K16 (v28)))))∧(c19=false→Z true))) (0)))
theorem l8Images_vc (redex agent:Big) (nodes:List Int) (h:l8Images_pre redex agent nodes):l8Images_wp redex agent nodes (fun y=>y=l8Images redex agent nodes):=by
 unfold l8Images_wp
 obtain⟨h1,h2⟩:=h
 have no:¬ ImagesP redex agent nodes→false=l8Images redex agent nodes:=fun h=>by simp[l8Images,h]
 simp only[forall_eq,decide_eq_true_eq,decide_eq_false_iff_not,List.drop_zero]
 refine⟨fun h3=>no fun hI=>h3 (by have:=hI.1.1;omega),fun h3=>?_⟩
 have hnode:∀ x,isNodeB agent x=true→0≤x∧x<agent.nodes.length:=fun x hx=>by
  simp only[isNodeB,within,Bool.and_eq_true,decide_eq_true_eq] at hx;omega
 refine loopW.up1 nodes.length (fun k=>∀ i:Nat,i<k→(isNodeB agent (at' nodes (i:Int))=true∧at' nodes (i:Int) ∉ nodes.take i)∧(at' agent.nodes (at' nodes (i:Int))).control=(at' redex.nodes (i:Int)).control) (fun i hi=>by omega) ?_
 rintro k K hk hI IH
 refine⟨fun h4=>⟨fun c=>c=true↔¬ ((isNodeB agent (at' nodes (k:Int))=true∧at' nodes (k:Int) ∉ nodes.take k)∧(at' agent.nodes (at' nodes (k:Int))).control=(at' redex.nodes (k:Int)).control),⟨by omega,h2,fun h5=>⟨by omega,by omega,by simp;omega,fun h6=>?_,fun h6=>⟨by omega,hnode _ h5,by omega,?_⟩⟩,fun h5=>iff_of_true rfl (by rw[h5];simp)⟩,fun c hJ=>⟨fun h5=>no fun hP=>hJ.1 h5 ⟨hP.1.2 k (by omega),hP.2 k (by omega)⟩,fun h5=>⟨by simp only[I64];omega,IH (by omega) fun i hi=>?_⟩⟩⟩,fun h4=>?_⟩
 ·rw[Int.toNat_natCast] at h6
  exact iff_of_true rfl fun h7=>h7.1.2 (hasI_iff.1 h6)
 ·rw[Int.toNat_natCast] at h6
  simp only[decide_eq_true_eq]
  exact⟨fun h7 h8=>h7 h8.2,fun h7 h8=>h7 ⟨⟨h5,hasI_no.1 h6⟩,h8⟩⟩
 ·rcases Nat.lt_or_ge i k with h6 | h6
  ·exact hI i h6
  ·rw[show i=k by omega]
   exact Classical.not_not.1 fun h=>by rw[hJ.2 h] at h5;cases h5
 ·have hP:ImagesP redex agent nodes:=⟨⟨by omega,fun i hi=>(hI i (by omega)).1⟩,fun i hi=>(hI i (by omega)).2⟩
  simp[l8Images,hP]
def ParentsP (redex agent:Big) (m:Match):Prop:=∀ k:Nat,k<redex.nodes.length→(at' agent.nodes (at' m.nodes (k:Int))).parent=parentImg redex m (k:Int)
open Classical in
noncomputable def l8Parents (redex agent:Big) (m:Match):Bool:=decide (ParentsP redex agent m)
abbrev l8Parents_pre (redex agent:Big) (m:Match):Prop:=(∃ sig,Pair sig redex agent)∧InNodes agent m.nodes redex.nodes.length∧(m.roots.length:Int)=redex.roots
def l8Parents_wp (redex:Big) (agent:Big) (m:Match) (Z:Bool→Prop):Prop:=
 loopW (σ:=Int) (fun i8 K11=>∀ len12:Int,len12=(m.nodes.length:Int)→∀ c14:Bool,c14=decide (i8<len12)→((c14=true→(0≤i8∧i8<redex.nodes.length)∧∀ x17:GNode,x17=at' redex.nodes i8→∀ c19:Bool,c19=decide (0≤x17.parent)→((c19=true→(0≤x17.parent∧x17.parent<m.nodes.length)∧∀ x23:Int,x23=at' m.nodes x17.parent→(0≤i8∧i8<m.nodes.length)∧∀ x26:Int,x26=at' m.nodes i8→(0≤x26∧x26<agent.nodes.length)∧∀ x29:GNode,x29=at' agent.nodes x26→∀ c31:Bool,c31=decide (x29.parent ≠ x23)→((c31=true→Z false)∧(c31=false→(I64 (i8+1))∧∀ v35:Int,v35=i8+1→K11 (v35))))∧(c19=false→(I64 ((-1) - x17.parent))∧∀ v38:Int,v38=(-1) - x17.parent→(0≤v38∧v38<m.roots.length)∧∀ x41:Int,x41=at' m.roots v38→(0≤i8∧i8<m.nodes.length)∧∀ x44:Int,x44=at' m.nodes i8→(0≤x44∧x44<agent.nodes.length)∧∀ x47:GNode,x47=at' agent.nodes x44→∀ c49:Bool,c49=decide (x47.parent ≠ x41)→((c49=true→Z false)∧(c49=false→(I64 (i8+1))∧∀ v53:Int,v53=i8+1→K11 (v53))))))∧(c14=false→Z true))) (0)
theorem l8Parents_vc (redex agent:Big) (m:Match) (h:l8Parents_pre redex agent m):l8Parents_wp redex agent m (fun y=>y=l8Parents redex agent m):=by
 unfold l8Parents_wp
 obtain⟨⟨sig,hP⟩,⟨hlen,hin⟩,hroots⟩:=h
 have no:¬ ParentsP redex agent m→false=l8Parents redex agent m:=fun h=>by simp[l8Parents,h]
 have hr8:=hP.r.len
 have hrr:=hP.r.roots
 simp only[forall_eq,decide_eq_true_eq,decide_eq_false_iff_not]
 refine loopW.up1 m.nodes.length (fun k=>∀ j:Nat,j<k→(at' agent.nodes (at' m.nodes (j:Int))).parent=parentImg redex m (j:Int)) (fun j hj=>by omega) ?_
 rintro k K hk hI IH
 refine⟨fun hc=>?_,fun hc=>?_⟩
 ·have hk1:k<redex.nodes.length:=by omega
  have hpar:=hP.r.parAt (i:=k) ⟨by omega,by omega⟩
  have him:=hin k (by omega)
  have hnext:(at' agent.nodes (at' m.nodes (k:Int))).parent=parentImg redex m (k:Int)→∀ j:Nat,j<k+1→(at' agent.nodes (at' m.nodes (j:Int))).parent=parentImg redex m (j:Int):=fun h j hj=>by
   rcases Nat.lt_or_ge j k with h1 | h1
   ·exact hI j h1
   ·rw[show j=k by omega];exact h
  refine⟨by omega,fun h1=>?_,fun h1=>?_⟩
  ·have hx:at' m.nodes (at' redex.nodes (k:Int)).parent=parentImg redex m k:=by rw[parentImg,if_pos h1]
   rw[hx]
   exact⟨by omega,by omega,him,fun h2=>no fun hA=>h2 (hA k hk1),fun h2=>⟨by simp only[I64];omega,IH (by omega) (hnext (Classical.not_not.1 h2))⟩⟩
  ·have hx:at' m.roots (-1 - (at' redex.nodes (k:Int)).parent)=parentImg redex m k:=by rw[parentImg,if_neg h1]
   rw[hx]
   exact⟨by simp only[I64];omega,by omega,by omega,him,fun h2=>no fun hA=>h2 (hA k hk1),fun h2=>⟨by simp only[I64];omega,IH (by omega) (hnext (Classical.not_not.1 h2))⟩⟩
 ·have hA:ParentsP redex agent m:=fun j hj=>hI j (by omega)
  simp[l8Parents,hA]
def KidsP (redex agent:Big) (m:Match):Prop:=∀ k:Nat,k<redex.nodes.length→(holesB redex (k:Int)).length=0→∀ c ∈ kidsB agent (at' m.nodes (k:Int)),c ∈ m.nodes
open Classical in
noncomputable def l8Kids (redex agent:Big) (m:Match):Bool:=decide (KidsP redex agent m)
abbrev l8Kids_pre (redex agent:Big) (m:Match):Prop:=l8Parents_pre redex agent m
def l8Kids_wp (redex:Big) (agent:Big) (m:Match) (Z:Bool→Prop):Prop:=
 loopW (σ:=Int) (fun i8 K11=>∀ len12:Int,len12=(m.nodes.length:Int)→∀ c14:Bool,c14=decide (i8<len12)→((c14=true→(0≤i8∧i8<m.nodes.length)∧∀ x17:Int,x17=at' m.nodes i8→(l2Kids_pre agent x17)∧∀ r20:List Int,r20=l2Kids agent x17→loopW (σ:=Int) (fun k23 K26=>joinW (fun (J27:Bool→Prop)=>∀ len44:Int,len44=(r20.length:Int)→∀ c46:Bool,c46=decide (k23<len44)→((c46=true→(l2Holes_pre redex i8)∧∀ r49:List Int,r49=l2Holes redex i8→∀ len50:Int,len50=(r49.length:Int)→∀ c52:Bool,c52=decide (len50=0)→J27 (c52))∧(c46=false→J27 (false)))) (fun b30=>((b30=true→(0≤k23∧k23<r20.length)∧∀ x34:Int,x34=at' r20 k23→(m.nodes.length≤1048576)∧∀ r37:Bool,r37=hasI m.nodes x34→((r37=true→(I64 (k23+1))∧∀ v39:Int,v39=k23+1→K26 (v39))∧(r37=false→Z false)))∧(b30=false→(I64 (i8+1))∧∀ v42:Int,v42=i8+1→K11 (v42))))) (0))∧(c14=false→Z true))) (0)
theorem l8Kids_vc (redex agent:Big) (m:Match) (h:l8Kids_pre redex agent m):l8Kids_wp redex agent m (fun y=>y=l8Kids redex agent m):=by
 unfold l8Kids_wp
 obtain⟨⟨sig,hP⟩,⟨hlen,hin⟩,hroots⟩:=h
 have no:¬ KidsP redex agent m→false=l8Kids redex agent m:=fun h=>by simp[l8Kids,h]
 have hr8:=hP.r.len
 have ha8:=hP.a.len
 have hs4:=hP.r.slen
 simp only[forall_eq,decide_eq_true_eq,decide_eq_false_iff_not,l2Kids,l2Holes]
 refine loopW.up1 m.nodes.length (fun k=>∀ j:Nat,j<k→(holesB redex (j:Int)).length=0→∀ c ∈ kidsB agent (at' m.nodes (j:Int)),c ∈ m.nodes) (fun j hj=>by omega) ?_
 rintro k K hk hI IH
 refine⟨fun hc=>?_,fun hc=>?_⟩
 ·have him:=hin k (by omega)
  have hkl:(kidsB agent (at' m.nodes (k:Int))).length≤agent.nodes.length:=idxs_len _ _ _
  refine⟨by omega,by simp only[l2Kids_pre];omega,?_⟩
  refine loopW.up1 (kidsB agent (at' m.nodes (k:Int))).length (fun q=>∀ j:Nat,j<q→at' (kidsB agent (at' m.nodes (k:Int))) (j:Int) ∈ m.nodes) (fun j hj=>by omega) ?_
  rintro q K2 hq hI2 IH2
  refine⟨fun c=>c=true↔(q<(kidsB agent (at' m.nodes (k:Int))).length∧(holesB redex (k:Int)).length=0),⟨fun h1=>⟨by simp only[l2Holes_pre];omega,by simp only[decide_eq_true_eq];omega⟩,fun h1=>iff_of_false (by simp) (by omega)⟩,fun c hJ=>⟨fun h1=>?_,fun h1=>⟨by simp only[I64];omega,IH (by omega) fun j hj h0 c hcm=>?_⟩⟩⟩
  ·have h2:=hJ.1 h1
   refine⟨by omega,by omega,fun h3=>⟨by simp only[I64];omega,IH2 h2.1 fun j hj=>?_⟩,fun h3=>no fun hA=>?_⟩
   ·rcases Nat.lt_or_ge j q with h4 | h4
    ·exact hI2 j h4
    ·rw[show j=q by omega];exact hasI_iff.1 h3
   ·exact hasI_no.1 h3 (hA k (by omega) h2.2 _ (at_mem ⟨by omega,by omega⟩))
  ·rcases Nat.lt_or_ge j k with h2 | h2
   ·exact hI j h2 h0 c hcm
   ·rw[show j=k by omega] at h0 hcm
    obtain⟨z,hz,rfl⟩:=List.getElem_of_mem hcm
    have hql:¬ q<(kidsB agent (at' m.nodes (k:Int))).length:=fun h=>by rw[hJ.2 ⟨h,h0⟩] at h1;cases h1
    have:=hI2 z (by omega)
    rwa [at_lt hz] at this
 ·have hA:KidsP redex agent m:=fun j hj=>hI j (by omega)
  simp[l8Kids,hA]
abbrev l2Place (b:Big) (p:Int):Bool:=within p (-b.roots) (b.nodes.length - 1)
abbrev l2Place_pre (b:Big) (_:Int):Prop:=b.nodes.length≤1048576∧I64 (-b.roots)
def l2Place_wp (b:Big) (x:Int) (Z:Bool→Prop):Prop:=
 (I64 (-b.roots))∧∀ v5:Int,v5 = -b.roots→∀ len7:Int,len7=(b.nodes.length:Int)→(I64 (len7 - 1))∧∀ v10:Int,v10=len7 - 1→∀ r12:Bool,r12=within x v5 v10→Z r12
theorem l2Place_vc (b:Big) (p:Int) (h:l2Place_pre b p):l2Place_wp b p (fun y=>y=l2Place b p):=by
 unfold l2Place_wp
 simp only[forall_eq]
 exact⟨h.2,by have:=h.1;simp only[I64];omega,by trivial⟩
open Classical in
noncomputable def l8Places (redex agent:Big) (m:Match):Bool:=decide (RootsOk redex agent m)
abbrev l8Places_pre (redex agent:Big) (m:Match):Prop:=DownB agent∧MSz m∧I64 (-agent.roots)
def l8Places_wp (redex:Big) (agent:Big) (m:Match) (Z:Bool→Prop):Prop:=
 loopW (σ:=Int) (fun r8 K11=>∀ len12:Int,len12=(m.roots.length:Int)→∀ c14:Bool,c14=decide (r8<len12)→((c14=true→joinW (fun (J16:Bool→Prop)=>(0≤r8∧r8<m.roots.length)∧∀ x26:Int,x26=at' m.roots r8→(l2Place_pre agent x26)∧∀ r29:Bool,r29=l2Place agent x26→((r29=true→(0≤r8∧r8<m.roots.length)∧∀ x31:Int,x31=at' m.roots r8→(l8Inside_pre agent m x26)∧∀ r35:Bool,r35=l8Inside agent m x26→J16 (r35))∧(r29=false→J16 (true)))) (fun b19=>((b19=true→Z false)∧(b19=false→(I64 (r8+1))∧∀ v23:Int,v23=r8+1→K11 (v23)))))∧(c14=false→∀ len36:Int,len36=(m.roots.length:Int)→∀ c38:Bool,c38=decide (len36=redex.roots)→Z c38))) (0)
theorem l8Places_vc (redex agent:Big) (m:Match) (h:l8Places_pre redex agent m):l8Places_wp redex agent m (fun y=>y=l8Places redex agent m):=by
 unfold l8Places_wp
 obtain⟨hd,hm,hr⟩:=h
 have hd1:=hd.1
 have no:¬ RootsOk redex agent m→false=l8Places redex agent m:=fun h=>by simp[l8Places,h]
 simp only[forall_eq,decide_eq_true_eq,decide_eq_false_iff_not]
 refine loopW.up1 m.roots.length (fun k=>∀ i:Nat,i<k → -agent.roots≤at' m.roots (i:Int)∧at' m.roots (i:Int)<agent.nodes.length∧underB agent m.nodes (at' m.roots (i:Int))=false) (fun i hi=>by omega) ?_
 rintro k K hk hI IH
 refine⟨fun h1=>⟨fun c=>c=true↔¬ (-agent.roots≤at' m.roots (k:Int)∧at' m.roots (k:Int)<agent.nodes.length∧underB agent m.nodes (at' m.roots (k:Int))=false),⟨by omega,⟨hd1,hr⟩,fun h2=>?_,fun h2=>iff_of_true rfl fun h3=>?_⟩,fun c hJ=>⟨fun h2=>no fun hR=>hJ.1 h2 (hR.2 _ (at_mem ⟨by omega,by omega⟩)),fun h2=>⟨by simp only[I64];omega,IH (by omega) fun i hi=>?_⟩⟩⟩,fun h1=>?_⟩
 ·simp only[l2Place,within,Bool.and_eq_true,decide_eq_true_eq] at h2
  refine⟨by omega,⟨hd,by omega,hm.1⟩,?_⟩
  cases hu:underB agent m.nodes (at' m.roots (k:Int)) with
  | false=>exact iff_of_false (by rw[l8Inside,hu];simp) fun h=>h ⟨by omega,by omega,rfl⟩
  | true=>exact iff_of_true (by rw[l8Inside,hu]) fun h=>by cases h.2.2
 ·simp only[l2Place,within,Bool.and_eq_false_iff,decide_eq_false_iff_not] at h2
  omega
 ·rcases Nat.lt_or_ge i k with h5 | h5
  ·exact hI i h5
  ·rw[show i=k by omega]
   exact Classical.not_not.1 fun h=>by rw[hJ.2 h] at h2;cases h2
 ·have hA:∀ p ∈ m.roots,-agent.roots≤p∧p<agent.nodes.length∧underB agent m.nodes p=false:=fun p hp=>by
   obtain⟨z,hz,rfl⟩:=List.getElem_of_mem hp
   have:=hI z (by omega)
   rwa [at_lt hz] at this
  by_cases hl:(m.roots.length:Int)=redex.roots
  ·have hR:RootsOk redex agent m:=⟨hl,hA⟩
   simp[l8Places,hR,hl]
  ·have hR:¬ RootsOk redex agent m:=fun h=>hl h.1
   simp[l8Places,hR,hl]
open Classical in
noncomputable def l8Image (redex agent:Big) (m:Match) (l:Int):Int × Bool:=(firstL redex agent m.nodes l,decide (LinkOk redex agent m.nodes l))
abbrev l8Image_pre (redex agent:Big) (m:Match) (l:Int):Prop:=matchLinks_pre redex agent m.nodes∧0≤l∧l<redex.edges+redex.outer.length
def l8Image_wp (redex:Big) (agent:Big) (m:Match) (link:Int) (Z:(Int × Bool)→Prop):Prop:=
 (l2Ports_pre redex link)∧∀ r7:List (Int × Int),r7=l2Ports redex link→((0:Int)≤0∧(0:Int)<r7.length)∧∀ x9:Int × Int,x9=at' r7 0→(0≤x9.1∧x9.1<m.nodes.length)∧∀ x13:Int,x13=at' m.nodes x9.1→(0≤x13∧x13<agent.nodes.length)∧∀ x16:GNode,x16=at' agent.nodes x13→((0:Int)≤0∧(0:Int)<r7.length)∧∀ x19:Int × Int,x19=at' r7 0→(0≤x9.2∧x9.2<x16.links.length)∧∀ x24:Int,x24=at' x16.links x9.2→loopW (σ:=Int) (fun i29 K32=>∀ len33:Int,len33=(r7.length:Int)→∀ c35:Bool,c35=decide (i29<len33)→((c35=true→(0≤i29∧i29<r7.length)∧∀ x38:Int × Int,x38=at' r7 i29→(0≤x38.1∧x38.1<m.nodes.length)∧∀ x42:Int,x42=at' m.nodes x38.1→(0≤x42∧x42<agent.nodes.length)∧∀ x45:GNode,x45=at' agent.nodes x42→(0≤i29∧i29<r7.length)∧∀ x48:Int × Int,x48=at' r7 i29→(0≤x38.2∧x38.2<x45.links.length)∧∀ x53:Int,x53=at' x45.links x38.2→∀ c55:Bool,c55=decide (x53 ≠ x24)→((c55=true→Z (x24,false))∧(c55=false→(I64 (i29+1))∧∀ v59:Int,v59=i29+1→K32 (v59))))∧(c35=false→∀ c61:Bool,c61=decide (link<redex.edges)→((c61=true→joinW (fun (J63:Bool→Prop)=>∀ c69:Bool,c69=decide (x24<agent.edges)→((c69=true→(l2Ports_pre agent x24)∧∀ r72:List (Int × Int),r72=l2Ports agent x24→∀ len73:Int,len73=(r72.length:Int)→∀ len75:Int,len75=(r7.length:Int)→∀ c77:Bool,c77=decide (len73=len75)→J63 (c77))∧(c69=false→J63 (false)))) (fun b66=>Z (x24,b66)))∧(c61=false→Z (x24,true)))))) (1)
theorem RedexP.port {b:Big} (h:RedexP b) {l:Int} (h0:0≤l) (h1:l<b.edges+b.outer.length):0<(portsB b l).length:=by
 have h2:=h.2.2.2 l h0 h1
 have h3:b.inner=[]:=List.eq_nil_of_length_eq_zero h.1
 simp only[isIdle,l2Idle,endsB,h3,List.filter_nil,List.map_nil,List.length_nil,decide_true,Bool.and_true,decide_eq_false_iff_not] at h2
 omega
theorem firstOf_at {agent:Big} {nodes:List Int} {P:List (Int × Int)} (h:0<P.length):firstOf agent nodes P=imgAt agent nodes (at' P 0):=by
 cases P with
 | nil=>simp at h
 | cons a P=>rfl
theorem l8Image_vc (redex agent:Big) (m:Match) (l:Int) (h:l8Image_pre redex agent m l):l8Image_wp redex agent m l (fun y=>y=l8Image redex agent m l):=by
 unfold l8Image_wp
 obtain⟨hpre,hl0,hl1⟩:=h
 have hpre2:=hpre
 obtain⟨⟨sig,hP⟩,_⟩:=hpre2
 have hne:=hP.red.port hl0 hl1
 have hLr:=hP.r.linkSz
 have hLa:=hP.a.linkSz
 have hin:∀ k:Nat,k<(portsB redex l).length→_:=fun k hk=>img_in hpre (l:=l) (p:=at' (portsB redex l) (k:Int)) (at_mem ⟨by omega,by omega⟩)
 have h0:=hin 0 hne
 have hf:imgAt agent m.nodes (at' (portsB redex l) 0)=firstL redex agent m.nodes l:=(firstOf_at hne).symm
 have hpl:(portsB redex l).length≤1024 * 1024:=Nat.le_trans (portsTo_len hLr.2.1 l _ (Nat.le_refl _)) (by have:=hLr.1;omega)
 simp only[forall_eq,decide_eq_true_eq,decide_eq_false_iff_not,l2Ports]
 have hun:∀ p:Int × Int,at' (at' agent.nodes (at' m.nodes p.1)).links p.2=imgAt agent m.nodes p:=fun p=>rfl
 simp only[hun,hf]
 refine⟨hLr,⟨by omega,by omega⟩,h0.1,h0.2.1,⟨by omega,by omega⟩,h0.2.2.1,?_⟩
 have res:∀ b:Bool,(b=true↔LinkOk redex agent m.nodes l)→(firstL redex agent m.nodes l,b)=l8Image redex agent m l:=fun b hb=>by
  rw[l8Image]
  congr 1
  rw[Bool.eq_iff_iff,hb]
  simp
 refine loopW.byM (fun i=>∃ k:Nat,i=k∧k≤(portsB redex l).length∧∀ j:Nat,j<k→imgAt agent m.nodes (at' (portsB redex l) (j:Int))=firstL redex agent m.nodes l) (fun i=>((portsB redex l).length - i).toNat) ⟨1,rfl,by omega,fun j hj=>by rw[show j=0 by omega];exact hf⟩ ?_
 rintro _ ⟨k,rfl,hk,hI⟩
 refine⟨fun h1=>?_,fun h1=>?_⟩
 ·have hk1:=hin k (by omega)
  refine⟨by omega,hk1.1,hk1.2.1,by omega,hk1.2.2.1,fun h2=>res _ (iff_of_false (by simp) fun hL=>h2 (hL.1 _ (at_mem ⟨by omega,by omega⟩))),fun h2=>⟨by simp only[I64];omega,⟨k+1,by omega,by omega,fun j hj=>?_⟩,by omega⟩⟩
  rcases Nat.lt_or_ge j k with h3 | h3
  ·exact hI j h3
  ·rw[show j=k by omega];exact Classical.not_not.1 h2
 ·have hall:∀ p ∈ portsB redex l,imgAt agent m.nodes p=firstL redex agent m.nodes l:=fun p hp=>by
   obtain⟨z,hz,rfl⟩:=List.getElem_of_mem hp
   have:=hI z (by omega)
   rwa [at_lt hz] at this
  refine⟨fun h2=>⟨fun c=>c=true↔LinkOk redex agent m.nodes l,⟨fun h3=>⟨hLa,?_⟩,fun h3=>iff_of_false (by simp) fun hL=>h3 (hL.2 h2).1⟩,fun c hc=>res c hc⟩,fun h2=>res true (iff_of_true rfl ⟨hall,fun h=>absurd h h2⟩)⟩
  simp only[decide_eq_true_eq]
  exact⟨fun h4=>⟨hall,fun _=>⟨h3,by omega⟩⟩,fun hL=>by have:=(hL.2 h2).2;omega⟩
noncomputable abbrev l8Links (redex agent:Big) (m:Match):=linksR redex agent m.nodes
abbrev l8Links_pre (redex agent:Big) (m:Match):Prop:=matchLinks_pre redex agent m.nodes
def l8Links_wp (redex:Big) (agent:Big) (m:Match) (Z:((List Int) × Bool)→Prop):Prop:=
 loopW (σ:=Int × (List Int)) (fun (link16,l17) K21=>∀ len22:Int,len22=(redex.outer.length:Int)→(I64 (redex.edges+len22))∧∀ v25:Int,v25=redex.edges+len22→∀ c27:Bool,c27=decide (link16<v25)→((c27=true→(l8Image_pre redex agent m link16)∧∀ r30:Int × Bool,r30=l8Image redex agent m link16→((r30.2=true→(l17.length+1≤1073741824)∧∀ l38:List Int,l38=l17++[r30.1]→(I64 (link16+1))∧∀ v48:Int,v48=link16+1→K21 (v48,l38))∧(r30.2=false→Z (([]:List Int),false))))∧(c27=false→Z (l17,true)))) (0,([]:List Int))
theorem l8Links_vc (redex agent:Big) (m:Match) (h:l8Links_pre redex agent m):l8Links_wp redex agent m (fun y=>y=l8Links redex agent m):=by
 unfold l8Links_wp
 have hpre:=h
 obtain⟨⟨sig,hP⟩,_⟩:=h
 have hE:=hP.r.edges
 have hO:=hP.r.outer
 simp only[forall_eq,decide_eq_true_eq,decide_eq_false_iff_not]
 refine loopW.upL (redex.edges+redex.outer.length).toNat (fun k out=>out=(List.range k).map (fun l:Nat=>firstL redex agent m.nodes (l:Int))∧∀ l:Nat,l<k→LinkOk redex agent m.nodes (l:Int)) [] ⟨rfl,fun l hl=>by omega⟩ ?_
 rintro k out K hk ⟨rfl,hI⟩ IH
 dsimp only
 refine⟨by simp only[I64];omega,fun h1=>⟨⟨hpre,by omega,h1⟩,fun h2=>⟨by simp;omega,by simp only[I64];omega,IH (by omega) _ ⟨?_,fun l hl=>?_⟩⟩,fun h2=>?_⟩,fun h1=>?_⟩
 ·simp[List.range_succ,l8Image]
 ·rcases Nat.lt_or_ge l k with h3 | h3
  ·exact hI l h3
  ·rw[show l=k by omega]
   simpa[l8Image] using h2
 ·rw[l8Links,linksR_no fun hL=>?_]
  have:=hL k (by omega) h1
  simp[l8Image] at h2
  exact h2 this
 ·rw[l8Links,linksR_yes fun l h2 h3=>?_,show k=(redex.edges+redex.outer.length).toNat by omega]
  have:=hI l.toNat (by omega)
  rwa [show ((l.toNat:Nat):Int)=l by omega] at this
noncomputable abbrev l8Match (redex agent:Big) (m:Match):Bool:=matchB redex agent m
abbrev l8Match_pre (redex agent:Big) (m:Match):Prop:=isMatch_pre redex agent m
def l8Match_wp (redex:Big) (agent:Big) (m:Match) (Z:Bool→Prop):Prop:=
 joinW (fun (J6:Bool→Prop)=>(l8Images_pre redex agent m.nodes)∧∀ r15:Bool,r15=l8Images redex agent m.nodes→((r15=true→(l8Places_pre redex agent m)∧∀ r17:Bool,r17=l8Places redex agent m→((r17=true→(l8Parents_pre redex agent m)∧∀ r19:Bool,r19=l8Parents redex agent m→((r19=true→(l8Kids_pre redex agent m)∧∀ r21:Bool,r21=l8Kids redex agent m→J6 ((!r21)))∧(r19=false→J6 (true))))∧(r17=false→J6 (true))))∧(r15=false→J6 (true)))) (fun b9=>((b9=true→Z false)∧(b9=false→(l8Links_pre redex agent m)∧∀ r13:(List Int) × Bool,r13=l8Links redex agent m→Z r13.2)))
theorem l8Match_vc (redex agent:Big) (m:Match) (h:l8Match_pre redex agent m):l8Match_wp redex agent m (fun y=>y=l8Match redex agent m):=by
 unfold l8Match_wp
 obtain⟨⟨sig,hP⟩,hm⟩:=h
 have ha8:=hP.a.len
 have har:=hP.a.roots
 simp only[forall_eq]
 have hIm:∀ b:Bool,l8Images redex agent m.nodes=b→(b=true↔ImagesP redex agent m.nodes):=fun b hb=>by rw[← hb];simp[l8Images]
 have hPl:∀ b:Bool,l8Places redex agent m=b→(b=true↔RootsOk redex agent m):=fun b hb=>by rw[← hb];simp[l8Places]
 have hPa:∀ b:Bool,l8Parents redex agent m=b→(b=true↔ParentsP redex agent m):=fun b hb=>by rw[← hb];simp[l8Parents]
 have hKi:∀ b:Bool,l8Kids redex agent m=b→(b=true↔KidsP redex agent m):=fun b hb=>by rw[← hb];simp[l8Kids]
 have hin:ImagesP redex agent m.nodes→InNodes agent m.nodes redex.nodes.length:=fun hI=>⟨hI.1.1,fun i hi=>by have:=(hI.1.2 i hi).1;simp only[isNodeB,within,Bool.and_eq_true,decide_eq_true_eq] at this;omega⟩
 have spl:MatchP redex agent m↔(ImagesP redex agent m.nodes∧RootsOk redex agent m∧ParentsP redex agent m∧KidsP redex agent m)∧LinksP redex agent m.nodes:=by
  constructor
  ·rintro⟨h1,h2,h3,h4⟩
   exact⟨⟨⟨h1,fun k hk=>(h3 k hk).1⟩,h2,fun k hk=>(h3 k hk).2.1,fun k hk=>(h3 k hk).2.2⟩,h4⟩
  ·rintro⟨⟨h1,h2,h3,h4⟩,h5⟩
   exact⟨h1.1,h2,fun k hk=>⟨h1.2 k hk,h3 k hk,h4 k hk⟩,h5⟩
 refine⟨fun c=>c=true↔¬ (ImagesP redex agent m.nodes∧RootsOk redex agent m∧ParentsP redex agent m∧KidsP redex agent m),⟨⟨hm.1,by omega⟩,fun h1=>⟨⟨hP.a.downB,hm,by simp only[I64];omega⟩,fun h2=>?_,fun h2=>?_⟩,fun h1=>?_⟩,fun c hJ=>⟨fun h1=>(matchB_no fun hM=>hJ.1 h1 (spl.1 hM).1).symm,fun h1=>?_⟩⟩
 ·have i1:=(hIm _ h1).1 rfl
  have i2:=(hPl _ h2).1 rfl
  refine⟨⟨⟨sig,hP⟩,hin i1,i2.1⟩,fun h3=>?_,fun h3=>?_⟩
  ·have i3:=(hPa _ h3).1 rfl
   refine⟨⟨⟨sig,hP⟩,hin i1,i2.1⟩,?_⟩
   cases h4:l8Kids redex agent m with
   | true=>exact iff_of_false (by simp) fun h=>h ⟨i1,i2,i3,(hKi _ h4).1 rfl⟩
   | false=>exact iff_of_true rfl fun h=>by have:=(hKi _ h4).2 h.2.2.2;cases this
  ·exact iff_of_true rfl fun h=>by have:=(hPa _ h3).2 h.2.2.1;cases this
 ·exact iff_of_true rfl fun h=>by have:=(hPl _ h2).2 h.2.1;cases this
 ·exact iff_of_true rfl fun h=>by have:=(hIm _ h1).2 h.1;cases this
 ·have hA:=Classical.not_not.1 fun h=>by rw[hJ.2 h] at h1;cases h1
  refine⟨⟨⟨sig,hP⟩,hin hA.1,hA.1.2⟩,?_⟩
  by_cases hL:LinksP redex agent m.nodes
  ·rw[l8Links,linksR_yes hL]
   exact (matchB_iff.2 (spl.2 ⟨hA,hL⟩)).symm
  ·rw[l8Links,linksR_no hL]
   exact (matchB_no fun hM=>hL hM.2.2.2).symm
noncomputable abbrev l8Given (sig:Sig) (redex agent:Big) (m:Match):Bool:=matching sig redex agent && matchB redex agent m
abbrev l8Given_pre (sig:Sig) (redex agent:Big) (m:Match):Prop:=IsMatch_pre sig redex agent m
def l8Given_wp (sig:List Control) (redex:Big) (agent:Big) (m:Match) (Z:Bool→Prop):Prop:=
 joinW (fun (J6:Bool→Prop)=>(l8Both_pre sig redex agent)∧∀ r13:Bool,r13=l8Both sig redex agent→((r13=true→(l8Match_pre redex agent m)∧∀ r15:Bool,r15=l8Match redex agent m→J6 (r15))∧(r13=false→J6 (false)))) (fun b9=>Z b9)
theorem l8Given_vc (sig:Sig) (redex agent:Big) (m:Match) (h:l8Given_pre sig redex agent m):l8Given_wp sig redex agent m (fun y=>y=l8Given sig redex agent m):=by
 unfold l8Given_wp
 simp only[forall_eq]
 refine⟨fun c=>c=l8Given sig redex agent m,⟨⟨h.1,h.2.1⟩,fun h1=>⟨⟨⟨sig,matching_pair h1⟩,h.2.2⟩,?_⟩,fun h1=>?_⟩,fun c h=>h⟩
 ·rw[l8Given,show matching sig redex agent=true from h1];rfl
 ·rw[l8Given,show matching sig redex agent=false from h1];rfl
end Go.Ab.Vg
/- FirstMatch, AllMatches, CountActive (statements 20, 21, 19): the search for matches, as lists. -/
namespace Go.Ab.Vg
set_option linter.unusedSimpArgs false
set_option linter.unusedVariables false
def rootsB (redex agent:Big) (nodes:List Int):List Int:=(List.range redex.roots.toNat).map fun r:Nat=>(at' agent.nodes (at' nodes (at' (kidsB redex (-1 - (r:Int))) 0))).parent
def canB (redex agent:Big) (nodes:List Int) (x:Int):Bool:=
 decide ((at' agent.nodes x).control=(at' redex.nodes (nodes.length:Int)).control) && !hasI nodes x && (decide ((at' redex.nodes (nodes.length:Int)).parent<0) || decide ((at' agent.nodes x).parent=at' nodes (at' redex.nodes (nodes.length:Int)).parent))
noncomputable def allM (redex agent:Big) (rs:List Int→List Int) (can:List Int→Int→Bool):Nat→List Int→List Match
 | 0,nodes=>if matchB redex agent ⟨nodes,rs nodes⟩ then [⟨nodes,rs nodes⟩] else []
 | k+1,nodes=>(List.range agent.nodes.length).flatMap fun x:Nat=>if can nodes (x:Int) then allM redex agent rs can k (nodes++[(x:Int)]) else []
end Go.Ab.Vg
