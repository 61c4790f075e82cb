/- Merged texts (7 of 17) of the proof that ends in Mpy: Gj Gk Gl Gx L2k Ma Sc Re Mb Mc Mk. -/
import Derived.Test.YtbikfokhjdjfpaaGreatDoorAbQmp6
import Derived.Laws.CopyRow
import Derived.Laws.IdiomCopy
/- Contract of spec.l2Good. -/
namespace Go.Ab
open Go.Proofs
set_option linter.unusedSimpArgs false
theorem Ba {sig:Sig} {b:Big} {k:Nat} (h:∀ i,i<k→cn sig b i=true):pV sig b k:=by
 induction k with
 | zero=>intro i hi;omega
 | succ k ih=>exact wU (h k (by omega)) (ih fun i hi=>h i (by omega))
def sa (sig:Sig) (b:Big):Bool:=fN sig && within b.roots 0 4 && decide (b.nodes.length≤8) && decide (b.sites.length≤4) && within b.edges 0 8
def xR (b:Big):Bool:=cQ b.outer && cQ (names b)
theorem nD (sig:Sig) (b:Big):dx sig b=(sa sig b && xR b):=by
 simp only[dx,sa,xR,Bool.and_assoc]
theorem pt (sig:Sig) (b:Big) (hs:bZ sig b):aq Tryz.prog 39 [bl false sig,cv false b] (fun r=>r=bool (fx sig b)):=by
 obtain⟨s1,s2,s3,s4,s5,s6,s7,s8,s9,s10,s11⟩:=id hs
 have hnl:(names b).length≤1048576:=by simpa[names] using s6
 have hnn:∀ s ∈ names b,s.length≤1048576:=by
  intro s hs
  obtain⟨w,hw,rfl⟩:=List.mem_map.1 hs
  exact s8 w hw
 refine aq.of Tryz.func39 rfl Tryz.ntmps39 (by simp) fun Q hQ=>?_
 have no:fx sig b=false→∀ H n,Q (bool false) H n:=fun h H n=>hQ _ _ _ _ (.v _ _ _) (by rw[h])
 refine aa.au ae (by decide) fun k' hk'=>?_
 simp [bl, cv, Big.cells]   -- R0
 apply hk'
 refine aa.cut (fun ρ H n=>ρ 0 = .list false (sig.map Control.cells)∧ρ 3 = .ptr (0,3) 1 0 0∧H (0,3)=some ⟨6,[b.cells false]⟩) ⟨by simp,by simp,by simp[Big.cells]⟩ ?_
 clear hk'
 rintro ρ H n ⟨h0,h3,hm3⟩
 have hm3':=hm3
 simp only[Big.cells,bW,encI,encS,cb] at hm3'
 refine aa.seq ?_
 refine aa.au ae (by decide) fun k' hk'=>?_
 have fin:∀ ρ:Env,ρ 0 = .list false (sig.map Control.cells)→ρ 3 = .ptr (0,3) 1 0 0→ρ 34=bool (!sa sig b)→aa Tryz.prog 39 98 k' ρ H n Q:=by
  clear h0 h3
  intro ρ h0 h3 h34
  apply hk'
  refine aa.ite h34 (fun hc1 => ?_) (fun hc1 => ?_)   -- t34
  ·have hb:sa sig b=false:=by simpa using hc1
   refine aa.au ae (by decide) fun k' hk'=>?_
   simp   -- R2
   apply hk'
   exact aa.ret Tryz.func39 (aK.one Tryz.results39) (no (by rw[eC,nD,hb];rfl) _ _)
  ·have hb1:sa sig b=true:=by simpa using hc1
   have hb':=hb1
   simp only[sa,within,Bool.and_eq_true,decide_eq_true_eq] at hb'
   obtain⟨⟨⟨⟨_,hr⟩,hn8⟩,_⟩,hed⟩:=hb'
   refine aa.skip ?_
   refine aa.seq ?_
   refine aa.au ae (by decide) fun k' hk'=>?_
   have fin2:∀ ρ:Env,ρ 0 = .list false (sig.map Control.cells)→ρ 3 = .ptr (0,3) 1 0 0→ρ 50=bool (!xR b)→aa Tryz.prog 39 98 k' ρ H n Q:=by
    clear h0 h3
    intro ρ h0 h3 h50
    apply hk'
    refine aa.ite h50 (fun hc1 => ?_) (fun hc1 => ?_)   -- t50
    ·have hb:xR b=false:=by simpa using hc1
     refine aa.au ae (by decide) fun k' hk'=>?_
     simp   -- R4
     apply hk'
     exact aa.ret Tryz.func39 (aK.one Tryz.results39) (no (by rw[eC,nD,hb,Bool.and_false];rfl) _ _)
    ·have hb2:xR b=true:=by simpa using hc1
     have hpre:dx sig b=true:=by rw[nD,hb1,hb2];rfl
     refine aa.skip ?_
     refine aa.seq ?_
     refine aa.au ae (by decide) fun k' hk'=>?_
     simp   -- R5
     apply hk'
     refine aa.block (aa.b6 b.nodes.length (fun k ρ' H' n'=>ρ' 0 = .list false (sig.map Control.cells)∧ρ' 3 = .ptr (0,3) 1 0 0∧ρ' 5=int k∧H'=H∧n'=n∧∀ i,i<k→cn sig b i=true) ?_ ?_)
     ·exact⟨by simp[h0],by simp[h3],by simp,rfl,rfl,fun i hi=>by omega⟩
     ·clear h0 h3
      rintro k ρ H' n' hk ⟨h0,h3,h5,rfl,rfl,hall⟩ IH
      refine aa.seq ?_
      refine aa.au ae (by decide) fun k' hk'=>?_
      simp [h3, h5, hm3']   -- R6
      apply hk'
      refine aa.ite rfl (fun hc2 => ?_) (fun hc2 => ?_)   -- t55
      ·have hc2:k<b.nodes.length:=by simpa using hc2
       refine aa.skip ?_
       refine aa.seq ?_
       refine aa.block ?_
       refine aa.au ae (by decide) fun k' hk'=>?_
       simp [h0, h3, h5, hm3']   -- R8
       refine aG.aB ae (Cj sig b hs k hc2 hr hed (Ba hall)) HY (.cons (aF.bl false sig) (.cons (aF.cv false b) (.cons (.v _ _ _) .nil))) (by decide) (by decide) rfl (by simp[h0,h5,bl,cv,Big.cells,bW,encI,encS,cb]) ?_
       rintro _ rfl
       simp
       apply hk'
       refine aa.ite rfl (fun hc3 => ?_) (fun hc3 => ?_)   -- t62
       ·have hb3:cn sig b k=false:=by simpa using hc3
        refine aa.au ae (by decide) fun k' hk'=>?_
        simp   -- R9
        apply hk'
        exact aa.ret Tryz.func39 (aK.one Tryz.results39) (no (by rw[eC,dM hc2 hb3,Bool.and_false];rfl) _ _)
       ·have hb3:cn sig b k=true:=by simpa using hc3
        refine aa.skip ?_
        refine aa.inBlock ?_
        refine aa.cg ae (by decide) fun k' hk'=>?_
        simp [h5, aZ (show k < 4611686018427387904 by omega)]   -- R7
        apply hk'
        refine IH hc2 _ _ _ ⟨by simp[h0],by simp[h3],by simp,rfl,rfl,fun i hi=>?_⟩
        rcases Nat.lt_or_ge i k with h | h
        ·exact hall i h
        ·rw[show i=k by omega];exact hb3
      ·have hc2:¬ k<b.nodes.length:=by simpa using hc2
       have hke:k=b.nodes.length:=by omega
       subst hke
       have hnodes:=dJ hall
       have hctl:=Ba hall
       refine aa.exit rfl ?_
       refine aa.seq ?_
       refine aa.au ae (by decide) fun k' hk'=>?_
       simp   -- R10
       apply hk'
       clear IH hall h5
       refine aa.block (aa.b6 b.sites.length (fun k ρ' H2 n2=>ρ' 0 = .list false (sig.map Control.cells)∧ρ' 3 = .ptr (0,3) 1 0 0∧ρ' 6=int k∧H2=H'∧n2=n'∧∀ i (hi:i<b.sites.length),i<k→bK sig b b.sites[i] b.nodes.length=true) ?_ ?_)
       ·exact⟨by simp[h0],by simp[h3],by simp,rfl,rfl,fun i hi h=>by omega⟩
       ·clear h0 h3
        rintro k ρ H2 n2 hk2 ⟨h0,h3,h6,rfl,rfl,hall⟩ IH
        refine aa.seq ?_
        refine aa.au ae (by decide) fun k' hk'=>?_
        simp [h3, h6, hm3']   -- R11
        apply hk'
        refine aa.ite rfl (fun hc4 => ?_) (fun hc4 => ?_)   -- t67
        ·have hc4:k<b.sites.length:=by simpa using hc4
         refine aa.skip ?_
         refine aa.seq ?_
         refine aa.block ?_
         refine aa.eo ae aD bU (by decide) (by kernel_rfl) fun k' hk'=>?_
         simp [h0, h3, h6, hm3', hc4, al]   -- R13
         refine bn.aB ae aD (rH sig b b.sites[k] b.nodes.length (s11 _ (List.getElem_mem hc4)) hr (Nat.le_refl _) hctl) HN (.cons (aF.bl false sig) (.cons (aF.cv false b) (.cons (.v _ _ _) (.cons (.v _ _ _) .nil)))) (by decide) rfl (by simp[h0,bl,cv,Big.cells,bW,encI,encS,cb,al]) ?_
         simp
         apply hk'
         refine aa.ite rfl (fun hc5 => ?_) (fun hc5 => ?_)   -- t81
         ·have hb3:bK sig b b.sites[k] b.nodes.length=false:=by simpa using hc5
          refine aa.au ae (by decide) fun k' hk'=>?_
          simp   -- R14
          apply hk'
          exact aa.ret Tryz.func39 (aK.one Tryz.results39) (no (by rw[eC,vP hc4 hb3,Bool.and_false];rfl) _ _)
         ·have hb3:bK sig b b.sites[k] b.nodes.length=true:=by simpa using hc5
          refine aa.skip ?_
          refine aa.inBlock ?_
          refine aa.cg ae (by decide) fun k' hk'=>?_
          simp [h6, aZ (show k < 4611686018427387904 by omega)]   -- R12
          apply hk'
          refine IH hc4 _ _ _ ⟨by simp[h0],by simp[h3],by simp,rfl,rfl,fun i hi hij=>?_⟩
          rcases Nat.lt_or_ge i k with h | h
          ·exact hall i hi h
          ·have:i=k:=by omega
           subst this
           exact hb3
        ·have hc4:¬ k<b.sites.length:=by simpa using hc4
         have hke:k=b.sites.length:=by omega
         subst hke
         have hsites:=vE (l:=b.sites) (p:=fun p=>bK sig b p b.nodes.length) fun i hi=>hall i hi hi
         refine aa.exit rfl ?_
         refine aa.seq ?_
         refine aa.au ae (by decide) fun k' hk'=>?_
         simp   -- R15
         apply hk'
         clear IH hall h6
         refine aa.block (aa.b6 b.inner.length (fun k ρ' H3 n3=>ρ' 3 = .ptr (0,3) 1 0 0∧ρ' 7=int k∧H3=H2∧n3=n2∧∀ i (hi:i<b.inner.length),i<k→dd b b.inner[i].link=true) ?_ ?_)
         ·exact⟨by simp[h3],by simp,rfl,rfl,fun i hi h=>by omega⟩
         ·clear h0 h3
          rintro k ρ H3 n3 hk3 ⟨h3,h7,rfl,rfl,hall⟩ IH
          refine aa.seq ?_
          refine aa.au ae (by decide) fun k' hk'=>?_
          simp [h3, h7, hm3']   -- R16
          apply hk'
          refine aa.ite rfl (fun hc6 => ?_) (fun hc6 => ?_)   -- t86
          ·have hc6:k<b.inner.length:=by simpa using hc6
           refine aa.skip ?_
           refine aa.seq ?_
           refine aa.block ?_
           refine aa.eo ae aD bU (by decide) (by kernel_rfl) fun k' hk'=>?_
           simp [h3, h7, hm3', hc6, aA.cells]   -- R18
           refine bn.aB ae aD (tS b b.inner[k].link hed s5) Hk (.cons (aF.cv false b) (.cons (.v _ _ _) .nil)) (by decide) rfl (by simp[cv,Big.cells,bW,encI,encS,cb,aA.cells]) ?_
           simp
           apply hk'
           refine aa.ite rfl (fun hc7 => ?_) (fun hc7 => ?_)   -- t97
           ·have hb3:dd b b.inner[k].link=false:=by simpa using hc7
            refine aa.au ae (by decide) fun k' hk'=>?_
            simp   -- R19
            apply hk'
            exact aa.ret Tryz.func39 (aK.one Tryz.results39) (no (by rw[eC,vP (l:=b.inner) (p:=fun w=>dd b w.link) hc6 hb3,Bool.and_false]) _ _)
           ·have hb3:dd b b.inner[k].link=true:=by simpa using hc7
            refine aa.skip ?_
            refine aa.inBlock ?_
            refine aa.cg ae (by decide) fun k' hk'=>?_
            simp [h7, aZ (show k < 4611686018427387904 by omega)]   -- R17
            apply hk'
            refine IH hc6 _ _ _ ⟨by simp[h3],by simp,rfl,rfl,fun i hi hij=>?_⟩
            rcases Nat.lt_or_ge i k with h | h
            ·exact hall i hi h
            ·have:i=k:=by omega
             subst this
             exact hb3
          ·have hc6:¬ k<b.inner.length:=by simpa using hc6
           have hke:k=b.inner.length:=by omega
           subst hke
           have hinner:=vE (l:=b.inner) (p:=fun w=>dd b w.link) fun i hi=>hall i hi hi
           refine aa.exit rfl ?_
           refine aa.au ae (by decide) fun k' hk'=>?_
           simp   -- R20
           apply hk'
           exact aa.ret Tryz.func39 (aK.one Tryz.results39) (hQ _ _ _ _ (.v _ _ _) (by rw[eC,hpre,hnodes,hsites,hinner];rfl))
   simp [h3, hm3']   -- R3
   refine aG.aB ae (q8 b.outer s5 s7) Hx (.cons (aF.encS false b.outer) .nil) (by decide) (by decide) rfl (by simp[encS]) ?_
   rintro _ rfl
   cases p6:cQ b.outer
   ·simp[guardOf]
    exact fin2 _ (by simp[h0]) (by simp[h3]) (by simp only[xR,p6];simp)
   by_cases p7:(16:Int)<b.inner.length
   ·simp[h3,hm3',p7,guardOf]
    refine fin2 _ (by simp[h0]) (by simp[h3]) ?_
    have:cQ (names b)=false:=by
     rw[fe,show decide ((names b).length≤16)=false by simp[names];omega,Bool.false_and]
    simp only[xR,this]
    simp
   simp[h3,hm3',p7,guardOf]
   refine aG.aB ae (yR b s6) Io (.cons (aF.cv false b) .nil) (by decide) (by decide) rfl (by simp[cv,Big.cells,bW,encI,encS,cb]) ?_
   rintro _ rfl
   simp
   refine aG.aB ae (q8 (names b) hnl hnn) Hx (.cons (aF.encS true (names b)) .nil) (by decide) (by decide) rfl (by simp[encS]) ?_
   rintro _ rfl
   simp
   exact fin2 _ (by simp[h0]) (by simp[h3]) (by simp only[xR,p6];simp)
 simp [h0]   -- R1
 refine aG.aB ae (Ek sig s1 s2) e99 (.cons (aF.bl false sig) .nil) (by decide) (by decide) rfl (by simp[bl,h0]) ?_
 rintro _ rfl
 cases p1:fN sig
 ·simp[guardOf]
  exact fin _ (by simp[h0]) (by simp[h3]) (by simp only[sa,p1];simp)
 simp[h3,hm3',guardOf]
 refine aG.aB ae (eZ b.roots 0 4) e93 (.cons (.v _ _ _) (.cons (.v _ _ _) (.cons (.v _ _ _) .nil))) (by decide) (by decide) rfl (by simp) ?_
 rintro _ rfl
 cases p2:within b.roots 0 4
 ·simp[guardOf]
  exact fin _ (by simp[h0]) (by simp[h3]) (by simp only[sa,p2];simp)
 by_cases p3:(8:Int)<b.nodes.length
 ·simp[h3,hm3',p3,guardOf]
  exact fin _ (by simp[h0]) (by simp[h3]) (by simp only[sa,show ¬ b.nodes.length≤8 by omega];simp)
 by_cases p4:(4:Int)<b.sites.length
 ·simp[h3,hm3',p3,p4,guardOf]
  exact fin _ (by simp[h0]) (by simp[h3]) (by simp only[sa,show ¬ b.sites.length≤4 by omega];simp)
 simp[h3,hm3',p3,p4,guardOf]
 refine aG.aB ae (eZ b.edges 0 8) e93 (.cons (.v _ _ _) (.cons (.v _ _ _) (.cons (.v _ _ _) .nil))) (by decide) (by decide) rfl (by simp) ?_
 rintro _ rfl
 simp
 exact fin _ (by simp[h0]) (by simp[h3]) (by simp only[sa,p1,p2,show b.nodes.length≤8 by omega,show b.sites.length≤4 by omega];simp)
end Go.Ab
/- Contracts of impl.ancestorsOf, spec.l2Above, slices.Index, slices.Contains and spec.l1Has. -/
namespace Go.Ab
open Go.Proofs
set_option linter.unusedSimpArgs false
theorem e53:Ent Tryz.prog 53:=Ent.of Tryz.func53 (by kernel_rfl) rfl
theorem e47:Ent Tryz.prog 47:=Ent.of Tryz.func47 (by kernel_rfl) rfl
theorem Dz:Ent Tryz.prog 118:=Ent.of Tryz.func118 (by kernel_rfl) rfl
theorem Ev (t:Bool) (l:List Int) (x:Int) (hl:l.length≤1048576):aq Tryz.prog 53 [encI t l,int x] (fun r=>r=int (tA l (fun y=>x == y))):=by
 refine aq.of Tryz.func53 rfl Tryz.ntmps53 (by simp) fun Q hQ=>?_
 refine aa.au ae (by decide) fun k' hk'=>?_
 simp [encI]   -- R0
 apply hk'
 refine aa.seq ?_
 refine aa.au ae (by decide) fun k' hk'=>?_
 simp   -- R1
 apply hk'
 refine aa.block (aa.b6 l.length (fun k ρ H' n'=>ρ 0 = .list t (l.map al)∧ρ 1=int x∧ρ 7=int l.length∧ρ 8=int k∧∀ i (h:i<l.length),i<k→(x == l[i])=false) ?_ ?_)
 ·simp
 ·rintro k ρ H' n' hk ⟨h0,h1,h7,h8,hno⟩ IH
  refine aa.au ae (by decide) fun k' hk'=>?_
  simp [h7, h8]   -- R2
  apply hk'
  refine aa.seq ?_
  refine aa.ite rfl (fun hc1 => ?_) (fun hc1 => ?_)   -- t9
  ·have hc1:k<l.length:=by simpa using hc1
   refine aa.skip ?_
   refine aa.seq ?_
   refine aa.block ?_
   refine aa.au ae (by decide) fun k' hk'=>?_
   simp [h8]   -- R3
   apply hk'
   refine aa.au ae (by decide) fun k' hk'=>?_
   simp [h0, h1, hc1, al]   -- R4
   apply hk'
   refine aa.ite rfl (fun hc2 => ?_) (fun hc2 => ?_)   -- t16
   ·have hc2:(x == l[k])=true:=by simpa using hc2
    refine aa.au ae (by decide) fun k' hk'=>?_
    simp   -- R5
    apply hk'
    refine aa.ret Tryz.func53 (aK.one Tryz.results53) (hQ _ _ _ _ (.v _ _ _) ?_)
    simp[qC (p:=fun y=>x == y) hc1 hc2 hno]
   ·have hc2:(x == l[k])=false:=by simpa using hc2
    refine aa.skip ?_
    refine aa.inBlock ?_
    refine aa.cg ae (by decide) fun k' hk'=>?_
    simp [h8, aZ (show k < 4611686018427387904 by omega)]   -- R6
    apply hk'
    refine IH hc1 _ _ _ ⟨by simp[h0,al],by simp[h1],by simp[h7],by simp,fun i h hi=>?_⟩
    rcases Nat.lt_or_ge i k with hik | hik
    ·exact hno i h hik
    ·have:i=k:=by omega
     subst this
     exact hc2
  ·have hc1:¬ k<l.length:=by simpa using hc1
   have hke:k=l.length:=by omega
   subst hke
   refine aa.exit rfl ?_
   refine aa.au ae (by decide) fun k' hk'=>?_
   simp   -- R7
   apply hk'
   refine aa.ret Tryz.func53 (aK.one Tryz.results53) (hQ _ _ _ _ (.v _ _ _) ?_)
   simp[qE (p:=fun y=>x == y) fun i h=>hno i h h]
theorem xl (l:List Int) (x:Int) (hl:l.length≤1048576):aq Tryz.prog 47 [encI false l,int x] (fun r=>r=bool (l.any (fun y=>x == y))):=by
 refine aq.of Tryz.func47 rfl Tryz.ntmps47 (by simp) fun Q hQ=>?_
 refine aa.au ae (by decide) fun k' hk'=>?_
 simp [encI]   -- R0
 apply hk'
 refine aa.au ae (by decide) fun k' hk'=>?_
 simp   -- R1
 refine aG.aB ae (Ev false l x hl) e53 (.cons (aF.encI false l) (.cons (.v _ _ _) .nil)) (by decide) (by decide) rfl (by simp[encI]) ?_
 rintro _ rfl
 simp
 apply hk'
 refine aa.ret Tryz.func47 (aK.one Tryz.results47) (hQ _ _ _ _ (.v _ _ _) ?_)
 have:=o7 l (fun y=>x == y)
 simp only[Env.put]
 simp[this]
theorem Ec (l:List Int) (x:Int) (hl:l.length≤1048576):aq Tryz.prog 118 [encI false l,int x] (fun r=>r=bool (l.any (fun y=>x == y))):=by
 refine aq.of Tryz.func118 rfl Tryz.ntmps118 (by simp) fun Q hQ=>?_
 refine aa.au ae (by decide) fun k' hk'=>?_
 simp [encI]   -- R0
 apply hk'
 refine aa.seq ?_
 refine aa.au ae (by decide) fun k' hk'=>?_
 simp   -- R1
 apply hk'
 refine aa.block (aa.b6 l.length (fun k ρ H' n'=>ρ 0 = .list false (l.map al)∧ρ 1=int x∧ρ 5=int k∧∀ i (h:i<l.length),i<k→¬ l[i]=x) ?_ ?_)
 ·simp
 ·rintro k ρ H' n' hk ⟨h0,h1,h5,hno⟩ IH
  refine aa.seq ?_
  refine aa.au ae (by decide) fun k' hk'=>?_
  simp [h0, h5]   -- R2
  apply hk'
  refine aa.ite rfl (fun hc1 => ?_) (fun hc1 => ?_)   -- t9
  ·have hc1:k<l.length:=by simpa using hc1
   refine aa.skip ?_
   refine aa.seq ?_
   refine aa.block ?_
   refine aa.au ae (by decide) fun k' hk'=>?_
   simp [h0, h1, h5, hc1, al]   -- R4
   apply hk'
   refine aa.ite rfl (fun hc2 => ?_) (fun hc2 => ?_)   -- t17
   ·have hc2:l[k]=x:=by simpa using hc2
    refine aa.au ae (by decide) fun k' hk'=>?_
    simp   -- R5
    apply hk'
    refine aa.ret Tryz.func118 (aK.one Tryz.results118) (hQ _ _ _ _ (.v _ _ _) ?_)
    have:l.any (fun y=>x == y)=true:=by
     rw[List.any_eq_true]
     exact⟨l[k],List.getElem_mem hc1,by simp[hc2]⟩
    rw[this]
    try rfl
   ·have hc2:¬ l[k]=x:=by simpa using hc2
    refine aa.skip ?_
    refine aa.inBlock ?_
    refine aa.cg ae (by decide) fun k' hk'=>?_
    simp [h5, aZ (show k < 4611686018427387904 by omega)]   -- R3
    apply hk'
    refine IH hc1 _ _ _ ⟨by simp[h0,al],by simp[h1],by simp,fun i h hi=>?_⟩
    rcases Nat.lt_or_ge i k with hik | hik
    ·exact hno i h hik
    ·have:i=k:=by omega
     subst this
     exact hc2
  ·have hc1:¬ k<l.length:=by simpa using hc1
   have hke:k=l.length:=by omega
   subst hke
   refine aa.exit rfl ?_
   refine aa.au ae (by decide) fun k' hk'=>?_
   simp   -- R6
   apply hk'
   refine aa.ret Tryz.func118 (aK.one Tryz.results118) (hQ _ _ _ _ (.v _ _ _) ?_)
   have:l.any (fun y=>x == y)=false:=by
    rw[List.any_eq_false]
    intro y hy
    obtain⟨i,hi,rfl⟩:=List.getElem_of_mem hy
    have:=hno i hi hi
    simpa using fun h=>this h.symm
   rw[this]
   try rfl
end Go.Ab
/- Contracts of impl.CommonPlace and spec.CommonPlace. -/
namespace Go.Ab
open Go.Proofs
set_option linter.unusedSimpArgs false
end Go.Ab
/- What a valid signature and a valid bigraph are, by names. -/
namespace Go.Ab.Vg
set_option linter.unusedSimpArgs false
set_option linter.unusedVariables false
structure Dq (sig:Sig):Prop where
 len:1≤sig.length∧sig.length≤6
 ports:∀ c ∈ sig,0≤c.ports∧c.ports≤3
 kind:∀ c ∈ sig,0≤c.kind∧c.kind≤2
structure bQ (sig:Sig) (b:Big):Prop where
 sg:Dq sig
 roots:0≤b.roots∧b.roots≤4
 len:b.nodes.length≤8
 slen:b.sites.length≤4
 edges:0≤b.edges∧b.edges≤8
 outer:b.outer.length≤16
 inner:b.inner.length≤16
 ctl:∀ i (h:i<b.nodes.length),0≤b.nodes[i].control∧b.nodes[i].control<sig.length
 par:∀ i (h:i<b.nodes.length),-b.roots≤b.nodes[i].parent∧b.nodes[i].parent<i
 ports:∀ i (h:i<b.nodes.length),(b.nodes[i].links.length:Int)=(sig.getD b.nodes[i].control.toNat default).ports
 links:∀ i (h:i<b.nodes.length),∀ l ∈ b.nodes[i].links,0≤l∧l<b.edges+b.outer.length
 sites:∀ p ∈ b.sites,-b.roots≤p∧p<b.nodes.length
 wires:∀ w ∈ b.inner,0≤w.link∧w.link<b.edges+b.outer.length
theorem tt {sig:Sig} (h:fN sig=true):Dq sig:=by
 simp only[fN,within,cO,Bool.and_eq_true,decide_eq_true_eq,List.all_eq_true,List.mem_range] at h
 obtain⟨h1,h2⟩:=h
 refine⟨by omega,fun c hc=>?_,fun c hc=>?_⟩<;>obtain⟨i,hi,rfl⟩:=List.getElem_of_mem hc<;>have:=h2 i hi<;>simp only[List.getD_eq_getElem?_getD,List.getElem?_eq_getElem hi,Option.getD_some] at this
 ·exact this.1.1.2
 ·exact this.1.2
theorem eX {sig:Sig} {b:Big} (h:fx sig b=true):bQ sig b:=by
 simp only[fx,Bool.and_eq_true,decide_eq_true_eq,List.all_eq_true,List.mem_range] at h
 obtain⟨⟨⟨⟨⟨⟨⟨⟨⟨hs,hr⟩,hn⟩,hst⟩,he⟩,ho⟩,hi⟩,hno⟩,hsi⟩,hw⟩:=h
 have hV:=tt hs
 simp only[within,Bool.and_eq_true,decide_eq_true_eq] at hr he
 simp only[cQ,Bool.and_eq_true,decide_eq_true_eq,List.length_map] at ho hi
 have hno2:∀ i (h:i<b.nodes.length),(0≤b.nodes[i].control∧b.nodes[i].control≤(sig.length:Int) - 1)∧bK sig b b.nodes[i].parent i=true∧(b.nodes[i].links.length:Int)=(sig.getD b.nodes[i].control.toNat default).ports∧∀ l ∈ b.nodes[i].links,dd b l=true:=fun i h=>by
  have:=hno i h
  simp only[cn,within,Bool.and_eq_true,decide_eq_true_eq,List.all_eq_true,List.getD_eq_getElem?_getD,List.getElem?_eq_getElem h,Option.getD_some] at this
  exact⟨this.1.1.1,this.1.1.2,by simpa using this.1.2,this.2⟩
 have hp:∀ p (m:Nat),bK sig b p m=true → -b.roots≤p∧p<m:=fun p m h=>by
  simp only[bK] at h
  split at h
  ·simp only[decide_eq_true_eq] at h;omega
  ·simp only[Bool.and_eq_true,decide_eq_true_eq] at h;omega
 have hl:∀ l,dd b l=true→0≤l∧l<b.edges+b.outer.length:=fun l h=>by
  simp only[dd,within,Bool.and_eq_true,decide_eq_true_eq] at h;omega
 exact⟨hV,hr,hn,hst,he,ho.1,hi.1,fun i h=>by have:=(hno2 i h).1;omega,fun i h=>hp _ _ (hno2 i h).2.1,fun i h=>(hno2 i h).2.2.1,fun i h l hm=>hl l ((hno2 i h).2.2.2 l hm),fun p hm=>hp _ _ (hsi p hm),fun w hm=>hl _ (hw w hm)⟩
theorem at_mem {α:Type} [Inhabited α] {l:List α} {i:Int} (h:0≤i∧i<l.length):at' l i ∈ l:=by
 obtain⟨h1,h2⟩:=pF h rfl
 exact h2 ▸ List.getElem_mem h1
theorem AL {α:Type} [Inhabited α] {l:List α} {i:Int} (h:0≤i∧i<l.length):∃ h':i.toNat<l.length,at' l i=l[i.toNat]:=by
 obtain⟨h1,h2⟩:=pF h rfl
 exact⟨h1,h2.symm⟩
theorem bQ.HD {sig:Sig} {b:Big} (h:bQ sig b) {i:Int} (hi:0≤i∧i<b.nodes.length):0≤(at' b.nodes i).control∧(at' b.nodes i).control<sig.length:=by
 obtain⟨h1,h2⟩:=AL hi;rw[h2];exact h.ctl _ h1
theorem bQ.xf {sig:Sig} {b:Big} (h:bQ sig b) {i:Int} (hi:0≤i∧i<b.nodes.length) : -b.roots≤(at' b.nodes i).parent∧(at' b.nodes i).parent<i:=by
 obtain⟨h1,h2⟩:=AL hi;rw[h2];have:=h.par _ h1;omega
theorem bQ.u1 {sig:Sig} {b:Big} (h:bQ sig b) {i:Int} (hi:0≤i∧i<b.nodes.length):((at' b.nodes i).links.length:Int)=(at' sig (at' b.nodes i).control).ports:=by
 obtain⟨h1,h2⟩:=AL hi
 have h3:=h.ports _ h1
 have h4:=h.ctl _ h1
 rw[h2,h3];simp[at']
theorem bQ.ox {sig:Sig} {b:Big} (h:bQ sig b) {i:Int} (hi:0≤i∧i<b.nodes.length):∀ l ∈ (at' b.nodes i).links,0≤l∧l<b.edges+b.outer.length:=by
 obtain⟨h1,h2⟩:=AL hi;rw[h2];exact h.links _ h1
theorem bQ.jw {sig:Sig} {b:Big} (h:bQ sig b) {i:Int} (hi:0≤i∧i<b.nodes.length):(at' b.nodes i).links.length≤3:=by
 have h1:=h.u1 hi
 have h2:=h.HD hi
 have h3:=h.sg.ports _ (at_mem (l:=sig) h2)
 omega
end Go.Ab.Vg
/- Children of a place: pure conditions of (impl.Bigraph).dX, spec.pE and spec.ju. -/
namespace Go.Ab.Vg
set_option linter.unusedSimpArgs false
set_option linter.unusedVariables false
def gD (b:Big) (p:Int):List Int:=idxs b.nodes (fun x=>decide (x.parent=p)) b.nodes.length
def dA (b:Big) (p:Int):List Int:=idxs b.sites (fun x=>decide (x=p)) b.sites.length
abbrev pE (b:Big) (p:Int):=gD b p
abbrev ef (b:Big) (_:Int):Prop:=b.nodes.length≤1048576
def mq (b:Big) (parent:Int) (Z:(List Int)→Prop):Prop:=
 aw (σ:=Int × (List Int)) (fun (i14,l15) K19=>∀ len20:Int,len20=(b.nodes.length:Int)→∀ c22:Bool,c22=decide (i14<len20)→((c22=true→(0≤i14∧i14<b.nodes.length)∧∀ x25:aj,x25=at' b.nodes i14→∀ c27:Bool,c27=decide (x25.parent=parent)→((c27=true→(l15.length+1≤1073741824)∧∀ l30:List Int,l30=l15++[i14]→(I64 (i14+1))∧∀ v40:Int,v40=i14+1→K19 (v40,l30))∧(c27=false→(I64 (i14+1))∧∀ v43:Int,v43=i14+1→K19 (v43,l15))))∧(c22=false→Z l15))) (0,([]:List Int))
theorem Da (b:Big) (p:Int) (h:ef b p):mq b p (fun y=>y=pE b p):=by
 unfold mq
 refine aw.upL b.nodes.length (fun k out=>out=idxs b.nodes (fun x=>decide (x.parent=p)) k) [] rfl ?_
 rintro k out K hk rfl IH
 have hl:=iA b.nodes (fun x=>decide (x.parent=p)) k
 simp only[ef] at h
 simp only[forall_eq,decide_eq_true_eq,decide_eq_false_iff_not,I64]
 refine⟨fun h1=>⟨by omega,fun h2=>⟨by omega,by omega,?_⟩,fun h2=>⟨by omega,?_⟩⟩,fun h1=>?_⟩
 ·exact IH (by omega) _ (ka _ _ (by simpa using h2)).symm
 ·exact IH (by omega) _ (na _ _ (by simpa using h2)).symm
 ·rw[show k=b.nodes.length by omega];rfl
abbrev ju (b:Big) (p:Int):=dA b p
abbrev du (b:Big) (_:Int):Prop:=b.sites.length≤1048576
def kL (b:Big) (parent:Int) (Z:(List Int)→Prop):Prop:=
 aw (σ:=Int × (List Int)) (fun (i14,l15) K19=>∀ len20:Int,len20=(b.sites.length:Int)→∀ c22:Bool,c22=decide (i14<len20)→((c22=true→(0≤i14∧i14<b.sites.length)∧∀ x25:Int,x25=at' b.sites i14→∀ c27:Bool,c27=decide (x25=parent)→((c27=true→(l15.length+1≤1073741824)∧∀ l30:List Int,l30=l15++[i14]→(I64 (i14+1))∧∀ v40:Int,v40=i14+1→K19 (v40,l30))∧(c27=false→(I64 (i14+1))∧∀ v43:Int,v43=i14+1→K19 (v43,l15))))∧(c22=false→Z l15))) (0,([]:List Int))
theorem zY (b:Big) (p:Int) (h:du b p):kL b p (fun y=>y=ju b p):=by
 unfold kL
 refine aw.upL b.sites.length (fun k out=>out=idxs b.sites (fun x=>decide (x=p)) k) [] rfl ?_
 rintro k out K hk rfl IH
 have hl:=iA b.sites (fun x=>decide (x=p)) k
 simp only[du] at h
 simp only[forall_eq,decide_eq_true_eq,decide_eq_false_iff_not,I64]
 refine⟨fun h1=>⟨by omega,fun h2=>⟨by omega,by omega,?_⟩,fun h2=>⟨by omega,?_⟩⟩,fun h1=>?_⟩
 ·exact IH (by omega) _ (ka _ _ (by simpa using h2)).symm
 ·exact IH (by omega) _ (na _ _ (by simpa using h2)).symm
 ·rw[show k=b.sites.length by omega];rfl
abbrev dX (b:Big) (p:Int):=(gD b p,dA b p)
abbrev bL (b:Big) (_:Int):Prop:=b.nodes.length≤1048576∧b.sites.length≤1048576
def fL (b:Big) (parent:Int) (Z:((List Int) × (List Int))→Prop):Prop:=
 ∀ ny:Int,ny=(b.nodes.length:Int)→aw (σ:=Int × (List Int)) (fun (v20,l21) K26=>∀ c27:Bool,c27=decide (v20<ny)→((c27=true→(0≤v20∧v20<b.nodes.length)∧∀ x30:aj,x30=at' b.nodes v20→∀ c36:Bool,c36=decide (x30.parent=parent)→((c36=true→(l21.length+1≤1073741824)∧∀ l39:List Int,l39=l21++[v20]→(I64 (v20+1))∧∀ v50:Int,v50=v20+1→K26 (v50,l39))∧(c36=false→(I64 (v20+1))∧∀ v53:Int,v53=v20+1→K26 (v53,l21))))∧(c27=false→∀ len55:Int,len55=(b.sites.length:Int)→aw (σ:=Int × (List Int)) (fun (v66,l67) K72=>∀ c73:Bool,c73=decide (v66<len55)→((c73=true→(0≤v66∧v66<b.sites.length)∧∀ x76:Int,x76=at' b.sites v66→∀ c78:Bool,c78=decide (x76=parent)→((c78=true→(l67.length+1≤1073741824)∧∀ l81:List Int,l81=l67++[v66]→(I64 (v66+1))∧∀ v92:Int,v92=v66+1→K72 (v92,l81))∧(c78=false→(I64 (v66+1))∧∀ v95:Int,v95=v66+1→K72 (v95,l67))))∧(c73=false→Z (l21,l67)))) (0,([]:List Int))))) (0,([]:List Int))
theorem tk (b:Big) (p:Int) (h:bL b p):fL b p (fun y=>y=dX b p):=by
 unfold fL
 rintro _ rfl
 simp only[bL] at h
 refine aw.upL b.nodes.length (fun k out=>out=idxs b.nodes (fun x=>decide (x.parent=p)) k) [] rfl ?_
 rintro k out K hk rfl IH
 have hl:=iA b.nodes (fun x=>decide (x.parent=p)) k
 simp only[forall_eq,decide_eq_true_eq,decide_eq_false_iff_not,I64]
 refine⟨fun h1=>⟨by omega,fun h2=>⟨by omega,by omega,?_⟩,fun h2=>⟨by omega,?_⟩⟩,fun h1=>?_⟩
 ·exact IH (by omega) _ (ka _ _ (by simpa using h2)).symm
 ·exact IH (by omega) _ (na _ _ (by simpa using h2)).symm
 rw[show k=b.nodes.length by omega]
 clear hl hk IH K h1
 refine aw.upL b.sites.length (fun k out=>out=idxs b.sites (fun x=>decide (x=p)) k) [] rfl ?_
 rintro k out K hk rfl IH
 have hl:=iA b.sites (fun x=>decide (x=p)) k
 dsimp only
 refine⟨fun h1=>⟨by omega,fun h2=>⟨by omega,by omega,?_⟩,fun h2=>⟨by omega,?_⟩⟩,fun h1=>?_⟩
 ·exact IH (by omega) _ (ka _ _ (by simpa using h2)).symm
 ·exact IH (by omega) _ (na _ _ (by simpa using h2)).symm
 ·rw[show k=b.sites.length by omega];rfl
end Go.Ab.Vg
/- Links' points, redexes: pure conditions of the functions of program and reference. -/
namespace Go.Ab.Vg
set_option linter.unusedSimpArgs false
set_option linter.unusedVariables false
def l9 (b:Big) (l:Int) (i k:Nat):List (Int × Int):=(idxs (at' b.nodes (i:Int)).links (fun x=>decide (x=l)) k).map fun z=>((i:Int),z)
def c5 (b:Big) (l:Int) (i:Nat):List (Int × Int):=((List.range i).map fun j=>l9 b l j (at' b.nodes (j:Int)).links.length).flatten
def bp (b:Big) (l:Int):List (Int × Int):=c5 b l b.nodes.length
def iK (b:Big) (l:Int) (i:Nat):List Str:=((b.inner.take i).filter fun w=>decide (w.link=l)).map (·.name)
def rT (b:Big) (l:Int):List Str:=(b.inner.filter fun w=>decide (w.link=l)).map (·.name)
theorem ei (b:Big) (l:Int) (i:Nat):c5 b l (i+1)=c5 b l i++l9 b l i (at' b.nodes (i:Int)).links.length:=by simp[c5,List.range_succ]
theorem kc (b:Big) (l:Int) (i:Nat):l9 b l i 0=[]:=rfl
theorem oC {b:Big} {l:Int} {i k:Nat} (h:at' (at' b.nodes (i:Int)).links (k:Int)=l):l9 b l i (k+1)=l9 b l i k++[((i:Int),(k:Int))]:=by
 rw[l9,ka _ _ (by simpa using h),List.map_append];rfl
theorem qz {b:Big} {l:Int} {i k:Nat} (h:¬ at' (at' b.nodes (i:Int)).links (k:Int)=l):l9 b l i (k+1)=l9 b l i k:=by
 rw[l9,na _ _ (by simpa using h)];rfl
theorem qV (b:Big) (l:Int) (i k:Nat):(l9 b l i k).length≤k:=by rw[l9,List.length_map];exact iA _ _ _
theorem eS {b:Big} {m:Nat} (h:∀ i,i<b.nodes.length→(at' b.nodes (i:Int)).links.length≤m) (l:Int):∀ i,i≤b.nodes.length→(c5 b l i).length≤m * i
 | 0,_=>by simp[c5]
 | i+1,hi=>by
  rw[ei,List.length_append]
  have h1:=eS h l i (by omega)
  have h2:=qV b l i (at' b.nodes (i:Int)).links.length
  have h3:=h i (by omega)
  rw[Nat.mul_succ];omega
theorem iU {b:Big} {l:Int} {i:Nat} {p:Int × Int}:p ∈ c5 b l i↔∃ j:Nat,j<i∧p.1=j∧0≤p.2∧p.2<(at' b.nodes (j:Int)).links.length∧at' (at' b.nodes (j:Int)).links p.2=l:=by
 simp only[c5,List.mem_flatten,List.mem_map,List.mem_range,l9]
 constructor
 ·rintro⟨_,⟨j,hj,rfl⟩,hp⟩
  obtain⟨z,hz,rfl⟩:=List.mem_map.1 hp
  have:=(j0 _ _).1 hz
  exact⟨j,hj,rfl,this.1,this.2.1,by simpa using this.2.2⟩
 ·rintro⟨j,hj,h1,h2,h3,h4⟩
  refine⟨_,⟨j,hj,rfl⟩,List.mem_map.2 ⟨p.2,(j0 _ _).2 ⟨h2,h3,by simpa using h4⟩,?_⟩⟩
  exact Prod.ext h1.symm rfl
theorem je {b:Big} (l:Int) {i:Nat} (h:i<b.inner.length):iK b l (i+1)=iK b l i++if b.inner[i].link=l then [b.inner[i].name] else []:=by
 rw[iK,List.take_succ_eq_append_getElem h,List.filter_append,List.map_append]
 congr 1
 by_cases hc:b.inner[i].link=l<;>simp[hc]
theorem nx (b:Big) (l:Int) (i:Nat):(iK b l i).length≤i:=by
 rw[iK,List.length_map]
 exact Nat.le_trans (List.length_filter_le _ _) (by simp;omega)
theorem nB (b:Big) (l:Int):iK b l b.inner.length=rT b l:=by simp[iK,rT]
abbrev kR (b:Big):Prop:=b.nodes.length≤1024∧(∀ i,i<b.nodes.length→(at' b.nodes (i:Int)).links.length≤1024)∧b.inner.length≤1048576
theorem bQ.nX {sig:Sig} {b:Big} (h:bQ sig b):kR b:=by
 have h1:=h.len
 have h2:=h.inner
 exact⟨by omega,fun i hi=>by have:=h.jw (i:=i) (by omega);omega,by omega⟩
abbrev eU (b:Big) (_:Int):Prop:=kR b
abbrev fV (b:Big) (l:Int):=bp b l
def kQ (b:Big) (link:Int) (Z:(List (Int × Int))→Prop):Prop:=
 aw (σ:=Int × (List (Int × Int))) (fun (i14,l15) K19=>∀ len20:Int,len20=(b.nodes.length:Int)→∀ c22:Bool,c22=decide (i14<len20)→((c22=true→aw (σ:=Int × (List (Int × Int))) (fun (k31,l32) K36=>(0≤i14∧i14<b.nodes.length)∧∀ x38:aj,x38=at' b.nodes i14→∀ len40:Int,len40=(x38.links.length:Int)→∀ c42:Bool,c42=decide (k31<len40)→((c42=true→(0≤i14∧i14<b.nodes.length)∧∀ x45:aj,x45=at' b.nodes i14→(0≤k31∧k31<x38.links.length)∧∀ x49:Int,x49=at' x38.links k31→∀ c51:Bool,c51=decide (x49=link)→((c51=true→(l32.length+1≤1073741824)∧∀ l56:List (Int × Int),l56=l32++[(i14,k31)]→(I64 (k31+1))∧∀ v66:Int,v66=k31+1→K36 (v66,l56))∧(c51=false→(I64 (k31+1))∧∀ v69:Int,v69=k31+1→K36 (v69,l32))))∧(c42=false→(I64 (i14+1))∧∀ v72:Int,v72=i14+1→K19 (v72,l32)))) (0,l15))∧(c22=false→Z l15))) (0,([]:List (Int × Int)))
theorem zR (b:Big) (l:Int) (h:eU b l):kQ b l (fun y=>y=fV b l):=by
 unfold kQ
 obtain⟨h1,h2,h3⟩:=h
 refine aw.upL b.nodes.length (fun i out=>out=c5 b l i) [] rfl ?_
 rintro i out K hi rfl IH
 simp only[forall_eq,decide_eq_true_eq,decide_eq_false_iff_not]
 refine⟨fun hc=>?_,fun hc=>by rw[show i=b.nodes.length by omega];rfl⟩
 have hi1:i<b.nodes.length:=by omega
 have hpl:=eS h2 l i (by omega)
 have hli:=h2 i hi1
 refine aw.upL (at' b.nodes (i:Int)).links.length (fun k out=>out=c5 b l i++l9 b l i k) _ (by simp[kc]) ?_
 rintro k out K2 hk rfl IH2
 have hrl:=qV b l i k
 dsimp only
 refine⟨by omega,fun hc2=>⟨by omega,by omega,fun hc3=>⟨by simp;omega,by simp only[I64];omega,IH2 (by omega) _ ?_⟩,fun hc3=>⟨by simp only[I64];omega,IH2 (by omega) _ ?_⟩⟩,fun hc2=>⟨by simp only[I64];omega,IH hi1 _ ?_⟩⟩
 ·rw[List.append_assoc,oC hc3]
 ·rw[qz hc3]
 ·rw[show k=(at' b.nodes (i:Int)).links.length by omega,ei]
abbrev oh (b:Big) (_:Int):Prop:=kR b
abbrev yE (b:Big) (l:Int):=rT b l
def ml (b:Big) (link:Int) (Z:(List Str)→Prop):Prop:=
 aw (σ:=Int × (List Str)) (fun (i14,l15) K19=>∀ len20:Int,len20=(b.inner.length:Int)→∀ c22:Bool,c22=decide (i14<len20)→((c22=true→(0≤i14∧i14<b.inner.length)∧∀ x25:aA,x25=at' b.inner i14→∀ c27:Bool,c27=decide (x25.link=link)→((c27=true→(0≤i14∧i14<b.inner.length)∧∀ x30:aA,x30=at' b.inner i14→(l15.length+1≤1073741824)∧∀ l34:List Str,l34=l15++[x25.name]→(I64 (i14+1))∧∀ v44:Int,v44=i14+1→K19 (v44,l34))∧(c27=false→(I64 (i14+1))∧∀ v47:Int,v47=i14+1→K19 (v47,l15))))∧(c22=false→Z l15))) (0,([]:List Str))
theorem Bp (b:Big) (l:Int) (h:oh b l):ml b l (fun y=>y=yE b l):=by
 unfold ml
 obtain⟨h1,h2,h3⟩:=h
 refine aw.upL b.inner.length (fun i out=>out=iK b l i) [] (by simp[iK]) ?_
 rintro i out K hi rfl IH
 have hle:=nx b l i
 simp only[forall_eq,decide_eq_true_eq,decide_eq_false_iff_not]
 refine⟨fun hc=>?_,fun hc=>by rw[show i=b.inner.length by omega,nB]⟩
 have hi1:i<b.inner.length:=by omega
 rw[bY hi1]
 refine⟨by omega,fun hc3=>⟨by omega,by omega,by simp only[I64];omega,IH hi1 _ ?_⟩,fun hc3=>⟨by simp only[I64];omega,IH hi1 _ ?_⟩⟩
 ·rw[je l hi1,if_pos hc3]
 ·rw[je l hi1,if_neg hc3,List.append_nil]
abbrev e5 (b:Big) (_:Int):Prop:=kR b
abbrev iG (b:Big) (l:Int):=(bp b l,rT b l)
def jn (b:Big) (link:Int) (Z:((List (Int × Int)) × (List Str))→Prop):Prop:=
 ∀ ny:Int,ny=(b.nodes.length:Int)→aw (σ:=Int × (List (Int × Int))) (fun (v20,l21) K26=>∀ c27:Bool,c27=decide (v20<ny)→((c27=true→(0≤v20∧v20<b.nodes.length)∧∀ x30:aj,x30=at' b.nodes v20→∀ len36:Int,len36=(x30.links.length:Int)→aw (σ:=Int × (List (Int × Int))) (fun (v47,l48) K53=>∀ c54:Bool,c54=decide (v47<len36)→((c54=true→(0≤v47∧v47<x30.links.length)∧∀ x57:Int,x57=at' x30.links v47→∀ c59:Bool,c59=decide (x57=link)→((c59=true→(l48.length+1≤1073741824)∧∀ l62:List (Int × Int),l62=l48++[(v20,v47)]→(I64 (v47+1))∧∀ v73:Int,v73=v47+1→K53 (v73,l62))∧(c59=false→(I64 (v47+1))∧∀ v76:Int,v76=v47+1→K53 (v76,l48))))∧(c54=false→(I64 (v20+1))∧∀ v79:Int,v79=v20+1→K26 (v79,l48)))) (0,l21))∧(c27=false→∀ len81:Int,len81=(b.inner.length:Int)→aw (σ:=Int × (List Str)) (fun (v92,l93) K98=>∀ c99:Bool,c99=decide (v92<len81)→((c99=true→(0≤v92∧v92<b.inner.length)∧∀ x102:aA,x102=at' b.inner v92→∀ c108:Bool,c108=decide (x102.link=link)→((c108=true→(l93.length+1≤1073741824)∧∀ l111:List Str,l111=l93++[x102.name]→(I64 (v92+1))∧∀ v122:Int,v122=v92+1→K98 (v122,l111))∧(c108=false→(I64 (v92+1))∧∀ v125:Int,v125=v92+1→K98 (v125,l93))))∧(c99=false→Z (l21,l93)))) (0,([]:List Str))))) (0,([]:List (Int × Int)))
theorem xG (b:Big) (l:Int) (h:e5 b l):jn b l (fun y=>y=iG b l):=by
 unfold jn
 obtain⟨h1,h2,h3⟩:=h
 rintro _ rfl
 refine aw.upL b.nodes.length (fun i out=>out=c5 b l i) [] rfl ?_
 rintro i out K hi rfl IH
 simp only[forall_eq,decide_eq_true_eq,decide_eq_false_iff_not]
 refine⟨fun hc=>?_,fun hc=>?_⟩
 ·have hi1:i<b.nodes.length:=by omega
  have hpl:=eS h2 l i (by omega)
  have hli:=h2 i hi1
  refine⟨by omega,aw.upL (at' b.nodes (i:Int)).links.length (fun k out=>out=c5 b l i++l9 b l i k) _ (by simp[kc]) ?_⟩
  rintro k out K2 hk rfl IH2
  have hrl:=qV b l i k
  dsimp only
  refine⟨fun hc2=>⟨by omega,fun hc3=>⟨by simp;omega,by simp only[I64];omega,IH2 (by omega) _ ?_⟩,fun hc3=>⟨by simp only[I64];omega,IH2 (by omega) _ ?_⟩⟩,fun hc2=>⟨by simp only[I64];omega,IH hi1 _ ?_⟩⟩
  ·rw[List.append_assoc,oC hc3]
  ·rw[qz hc3]
  ·rw[show k=(at' b.nodes (i:Int)).links.length by omega,ei]
 ·rw[show i=b.nodes.length by omega]
  refine aw.upL b.inner.length (fun i out=>out=iK b l i) [] (by simp[iK]) ?_
  rintro i out K hi rfl IH
  have hle:=nx b l i
  dsimp only
  refine⟨fun hc=>?_,fun hc=>by rw[show i=b.inner.length by omega,nB];rfl⟩
  have hi1:i<b.inner.length:=by omega
  rw[bY hi1]
  refine⟨by omega,fun hc3=>⟨by omega,by simp only[I64];omega,IH hi1 _ ?_⟩,fun hc3=>⟨by simp only[I64];omega,IH hi1 _ ?_⟩⟩
  ·rw[je l hi1,if_pos hc3]
  ·rw[je l hi1,if_neg hc3,List.append_nil]
abbrev nS (b:Big) (_:Int):Prop:=kR b
abbrev lq (b:Big) (l:Int):Bool:=decide ((bp b l).length=0) && decide ((rT b l).length=0)
def mV (b:Big) (link:Int) (Z:Bool→Prop):Prop:=
 cW (fun (J4:Bool→Prop)=>(eU b link)∧∀ r11:List (Int × Int),r11=fV b link→∀ dq:Int,dq=(r11.length:Int)→∀ c14:Bool,c14=decide (dq=0)→((c14=true→(oh b link)∧∀ r17:List Str,r17=yE b link→∀ len18:Int,len18=(r17.length:Int)→∀ c20:Bool,c20=decide (len18=0)→J4 (c20))∧(c14=false→J4 (false)))) (fun b7=>Z b7)
theorem CE (b:Big) (l:Int) (h:nS b l):mV b l (fun y=>y=lq b l):=by
 unfold mV
 refine⟨fun x=>x=lq b l,?_,fun x h=>h⟩
 simp only[forall_eq,decide_eq_true_eq,decide_eq_false_iff_not,lq]
 refine⟨h,fun h1=>⟨h,?_⟩,fun h1=>?_⟩
 ·simp only[fV] at h1
  simp[show (bp b l).length=0 by omega]
 ·simp only[fV] at h1
  simp[show ¬ (bp b l).length=0 by omega]
abbrev nH (b:Big) (_:Int):Prop:=kR b
abbrev kq (b:Big) (l:Int):Bool:=lq b l
def mm (b:Big) (link:Int) (Z:Bool→Prop):Prop:=
 (e5 b link)∧∀ r5:(List (Int × Int)) × (List Str),r5=iG b link→∀ cK:Int,cK=(r5.1.length:Int)→∀ len8:Int,len8=(r5.2.length:Int)→(I64 (cK+len8))∧∀ v11:Int,v11=cK+len8→∀ c13:Bool,c13=decide (v11=0)→Z c13
theorem CT (b:Big) (l:Int) (h:nH b l):mm b l (fun y=>y=kq b l):=by
 unfold mm
 have h1:(bp b l).length≤1024 * 1024:=Nat.le_trans (eS h.2.1 l _ (Nat.le_refl _)) (by have:=h.1;omega)
 have h2:(rT b l).length≤1048576:=by rw[← nB];have:=nx b l b.inner.length;have:=h.2.2;omega
 simp only[forall_eq]
 refine⟨h,by simp only[I64];omega,?_⟩
 rw[kq,lq,Bool.eq_iff_iff]
 simp only[decide_eq_true_eq,Bool.and_eq_true]
 omega
abbrev eV (b:Big):Bool:=decide (b.sites.length=0) && decide (b.inner.length=0)
abbrev jH (b:Big):Prop:=b.sites.length≤1048576∧b.inner.length≤1048576
def hC (b:Big) (Z:Bool→Prop):Prop:=
 cW (fun (J4:Bool→Prop)=>∀ dt:Int,dt=(b.sites.length:Int)→∀ c12:Bool,c12=decide (dt=0)→((c12=true→∀ len14:Int,len14=(b.inner.length:Int)→∀ c16:Bool,c16=decide (len14=0)→J4 (c16))∧(c12=false→J4 (false)))) (fun b7=>Z b7)
theorem uO (b:Big) (h:jH b):hC b (fun y=>y=eV b):=by
 unfold hC
 refine⟨fun x=>x=eV b,?_,fun x h=>h⟩
 simp only[forall_eq,decide_eq_true_eq,decide_eq_false_iff_not,eV]
 refine⟨fun h1=>?_,fun h1=>?_⟩
 ·simp[show b.sites.length=0 by omega]
 ·simp[show ¬ b.sites.length=0 by omega]
def fD (sig:Sig) (b:Big):Bool:=fx sig b && eV b
abbrev nW (sig:Sig) (b:Big):Prop:=bZ sig b
def mR (sig:List Control) (b:Big) (Z:Bool→Prop):Prop:=
 cW (fun (J4:Bool→Prop)=>(bZ sig b)∧∀ r11:Bool,r11=fx sig b→((r11=true→(jH b)∧∀ r13:Bool,r13=eV b→J4 (r13))∧(r11=false→J4 (false)))) (fun b7=>Z b7)
theorem BY (sig:Sig) (b:Big) (h:nW sig b):mR sig b (fun y=>y=fD sig b):=by
 unfold mR
 refine⟨fun x=>x=fD sig b,?_,fun x h=>h⟩
 simp only[forall_eq]
 refine⟨h,fun h1=>⟨⟨h.sitesLen,h.innerLen⟩,by rw[fD,h1];rfl⟩,fun h1=>by rw[fD,h1];rfl⟩
abbrev vY (sig:Sig) (b:Big):Bool:=fD sig b
abbrev ma (sig:Sig) (b:Big):Prop:=bZ sig b
def lf (sig:List Control) (b:Big) (Z:Bool→Prop):Prop:=
 cW (fun (J4:Bool→Prop)=>(bZ sig b)∧∀ r11:Bool,r11=fx sig b→((r11=true→∀ dq:Int,dq=(b.sites.length:Int)→∀ c14:Bool,c14=decide (dq=0)→((c14=true→∀ len16:Int,len16=(b.inner.length:Int)→∀ c18:Bool,c18=decide (len16=0)→J4 (c18))∧(c14=false→J4 (false))))∧(r11=false→J4 (false)))) (fun b7=>Z b7)
theorem yz (sig:Sig) (b:Big) (h:ma sig b):lf sig b (fun y=>y=vY sig b):=by
 unfold lf
 refine⟨fun x=>x=fD sig b,?_,fun x h=>h⟩
 simp only[forall_eq,decide_eq_true_eq,decide_eq_false_iff_not]
 refine⟨h,fun h1=>⟨fun h2=>?_,fun h2=>?_⟩,fun h1=>by rw[fD,h1];rfl⟩
 ·rw[fD,h1,eV];simp[show b.sites.length=0 by omega]
 ·rw[fD,h1,eV];simp[show ¬ b.sites.length=0 by omega]
def jf (b:Big) (p:Int):Prop:=¬ ((p<0∧((gD b p).length=0∨0<(dA b p).length))∨1<(dA b p).length)
def pM (b:Big):Prop:=b.inner.length=0∧b.roots ≠ 0∧(∀ p,-b.roots≤p→p<b.nodes.length→jf b p)∧∀ l,0≤l→l<b.edges+b.outer.length→kq b l=false
open Classical in
noncomputable def gr (b:Big):Bool:=decide (pM b)
theorem nZ {b:Big}:gr b=true↔pM b:=by simp[gr]
theorem fH {b:Big} (h:¬ pM b):gr b=false:=by simp[gr,h]
abbrev gb (b:Big):Prop:=kR b∧b.sites.length≤1048576∧0≤b.roots∧b.roots≤1024∧0≤b.edges∧b.edges≤1024∧b.outer.length≤1024
noncomputable abbrev wg (b:Big):Bool:=gr b
def k9 (b:Big) (Z:Bool→Prop):Prop:=
 cW (fun (J4:Bool→Prop)=>∀ len71:Int,len71=(b.inner.length:Int)→∀ c73:Bool,c73=decide (0<len71)→((c73=true→J4 (true))∧(c73=false→∀ c75:Bool,c75=decide (b.roots=0)→J4 (c75)))) (fun b7=>((b7=true→Z false)∧(b7=false→(I64 (-b.roots))∧∀ v11:Int,v11 = -b.roots→aw (σ:=Int) (fun placeV15 K18=>∀ len19:Int,len19=(b.nodes.length:Int)→∀ c21:Bool,c21=decide (placeV15<len19)→((c21=true→(bL b placeV15)∧∀ r24:(List Int) × (List Int),r24=dX b placeV15→cW (fun (J25:Bool→Prop)=>∀ c34:Bool,c34=decide (placeV15<0)→((c34=true→∀ len36:Int,len36=(r24.1.length:Int)→∀ c38:Bool,c38=decide (len36=0)→((c38=true→J25 (true))∧(c38=false→∀ len40:Int,len40=(r24.2.length:Int)→∀ c42:Bool,c42=decide (0<len40)→((c42=true→J25 (true))∧(c42=false→∀ len44:Int,len44=(r24.2.length:Int)→∀ c47:Bool,c47=decide (1<len40)→J25 (c47))))))∧(c34=false→∀ len49:Int,len49=(r24.2.length:Int)→∀ c51:Bool,c51=decide (1<len49)→J25 (c51)))) (fun b28=>((b28=true→Z false)∧(b28=false→(I64 (placeV15+1))∧∀ v32:Int,v32=placeV15+1→K18 (v32)))))∧(c21=false→∀ len53:Int,len53=(b.outer.length:Int)→(I64 (b.edges+len53))∧∀ v56:Int,v56=b.edges+len53→aw (σ:=Int) (fun v60 K63=>∀ c64:Bool,c64=decide (v60<v56)→((c64=true→(nH b v60)∧∀ r67:Bool,r67=kq b v60→((r67=true→Z false)∧(r67=false→(I64 (v60+1))∧∀ v69:Int,v69=v60+1→K63 (v69))))∧(c64=false→Z true))) (0)))) (v11))))
theorem yG (b:Big) (h:gb b):k9 b (fun y=>y=wg b):=by
 unfold k9
 obtain⟨hL,hs,hr0,hr1,he0,he1,ho⟩:=h
 have hch:bL b 0:=⟨by have:=hL.1;omega,hs⟩
 have hL1:=hL.1
 simp only[forall_eq,decide_eq_true_eq,decide_eq_false_iff_not]
 refine⟨fun c=>c=true↔¬ (b.inner.length=0∧b.roots ≠ 0),⟨fun h1=>iff_of_true rfl (by omega),fun h1=>by simp only[decide_eq_true_eq];omega⟩,fun c hc=>⟨fun h1=>(fH fun hR=>hc.1 h1 ⟨hR.1,hR.2.1⟩).symm,fun h1=>?_⟩⟩
 have hc0:b.inner.length=0∧b.roots ≠ 0:=Classical.not_not.1 fun h=>by rw[hc.2 h] at h1;cases h1
 refine⟨by simp only[I64];omega,?_⟩
 refine aw.byM (fun place => -b.roots≤place∧place≤b.nodes.length∧∀ p,-b.roots≤p→p<place→jf b p) (fun place=>(b.nodes.length - place).toNat) ⟨by omega,by omega,fun p h1 h2=>by omega⟩ ?_
 rintro place ⟨hp1,hp2,hp3⟩
 refine⟨fun h2=>⟨hch,fun c=>c=true↔¬ jf b place,?_,fun c hc=>⟨fun h3=>(fH fun hR=>hc.1 h3 (hR.2.2.1 place hp1 h2)).symm,fun h3=>⟨by simp only[I64];omega,⟨by omega,by omega,fun p h4 h5=>?_⟩,by omega⟩⟩⟩,fun h2=>?_⟩
 ·simp only[jf]
  refine⟨fun h3=>⟨fun h4=>?_,fun h4=>⟨fun h5=>?_,fun h5=>?_⟩⟩,fun h3=>?_⟩<;>simp only[decide_eq_true_eq,true_iff]<;>omega
 ·have hok:jf b place:=Classical.not_not.1 fun h=>by rw[hc.2 h] at h3;cases h3
  rcases Int.lt_or_le p place with h6 | h6
  ·exact hp3 p h4 h6
  ·rw[show p=place by omega];exact hok
 ·have hN:((b.edges+b.outer.length).toNat:Int)=b.edges+b.outer.length:=by omega
  refine⟨by simp only[I64];omega,aw.up1 (b.edges+b.outer.length).toNat (fun k=>∀ l,0≤l→l<(k:Int)→kq b l=false) (fun l h1 h2=>by omega) ?_⟩
  rintro k K hk hI IH
  refine⟨fun h3=>⟨hL,fun h4=>(fH fun hR=>?_).symm,fun h4=>⟨by simp only[I64];omega,IH (by omega) fun l h5 h6=>?_⟩⟩,fun h3=>?_⟩
  ·have:=hR.2.2.2 k (by omega) h3
   rw[h4] at this;cases this
  ·rcases Int.lt_or_le l k with h7 | h7
   ·exact hI l h5 h7
   ·rw[show l=k by omega];exact h4
  ·exact (nZ.2 ⟨hc0.1,hc0.2,fun p h4 h5=>hp3 p h4 (by omega),fun l h4 h5=>hI l h4 (by omega)⟩).symm
abbrev lx (b:Big):Prop:=gb b
noncomputable abbrev vj (b:Big):Bool:=gr b
def lk (b:Big) (Z:Bool→Prop):Prop:=
 cW (fun (J4:Bool→Prop)=>∀ len83:Int,len83=(b.inner.length:Int)→∀ c85:Bool,c85=decide (0<len83)→((c85=true→J4 (true))∧(c85=false→∀ c87:Bool,c87=decide (b.roots=0)→J4 (c87)))) (fun b7=>((b7=true→Z false)∧(b7=false→aw (σ:=Int) (fun r12 K15=>∀ c16:Bool,c16=decide (r12<b.roots)→((c16=true→cW (fun (J18:Bool→Prop)=>(I64 ((-1) - r12))∧∀ v28:Int,v28=(-1) - r12→(ef b v28)∧∀ r31:List Int,r31=pE b v28→∀ len32:Int,len32=(r31.length:Int)→∀ c34:Bool,c34=decide (len32=0)→((c34=true→J18 (true))∧(c34=false→(I64 ((-1) - r12))∧∀ v37:Int,v37=(-1) - r12→(du b v28)∧∀ r41:List Int,r41=ju b v28→∀ len42:Int,len42=(r41.length:Int)→∀ c44:Bool,c44=decide (0<len42)→J18 (c44)))) (fun b21=>((b21=true→Z false)∧(b21=false→(I64 (r12+1))∧∀ v25:Int,v25=r12+1→K15 (v25)))))∧(c16=false→aw (σ:=Int) (fun i48 K51=>∀ len52:Int,len52=(b.nodes.length:Int)→∀ c54:Bool,c54=decide (i48<len52)→((c54=true→(du b i48)∧∀ r57:List Int,r57=ju b i48→∀ len58:Int,len58=(r57.length:Int)→∀ c60:Bool,c60=decide (1<len58)→((c60=true→Z false)∧(c60=false→(I64 (i48+1))∧∀ v63:Int,v63=i48+1→K51 (v63))))∧(c54=false→aw (σ:=Int) (fun link67 K70=>∀ len71:Int,len71=(b.outer.length:Int)→(I64 (b.edges+len71))∧∀ v74:Int,v74=b.edges+len71→∀ c76:Bool,c76=decide (link67<v74)→((c76=true→(nS b link67)∧∀ r79:Bool,r79=lq b link67→((r79=true→Z false)∧(r79=false→(I64 (link67+1))∧∀ v81:Int,v81=link67+1→K70 (v81))))∧(c76=false→Z true))) (0)))) (0)))) (0))))
theorem yH (b:Big) (h:lx b):lk b (fun y=>y=vj b):=by
 unfold lk
 obtain⟨hL,hs,hr0,hr1,he0,he1,ho⟩:=h
 have hL1:=hL.1
 have hk1:ef b 0:=by simp only[ef];omega
 simp only[forall_eq,decide_eq_true_eq,decide_eq_false_iff_not,pE,ju]
 refine⟨fun c=>c=true↔¬ (b.inner.length=0∧b.roots ≠ 0),⟨fun h1=>iff_of_true rfl (by omega),fun h1=>by simp only[decide_eq_true_eq];omega⟩,fun c hc=>⟨fun h1=>(fH fun hR=>hc.1 h1 ⟨hR.1,hR.2.1⟩).symm,fun h1=>?_⟩⟩
 have hc0:b.inner.length=0∧b.roots ≠ 0:=Classical.not_not.1 fun h=>by rw[hc.2 h] at h1;cases h1
 have hR0:(b.roots.toNat:Int)=b.roots:=by omega
 refine aw.up1 b.roots.toNat (fun k=>∀ r,0≤r→r<(k:Int)→(gD b (-1 - r)).length ≠ 0∧(dA b (-1 - r)).length=0) (fun l h1 h2=>by omega) ?_
 rintro k K hk hI IH
 refine⟨fun h2=>⟨fun c=>c=true↔¬ ((gD b (-1 - (k:Int))).length ≠ 0∧(dA b (-1 - (k:Int))).length=0),⟨by simp only[I64];omega,hk1,fun h3=>iff_of_true rfl (by omega),fun h3=>⟨by simp only[I64];omega,hs,by simp only[decide_eq_true_eq];omega⟩⟩,fun c hc=>⟨fun h3=>(fH fun hR=>?_).symm,fun h3=>⟨by simp only[I64];omega,IH (by omega) fun r h4 h5=>?_⟩⟩⟩,fun h2=>?_⟩
 ·have:=hR.2.2.1 (-1 - (k:Int)) (by omega) (by omega)
  have h4:=hc.1 h3
  simp only[jf] at this
  omega
 ·rcases Int.lt_or_le r k with h6 | h6
  ·exact hI r h4 h6
  ·rw[show r=k by omega]
   exact Classical.not_not.1 fun h=>by rw[hc.2 h] at h3;cases h3
 refine aw.up1 b.nodes.length (fun k=>∀ i,0≤i→i<(k:Int)→¬ 1<(dA b i).length) (fun l h1 h2=>by omega) ?_
 rintro q K2 hq hI2 IH2
 refine⟨fun h3=>⟨hs,fun h4=>(fH fun hR=>?_).symm,fun h4=>⟨by simp only[I64];omega,IH2 (by omega) fun i h5 h6=>?_⟩⟩,fun h3=>?_⟩
 ·have:=hR.2.2.1 q (by omega) h3
  simp only[jf] at this
  omega
 ·rcases Int.lt_or_le i q with h7 | h7
  ·exact hI2 i h5 h7
  ·rw[show i=q by omega];omega
 have hN:((b.edges+b.outer.length).toNat:Int)=b.edges+b.outer.length:=by omega
 refine aw.up1 (b.edges+b.outer.length).toNat (fun k=>∀ l,0≤l→l<(k:Int)→kq b l=false) (fun l h1 h2=>by omega) ?_
 rintro z K3 hz hI3 IH3
 refine⟨by simp only[I64];omega,fun h4=>⟨hL,fun h5=>(fH fun hR=>?_).symm,fun h5=>⟨by simp only[I64];omega,IH3 (by omega) fun l h6 h7=>?_⟩⟩,fun h4=>?_⟩
 ·have:=hR.2.2.2 z (by omega) h4
  simp only[kq] at this
  rw[h5] at this;cases this
 ·rcases Int.lt_or_le l z with h8 | h8
  ·exact hI3 l h6 h8
  ·rw[show l=z by omega];exact h5
 ·refine (nZ.2 ⟨hc0.1,hc0.2,fun p h5 h6=>?_,fun l h5 h6=>hI3 l h5 (by omega)⟩).symm
  simp only[jf]
  rcases Int.lt_or_le p 0 with h7 | h7
  ·have:=hI (-1 - p) (by omega) (by omega)
   rw[show -1 - (-1 - p)=p by omega] at this
   omega
  ·have:=hI2 p h7 (by omega)
   omega
end Go.Ab.Vg
/- The abstract machine, part Sc: copying into an array of the call's own (elements of one cell). -/
namespace Go.Ab
section
variable {P:Program} {N:Nat} {Ty:Types} {ρ:Env} {H:ak} {n:Nat}
variable {d:Option Tmp} {ty:TypeId} {pos:String} {af:Array Edge} {gu:Option (Nat × Bool)}
theorem uw {a:Act} {w w':World} {s x:Operand} {t t':TypeId} {u:Value} (h:(Builtin.copy_ #[t,t'] ty #[a.eval s,a.eval x]).run P w = .ok u w') :
  (execOp a.eval ⟨d,.call ⟨.builtin .copy,#[s,x],#[t,t']⟩,ty,pos,af,gu⟩).run P w = .ok (.value u) w':=by
 simp only[execOp,resolve,invoke,builtin,Sem.run_bind,Sem.run_pure,Result.andThen_ok,List.map_toArray,List.map_cons,List.map_nil,h]
def copied (es new:List (List ag)) (off len:Nat):List (List ag):=es.take off++new.take (min new.length len)++es.drop (off+min new.length len)
theorem sF {es new:List (List ag)} {off len:Nat} (h:off+len≤es.length):(copied es new off len).length=es.length:=by simp[copied];omega
theorem aN.FH (hT:aU P Ty) {t t':TypeId} {dst src:Operand} {j:TI} {id:Id} {g0 off len:Nat} {o:Ob} {els:List (List ag)} (hk:kd Ty t = .slice j) (hj:j.size=1) (hd:ρ.ev dst = .arr id g0 off len) (hl:live H id g0=some o) (ho:o.size=1)
  (hs:dE H (ρ.ev src)=some els) (hes:els.all (·.length == 1)=true) (h1:els.all (fun e=>e.all ay)=true) :
  aN P N ⟨d,.call ⟨.builtin .copy,#[dst,src],#[t,t']⟩,ty,pos,af,gu⟩ ρ H n fun v1 H1 n1=>v1=int (min els.length len:Nat)∧H1=H.set id ⟨1,copied o.els els off len⟩∧n1=n:=by
 refine aN.eA fun c a hH hn g r=>?_
 subst hH
 obtain⟨i,e,hi,hde,hje⟩:=cS hk
 obtain⟨hu,_⟩:=hT t i hi
 rw[hde] at hu
 obtain⟨_,info,zv,hinfo,his,_,_,_⟩:=hT e j hje
 have hs1:(P.info? e).map (·.size)=some 1:=by rw[hinfo];simp[his,hj]
 have rs:=r.ev dst
 rw[hd] at rs
 obtain⟨l1,l2⟩:=dK hl
 have rx:=mh g (r.ev src) hs hes
 generalize hsv:a.eval dst=sv at rs
 generalize hxv:a.eval src=xv at rx
 cases rs with
 | arr _ _ _ _ _ hone hn0 hg hp=>
 obtain⟨p1,ad,cap,rfl,hab,hsp,hlc,hoff,hcl⟩:=hp o l1 l2
 obtain⟨ab,ao,asp⟩:=ad
 simp only at hab hsp hoff
 subst hab hsp
 obtain⟨hB,cl,el,hh,hsz,hel⟩:=g.obj id o l1
 rw[ho] at hsz hoff
 have hsame:min els.length len=0→c.H.set id ⟨1,copied o.els els off len⟩=c.H:=fun h0=>by
  funext q
  by_cases hq:q=id
  ·subst hq
   rw[ak.bB,l1]
   have:copied o.els els off len=o.els:=by simp[copied,h0]
   rw[this,← ho]
  ·exact ak.aQ _ _ hq
 by_cases hm:min els.length len=0
 ·have hrun:(Builtin.copy_ #[t,t'] ty #[a.eval dst,a.eval src]).run P c.w = .ok (goInt 0) c.w:=by
   rw[hsv,hxv]
   rcases rx with ⟨rfl,rfl⟩ | ⟨a2,cap2,news,rfl,_⟩
   ·exact run_copy_nil P c.w t t' ty e _ len cap hu (by rw[hs1];rfl)
   ·exact run_copy_none c.w t t' ty e _ _ len cap els.length cap2 hu hs1 hm
  exact⟨_,_,c,uw hrun,⟨by rw[hm];rfl,(hsame hm).symm,hn⟩,.v _,g,bm.refl c⟩
 ·rcases rx with ⟨rfl,rfl⟩ | ⟨a2,cap2,news,rfl,hnl,hnc,hnr⟩
  ·simp at hm
  have hao:ao=off:=by
   rcases hoff with h | h
   ·omega
   ·omega
  subst hao
  have hog:o.els.length=g0:=l2
  have hml:(news.take (min els.length len)).length=min els.length len:=by rw[List.length_take,hnl];omega
  have hone':∀ v ∈ news.take (min els.length len),v.oneCell'=true:=fun v hv=>DF h1 hnl hnr v (List.mem_of_mem_take hv)
  have hfit:ao+(news.take (min els.length len)).length≤cl.size:=by rw[hml];omega
  have hrun:(Builtin.copy_ #[t,t'] ty #[a.eval dst,a.eval src]).run P c.w = .ok (goInt (news.take (min els.length len)).length) (c.w.setRow (c.β id) (cl.toList.take ao++news.take (min els.length len)++cl.toList.drop (ao+(news.take (min els.length len)).length)).toArray):=by
   rw[hsv,hxv]
   exact run_copy_row P c.w t t' ty e (c.β id) ao len cap a2 els.length cap2 cl el _ hu hs1 hh hml (fun j v hj=>hnc j v (by
    rw[List.getElem?_take] at hj
    split at hj
    ·exact hj
    ·cases hj)) hfit hone'
  have hov:(cl.toList.take ao++news.take (min els.length len)++cl.toList.drop (ao+(news.take (min els.length len)).length)).toArray=over cl ao (news.take (min els.length len)):=rfl
  rw[hov] at hrun
  have hup:=lT g l1 ⟨1,copied o.els els ao len⟩ (c.w.setRow (c.β id) (over cl ao (news.take (min els.length len)))) cl (over cl ao (news.take (min els.length len))) el el ⟨rfl,rfl,rfl⟩ (by simp[World.setRow]) hh (fun k hk=>setRow_other c.w _ k _ hk) (setRow_heap c.w _ cl _ el _ hh)
   (by rw[ic hfit];exact Nat.le_refl _) ho (by rw[sF (by omega)];exact Nat.le_refl _) ⟨?_,?_⟩
  ·exact⟨int (min els.length len:Nat),goInt (news.take (min els.length len)).length,{ c with H:=c.H.set id ⟨1,copied o.els els ao len⟩,w:=c.w.setRow (c.β id) (over cl ao (news.take (min els.length len))) },uw hrun,⟨rfl,rfl,hn⟩,by rw[hml];exact .v _,hup.2,hup.1⟩
  ·rw[ic hfit,sF (by omega)];simpa using hsz
  ·intro q e' he
   simp only[copied] at he
   have hcell:∀ (x:List ag),o.els[q]?=some x→¬ (ao≤q∧q<ao+min els.length len)→x.length=1∧∀ (j:Nat) (y:ag),x[j]?=some y→∃ z,(over cl ao (news.take (min els.length len)))[q * 1+j]?=some z∧Rep c y z:=fun x hx hnot=>by
    obtain⟨h2,h3⟩:=hel q x hx
    rw[ho] at h2 h3
    refine⟨h2,fun j y hy=>?_⟩
    have hj0:j=0:=by have:=(List.getElem?_eq_some_iff.1 hy).1;omega
    subst hj0
    have h4:=h3 0 y hy
    rwa [ke hfit,hml,if_neg (by omega)]
   by_cases c1:q<ao
   ·rw[List.append_assoc,List.getElem?_append_left (by simp;omega),List.getElem?_take,if_pos c1] at he
    exact hcell e' he (by omega)
   ·by_cases c2:q<ao+min els.length len
    ·rw[List.append_assoc,List.getElem?_append_right (by simp;omega),List.getElem?_append_left (by simp;omega),List.getElem?_take] at he
     have hmin:min ao o.els.length=ao:=by omega
     simp only[List.length_take,hmin] at he
     rw[if_pos (by omega)] at he
     obtain⟨h2,h3⟩:=hnr _ e' he
     refine⟨h2,fun j y hy=>?_⟩
     have hj0:j=0:=by have:=(List.getElem?_eq_some_iff.1 hy).1;omega
     subst hj0
     obtain⟨z,hz,hrep⟩:=h3 0 y hy
     refine⟨z,?_,hrep⟩
     show (over cl ao (news.take (min els.length len)))[q * 1+0]?=some z
     rw[ke hfit,hml,if_pos (by omega),List.getElem?_take,if_pos (by omega)]
     rw[← hz];congr 1;omega
    ·rw[List.getElem?_append_right (by simp;omega)] at he
     have hmin:min ao o.els.length=ao:=by omega
     have hmin2:min (min els.length len) els.length=min els.length len:=by omega
     simp only[List.length_append,List.length_take,hmin,hmin2,List.getElem?_drop] at he
     rw[show ao+min els.length len+(q - (ao+min els.length len))=q by omega] at he
     exact hcell e' he (by omega)
theorem aN.FY (hT:aU P Ty) {t t':TypeId} {dst src:Operand} {j:TI} {id:Id} {g0 off len m:Nat} {o:Ob} {els es':List (List ag)} (hk:kd Ty t = .slice j) (hj:j.size=1) (hd:ρ.ev dst = .arr id g0 off len) (hl:live H id g0=some o) (ho:o.size=1)
  (hs:dE H (ρ.ev src)=some els) (hes:els.all (·.length == 1)=true) (h1:els.all (fun e=>e.all ay)=true) (hm:min els.length len=m) (he:copied o.els els off len=es') :
  aN P N ⟨d,.call ⟨.builtin .copy,#[dst,src],#[t,t']⟩,ty,pos,af,gu⟩ ρ H n (isV (int m) (H.set id ⟨1,es'⟩) n):=by
 subst hm he
 exact aN.FH hT hk hj hd hl ho hs hes h1
end
end Go.Ab
/- slices.Repeat of one number. -/
namespace Go.Ab.Vg
set_option linter.unusedSimpArgs false
set_option linter.unusedVariables false
open Go.Proofs
theorem Gk (c:Ctx) (vs:List Value):Rep c (.tup (vs.map ag.v)) (.tuple vs.toArray):=.tup _ _ (by simp) fun i a x ha hx=>by
 rw[List.getElem?_map] at ha
 rw[hx] at ha
 simp only[Option.map_some,Option.some.injEq] at ha
 exact ha ▸ .v x
theorem IK:Ent Tryz.prog 224:=Ent.of Tryz.func224 (by kernel_rfl) rfl
theorem IT:Ent Tryz.prog 195:=Ent.of Tryz.func195 (by kernel_rfl) rfl
theorem za (x y:Nat) (hx:x<18446744073709551616) (hy:y<18446744073709551616):aq Tryz.prog 224 [.v (.int .u64 x),.v (.int .u64 y)] (fun r=>r = .tup [.v (.int .u64 ((x * y / 18446744073709551616:Nat):Int)),.v (.int .u64 ((x * y % 18446744073709551616:Nat):Int))]):=by
 refine aq.wC fun c xs _ r=>?_
 obtain⟨a,b,rfl,ha,hb⟩:=r.HS
 rw[ha.bS,hb.bS]
 refine (Tryz.bits_Mul x y hx hy c.w).mono ?_
 rintro e w' ⟨he,rfl⟩
 exact⟨_,_,he,rfl,.tup _ (by simp),fun c'=>Gk c' [.int .u64 ((x * y / 18446744073709551616:Nat):Int),.int .u64 ((x * y % 18446744073709551616:Nat):Int)],Go.RowKit.Below.refl _ _⟩
def qA (l:List Int) (n:Int):List Int:=List.replicate n.toNat (l.headD 0)
abbrev qd (l:List Int) (n:Int):Prop:=l.length=1∧0≤n∧n≤1048576
theorem zX {v:Int} {N m:Nat} (hm:m≤N):copied ((List.replicate m v++List.replicate (N - m) (0:Int)).map al) ((List.replicate m v).map al) m (N - m)=(List.replicate (m+min m (N - m)) v++List.replicate (N - (m+min m (N - m))) (0:Int)).map al:=by
 simp only[copied,List.length_map,List.length_replicate,← List.map_take,← List.map_drop,← List.map_append]
 congr 1
 refine List.ext_getElem (by simp;omega) fun i h1 h2=>?_
 simp only[List.getElem_append,List.getElem_take,List.getElem_drop,List.getElem_replicate,List.length_append,List.length_take,List.length_replicate]
 repeat' split
 all_goals first | rfl | omega
theorem CL (v n:Int) (h:0≤n∧n≤1048576):a7 Tryz.prog 195 [.list false ([v].map al),int n] (.s [.c]) (fun r=>r = .list true ((List.replicate n.toNat v).map al)):=by
 obtain⟨N,rfl⟩:∃ N:Nat,n=N:=⟨n.toNat,by omega⟩
 refine a7.of Tryz.func195 rfl Tryz.ntmps195 (by simp) fun Q hQ=>?_
 refine aa.au ae (by decide) fun k' hk'=>?_
 simp
 apply hk'
 refine aa.seq ?_
 refine aa.au ae (by decide) fun k' hk'=>?_
 simp
 apply hk'
 refine aa.ite rfl (fun hc1=>?_) (fun hc1=>?_)
 ·simp at hc1;omega
 clear hc1 hk'
 refine aa.skip ?_
 refine aa.au ae (by decide) fun k' hk'=>?_
 simp
 have hw:IntKind.u64.wrap (N:Int)=N:=by simp[IntKind.wrap,IntKind.bits,IntKind.signed];omega
 have hw1:IntKind.u64.wrap 1=1:=by simp[IntKind.wrap,IntKind.bits,IntKind.signed]
 have hwi:IntKind.i64.wrap (N:Int)=N:=wrap64 (by omega) (by omega)
 refine aG.aB ae (za 1 N (by omega) (by omega)) IK (.cons (.v _ _ _) (.cons (.v _ _ _) .nil)) (by decide) (by decide) rfl (by simp[hw,hw1]) ?_
 rintro _ rfl
 have hd:(N:Int) / 18446744073709551616=0:=by omega
 have hm:(N:Int) % 18446744073709551616=N:=by omega
 simp[hd,hm]
 apply hk'
 refine aa.seq ?_
 refine aa.au ae (by decide) fun k' hk'=>?_
 simp
 apply hk'
 refine aa.ite rfl (fun hc1=>?_) (fun hc1=>?_)
 ·simp at hc1;omega
 clear hc1 hk' hw1 hd hm
 refine aa.skip ?_
 refine aa.au ae (by decide) fun k' hk'=>?_
 simp[hwi,show (N:Int)≤1073741824 by omega]
 apply hk'
 refine aa.cut (fun ρ H n=>ρ 0 = .list false [al v]∧ρ 7 = .arr (0,30) N 0 N∧H (0,30)=some ⟨1,(List.replicate N (0:Int)).map al⟩∧n=1) (by simp[al]) ?_
 clear hk' hw hwi
 rintro ρ H _ ⟨h0,h7,hH,rfl⟩
 refine aa.au ae (by decide) fun k' hk'=>?_
 simp[h0,h7]
 refine aG.op ae (by decide) (by decide) rfl (aN.FH (id:=(0,30)) (g0:=N) (off:=0) (len:=N) (o:=⟨1,(List.replicate N (0:Int)).map al⟩) (els:=[v].map al) ae aO rfl (by simp[h7]) (by simp[live,hH]) rfl (by simp[dE,h0]) (by simp[al]) (by simp[al])) ?_
 rintro _ H' n' ⟨rfl,rfl,rfl⟩
 simp
 apply hk'
 refine aa.cut (fun ρ H n=>∃ m:Nat,ρ 7 = .arr (0,30) N 0 N∧ρ 8=int m∧m≤N∧(m=0→N=0)∧H (0,30)=some ⟨1,(List.replicate m v++List.replicate (N - m) (0:Int)).map al⟩∧n=1) ⟨min 1 N,by simp[h7],by simp,by omega,by omega,?_,rfl⟩ ?_
 ·have hc:copied (List.replicate N (al 0)) [al v] 0 N=(List.replicate (min 1 N) v++List.replicate (N - min 1 N) (0:Int)).map al:=by
   rcases Nat.eq_zero_or_pos N with h1 | h1
   ·subst h1;simp[copied]
   ·rw[show min 1 N=1 by omega];simp[copied,show min 1 N=1 by omega]
  simp[hc]
 clear hk' h0 h7 hH
 rintro ρ H _ ⟨m,h7,h8,hm,hm0,hH,rfl⟩
 refine aa.seq ?_
 refine aa.block (aa.EM (fun q ρ H n=>∃ m:Nat,q=N - m∧ρ 7 = .arr (0,30) N 0 N∧ρ 8=int m∧m≤N∧(m=0→N=0)∧H (0,30)=some ⟨1,(List.replicate m v++List.replicate (N - m) (0:Int)).map al⟩∧n=1) (N - m) ⟨m,rfl,h7,h8,hm,hm0,hH,rfl⟩ ?_)
 clear h7 h8 hm hm0 hH
 rintro q ρ H _ ⟨m,rfl,h7,h8,hm,hm0,hH,rfl⟩ IH
 refine aa.seq ?_
 refine aa.au ae (by decide) fun k' hk'=>?_
 have hlen:((List.replicate m v++List.replicate (N - m) (0:Int)).map al).length=N:=by simp;omega
 generalize hels:(List.replicate m v++List.replicate (N - m) (0:Int)).map al=els at hH hlen
 simp[h7,h8,live,hH,hlen]
 apply hk'
 refine aa.ite rfl (fun hc1=>?_) (fun hc1=>?_)
 ·have hc1:m<N:=by simpa using hc1
  refine aa.skip ?_
  refine aa.block ?_
  refine aa.zC ae aD bU (by decide) (by kernel_rfl) fun k' hk'=>?_
  simp[h7,h8,live,hH,hlen,hm]
  have hmm:((m:Int)+(min m (N - m):Nat))=((m+min m (N - m):Nat):Int):=by omega
  refine bn.op ae aD (v:=int (min m (N - m):Nat)) (H':=H.set (0,30) ⟨1,(List.replicate (m+min m (N - m)) v++List.replicate (N - (m+min m (N - m))) (0:Int)).map al⟩) (n':=1) rfl (by decide) (fun h=>by cases h) ?_ ?_
  ·have e2:=zX (v:=v) (N:=N) (m:=m) hm
   rw[hels] at e2
   exact aN.FY (id:=(0,30)) (g0:=N) (off:=m) (len:=N - m) (o:=⟨1,els⟩) (els:=(List.replicate m v).map al) ae aO rfl (by rw[fu (by simp[Op.operands,Call.operands])];simp) (by simp[live,hH,hlen]) rfl
    (by rw[fu (by simp[Op.operands,Call.operands])];simp[dE,live,hH,← hels,List.take_append,show m+(N - m)=N by omega]) (by simp[al]) (by simp[al]) (by simp) e2
  have hwr:IntKind.i64.wrap ((m:Int)+(min m (N - m):Nat))=((m+min m (N - m):Nat):Int):=by rw[hmm];exact wrap64 (by omega) (by omega)
  have hz1:0<min m (N - m):=by omega
  have hz2:m+min m (N - m)≤N:=by omega
  generalize hq:m+min m (N - m)=q at hwr hz2
  generalize min m (N - m)=z at hq hwr hz1
  simp[hwr]
  apply hk'
  refine aa.inBlock ?_
  exact IH (N - q) _ _ _ (by omega) ⟨q,rfl,by simp[h7],by simp,hz2,by omega,by simp,rfl⟩
 ·have hc1:¬ m<N:=by simpa using hc1
  refine aa.exit rfl ?_
  refine aa.au ae (by decide) fun k' hk'=>?_
  simp[h7]
  apply hk'
  have hmN:m=N:=by omega
  subst hmN
  simp at hels
  exact aa.aV (v:=.arr (0,30) m 0 m) Tryz.func195 Tryz.results195 (by simp) (hQ _ _ _ _ (Sep.GL (els:=els) (by simp) hH hlen (by simp) (by simp) (by simp[← hels,al]) (by simp)) (by simp[← hels]))
theorem Ak (l:List Int) (n:Int) (h:qd l n):a7 Tryz.prog 195 [.list false (l.map al),int n] (.s [.c]) (fun r=>r = .list true ((qA l n).map al)):=by
 obtain⟨h1,h2⟩:=h
 match l,h1 with
 | [v],_=>exact CL v n h2
end Go.Ab.Vg
/- Matches: pure conditions of the functions of program and reference. -/
namespace Go.Ab.Vg
set_option linter.unusedSimpArgs false
set_option linter.unusedVariables false
def k7 (l:List Int) (x:Int):Bool:=l.any fun y=>x == y
theorem dY {l:List Int} {x:Int}:k7 l x=true↔x ∈ l:=by simp[k7]
theorem mw {l:List Int} {x:Int}:k7 l x=false↔x ∉ l:=by rw[← dY];simp
def gn (b:Big) (nodes:List Int):Nat→Int→Bool
 | 0,_=>false
 | m+1,p=>if p<0 then false else if p ∈ nodes then true else gn b nodes m (at' b.nodes p).parent
def cC (b:Big) (nodes:List Int) (p:Int):Bool:=gn b nodes (p+1).toNat p
theorem qa {b:Big} (hd:∀ i:Int,0≤i→i<b.nodes.length→(at' b.nodes i).parent<i) (nodes:List Int):∀ (m m':Nat) (p:Int),p<b.nodes.length→p+1≤m→p+1≤m'→gn b nodes m p=gn b nodes m' p
 | 0,0,_,_,_,_=>rfl
 | 0,m'+1,p,_,h,_=>by rw[gn,gn,if_pos (by omega)]
 | m+1,0,p,_,_,h=>by rw[gn,gn,if_pos (by omega)]
 | m+1,m'+1,p,h,h1,h2=>by
  rw[gn,gn]
  split
  ·rfl
  ·split
   ·rfl
   ·have:=hd p (by omega) h
    exact qa hd nodes m m' _ (by omega) (by omega) (by omega)
theorem og {b:Big} {nodes:List Int} {p:Int} (h:p<0):cC b nodes p=false:=by
 rw[cC,show (p+1).toNat=0 by omega];rfl
theorem tP {b:Big} {nodes:List Int} {p:Int} (h:0≤p) (hm:p ∈ nodes):cC b nodes p=true:=by
 rw[cC,show (p+1).toNat=p.toNat+1 by omega,gn,if_neg (by omega),if_pos hm]
theorem pC {b:Big} (hd:∀ i:Int,0≤i→i<b.nodes.length→(at' b.nodes i).parent<i) {nodes:List Int} {p:Int} (h:0≤p) (hl:p<b.nodes.length) (hm:p ∉ nodes):cC b nodes p=cC b nodes (at' b.nodes p).parent:=by
 have:=hd p h hl
 rw[cC,show (p+1).toNat=p.toNat+1 by omega,gn,if_neg (by omega),if_neg hm,cC]
 exact qa hd nodes _ _ _ (by omega) (by omega) (by omega)
abbrev oX (b:Big):Prop:=b.nodes.length≤1048576∧∀ i:Int,0≤i→i<b.nodes.length→(at' b.nodes i).parent<i
theorem bQ.om {sig:Sig} {b:Big} (h:bQ sig b):oX b:=⟨by have:=h.len;omega,fun i h0 h1=>(h.xf ⟨h0,h1⟩).2⟩
abbrev iZ (b:Big) (p:Int) (nodes:List Int):Prop:=oX b∧p<b.nodes.length∧nodes.length≤1048576
abbrev m6 (b:Big) (p:Int) (nodes:List Int):Bool:=cC b nodes p
def kO (b:Big) (place:Int) (nodes:List Int) (Z:Bool→Prop):Prop:=
 aw (σ:=Int) (fun placeV6 K9=>∀ c10:Bool,c10=decide (0≤placeV6)→((c10=true→(nodes.length≤1048576)∧∀ r13:Bool,r13=k7 nodes placeV6→((r13=true→Z true)∧(r13=false→(0≤placeV6∧placeV6<b.nodes.length)∧∀ x15:aj,x15=at' b.nodes placeV6→K9 (x15.parent))))∧(c10=false→Z false))) (place)
theorem zU (b:Big) (p:Int) (nodes:List Int) (h:iZ b p nodes):kO b p nodes (fun y=>y=m6 b p nodes):=by
 unfold kO
 obtain⟨⟨hn,hd⟩,hp,hl⟩:=h
 simp only[forall_eq,decide_eq_true_eq,decide_eq_false_iff_not]
 refine aw.byM (fun q=>q<b.nodes.length∧cC b nodes q=cC b nodes p) (fun q=>(q+1).toNat) ⟨hp,rfl⟩ ?_
 rintro q ⟨h1,h2⟩
 refine⟨fun h3=>⟨hl,fun h4=>?_,fun h4=>⟨⟨h3,h1⟩,⟨?_,?_⟩,?_⟩⟩,fun h3=>?_⟩
 ·rw[m6,← h2,tP h3 (dY.1 h4)]
 ·have:=hd q h3 h1;omega
 ·rw[← h2,pC hd h3 h1 (mw.1 h4)]
 ·have:=hd q h3 h1;omega
 ·rw[m6,← h2,og (by omega)]
abbrev gO (b:Big) (m:Match) (p:Int):Prop:=oX b∧p<b.nodes.length∧m.nodes.length≤1048576
abbrev gh (b:Big) (m:Match) (p:Int):Bool:=cC b m.nodes p
def jb (agent:Big) (m:Match) (place:Int) (Z:Bool→Prop):Prop:=
 aw (σ:=Int) (fun placeV7 K10=>∀ c11:Bool,c11=decide (0≤placeV7)→((c11=true→(m.nodes.length≤1048576)∧∀ r14:Bool,r14=k7 m.nodes placeV7→((r14=true→Z true)∧(r14=false→(0≤placeV7∧placeV7<agent.nodes.length)∧∀ x16:aj,x16=at' agent.nodes placeV7→K10 (x16.parent))))∧(c11=false→Z false))) (place)
theorem wK (b:Big) (m:Match) (p:Int) (h:gO b m p):jb b m p (fun y=>y=gh b m p):=by
 unfold jb
 obtain⟨⟨hn,hd⟩,hp,hl⟩:=h
 simp only[forall_eq,decide_eq_true_eq,decide_eq_false_iff_not]
 refine aw.byM (fun q=>q<b.nodes.length∧cC b m.nodes q=cC b m.nodes p) (fun q=>(q+1).toNat) ⟨hp,rfl⟩ ?_
 rintro q ⟨h1,h2⟩
 refine⟨fun h3=>⟨hl,fun h4=>?_,fun h4=>⟨⟨h3,h1⟩,⟨?_,?_⟩,?_⟩⟩,fun h3=>?_⟩
 ·rw[gh,← h2,tP h3 (dY.1 h4)]
 ·have:=hd q h3 h1;omega
 ·rw[← h2,pC hd h3 h1 (mw.1 h4)]
 ·have:=hd q h3 h1;omega
 ·rw[gh,← h2,og (by omega)]
def gz (agent:Big) (nodes:List Int) (p:Int × Int):Int:=at' (at' agent.nodes (at' nodes p.1)).links p.2
def cV (agent:Big) (nodes:List Int) (l:List (Int × Int)):Int:=match l with | [] => -1 | p::_=>gz agent nodes p
abbrev ep (redex agent:Big) (nodes:List Int) (l:Int):Int:=cV agent nodes (bp redex l)
def qU (redex agent:Big) (nodes:List Int) (l:Int):Prop:=(∀ p ∈ bp redex l,gz agent nodes p=ep redex agent nodes l)∧(l<redex.edges→ep redex agent nodes l<agent.edges∧(bp agent (ep redex agent nodes l)).length=(bp redex l).length)
def l6 (redex agent:Big) (nodes:List Int):Prop:=∀ l:Int,0≤l→l<redex.edges+redex.outer.length→qU redex agent nodes l
open Classical in
noncomputable def pe (redex agent:Big) (nodes:List Int):List Int × Bool:=
 if l6 redex agent nodes then ((List.range (redex.edges+redex.outer.length).toNat).map fun l:Nat=>ep redex agent nodes (l:Int),true) else ([],false)
def cP (redex:Big) (m:Match) (k:Int):Int:=if 0≤(at' redex.nodes k).parent then at' m.nodes (at' redex.nodes k).parent else at' m.roots (-1 - (at' redex.nodes k).parent)
def yo (redex agent:Big) (m:Match) (k:Int):Prop:=
 (at' agent.nodes (at' m.nodes k)).control=(at' redex.nodes k).control∧(at' agent.nodes (at' m.nodes k)).parent=cP redex m k∧((dA redex k).length=0→∀ c ∈ gD agent (at' m.nodes k),c ∈ m.nodes)
def uA (redex agent:Big) (nodes:List Int):Prop:=nodes.length=redex.nodes.length∧∀ i:Nat,i<nodes.length→dS agent (at' nodes (i:Int))=true∧at' nodes (i:Int) ∉ nodes.take i
def gS (redex agent:Big) (m:Match):Prop:=(m.roots.length:Int)=redex.roots∧∀ p ∈ m.roots,-agent.roots≤p∧p<agent.nodes.length∧cC agent m.nodes p=false
def pD (redex agent:Big) (m:Match):Prop:=uA redex agent m.nodes∧gS redex agent m∧(∀ k:Nat,k<redex.nodes.length→yo redex agent m (k:Int))∧l6 redex agent m.nodes
open Classical in
noncomputable def ee (redex agent:Big) (m:Match):Bool:=decide (pD redex agent m)
theorem nu {redex agent:Big} {m:Match}:ee redex agent m=true↔pD redex agent m:=by simp[ee]
theorem fG {redex agent:Big} {m:Match} (h:¬ pD redex agent m):ee redex agent m=false:=by simp[ee,h]
abbrev MSz (m:Match):Prop:=m.nodes.length≤1048576∧m.roots.length≤1048576
structure Eg (sig:Sig) (redex agent:Big):Prop where
 r:bQ sig redex
 a:bQ sig agent
 red:pM redex
def fS (c:Int) (v_:Match) (Z:Bool→Prop):Prop:=
 (v_.nodes.length≤1048576)∧∀ r3:Bool,r3=k7 v_.nodes c→Z (!r3)
abbrev db (c:Int) (m:Match):Bool := !(k7 m.nodes c)
abbrev dk (c:Int) (m:Match):Prop:=m.nodes.length≤1048576
theorem sS (c:Int) (m:Match) (h:dk c m):fS c m (fun y=>y=db c m):=by
 unfold fS
 exact⟨h,by rintro _ rfl;rfl⟩
def vo (redex agent:Big) (m:Match):Prop:=∀ k:Nat,k<redex.nodes.length→yo redex agent m (k:Int)
open Classical in
noncomputable def ek (redex agent:Big) (m:Match):Bool:=decide (vo redex agent m)
theorem gH {redex agent:Big} {m:Match} (h:¬ vo redex agent m):ek redex agent m=false:=by simp[ek,h]
theorem sQ {redex agent:Big} {m:Match} (h:vo redex agent m):ek redex agent m=true:=by simp[ek,h]
theorem nf {redex agent:Big} {m:Match}:ek redex agent m=true↔vo redex agent m:=by simp[ek]
abbrev ov (agent:Big) (nodes:List Int) (n:Nat):Prop:=nodes.length=n∧∀ i:Nat,i<nodes.length→0≤at' nodes (i:Int)∧at' nodes (i:Int)<agent.nodes.length
abbrev jN (redex agent:Big) (m:Match):Prop:=(∃ sig,Eg sig redex agent)∧ov agent m.nodes redex.nodes.length∧(m.roots.length:Int)=redex.roots
def gI (redex:Big) (agent:Big) (m:Match) (Z:Bool→Prop):Prop:=
 ∀ cK:Int,cK=(redex.nodes.length:Int)→aw (σ:=Int) (fun v10 K13=>∀ c14:Bool,c14=decide (v10<cK)→((c14=true→(0≤v10∧v10<redex.nodes.length)∧∀ x17:aj,x17=at' redex.nodes v10→(0≤v10∧v10<m.nodes.length)∧∀ x22:Int,x22=at' m.nodes v10→(0≤x22∧x22<agent.nodes.length)∧∀ x25:aj,x25=at' agent.nodes x22→∀ c29:Bool,c29=decide (0≤x17.parent)→((c29=true→(0≤x17.parent∧x17.parent<m.nodes.length)∧∀ x32:Int,x32=at' m.nodes x17.parent→cW (fun (J34:Bool→Prop)=>∀ c60:Bool,c60=decide (x25.control ≠ x17.control)→((c60=true→J34 (true))∧(c60=false→∀ c62:Bool,c62=decide (x25.parent ≠ x32)→J34 (c62)))) (fun b37=>((b37=true→Z false)∧(b37=false→(bL redex v10)∧∀ r41:(List Int) × (List Int),r41=dX redex v10→∀ len42:Int,len42=(r41.2.length:Int)→∀ c44:Bool,c44=decide (0<len42)→((c44=true→(I64 (v10+1))∧∀ v47:Int,v47=v10+1→K13 (v47))∧(c44=false→(0≤v10∧v10<m.nodes.length)∧∀ x50:Int,x50=at' m.nodes v10→(bL agent x50)∧∀ r53:(List Int) × (List Int),r53=dX agent x50→(r53.1.length≤1048576∧∀ z ∈ r53.1,dk z m)∧∀ r56:Bool,r56=r53.1.any (fun z=>db z m)→((r56=true→Z false)∧(r56=false→(I64 (v10+1))∧∀ v58:Int,v58=v10+1→K13 (v58)))))))))∧(c29=false→(I64 ((-1) - x17.parent))∧∀ v65:Int,v65=(-1) - x17.parent→(0≤v65∧v65<m.roots.length)∧∀ x68:Int,x68=at' m.roots v65→cW (fun (J70:Bool→Prop)=>∀ c96:Bool,c96=decide (x25.control ≠ x17.control)→((c96=true→J70 (true))∧(c96=false→∀ c98:Bool,c98=decide (x25.parent ≠ x68)→J70 (c98)))) (fun b73=>((b73=true→Z false)∧(b73=false→(bL redex v10)∧∀ r77:(List Int) × (List Int),r77=dX redex v10→∀ len78:Int,len78=(r77.2.length:Int)→∀ c80:Bool,c80=decide (0<len78)→((c80=true→(I64 (v10+1))∧∀ v83:Int,v83=v10+1→K13 (v83))∧(c80=false→(0≤v10∧v10<m.nodes.length)∧∀ x86:Int,x86=at' m.nodes v10→(bL agent x86)∧∀ r89:(List Int) × (List Int),r89=dX agent x86→(r89.1.length≤1048576∧∀ z ∈ r89.1,dk z m)∧∀ r92:Bool,r92=r89.1.any (fun z=>db z m)→((r92=true→Z false)∧(r92=false→(I64 (v10+1))∧∀ v94:Int,v94=v10+1→K13 (v94)))))))))))∧(c14=false→Z true))) (0)
theorem vl (redex agent:Big) (m:Match) (h:jN redex agent m):gI redex agent m (fun y=>y=ek redex agent m):=by
 unfold gI
 obtain⟨⟨sig,hP⟩,⟨hlen,hin⟩,hroots⟩:=h
 have hr8:=hP.r.len
 have ha8:=hP.a.len
 have hrr:=hP.r.roots
 have hcr:bL redex 0:=⟨by omega,by have:=hP.r.slen;omega⟩
 have hca:bL agent 0:=⟨by omega,by have:=hP.a.slen;omega⟩
 simp only[forall_eq,decide_eq_true_eq,decide_eq_false_iff_not]
 refine aw.up1 redex.nodes.length (fun k=>∀ j:Nat,j<k→yo redex agent m j) (fun j hj=>by omega) ?_
 rintro k K hk hI IH
 refine⟨fun hc=>?_,fun hc=>(sQ fun j hj=>hI j (by omega)).symm⟩
 have hk1:k<redex.nodes.length:=by omega
 have hpar:=hP.r.xf (i:=k) ⟨by omega,by omega⟩
 have him:=hin k (by omega)
 have hkl:(gD agent (at' m.nodes (k:Int))).length≤agent.nodes.length:=iA _ _ _
 have hnext:yo redex agent m k→∀ j:Nat,j<k+1→yo redex agent m j:=fun h j hj=>by
  rcases Nat.lt_or_ge j k with h1 | h1
  ·exact hI j h1
  ·rw[show j=k by omega];exact h
 refine⟨by omega,by omega,him,fun h1=>⟨by omega,?_⟩,fun h1=>⟨by simp only[I64];omega,by omega,?_⟩⟩
 ·have hx:at' m.nodes (at' redex.nodes (k:Int)).parent=cP redex m k:=by rw[cP,if_pos h1]
  generalize at' m.nodes (at' redex.nodes (k:Int)).parent=x at hx ⊢
  refine⟨fun c=>c=true↔¬ ((at' agent.nodes (at' m.nodes (k:Int))).control=(at' redex.nodes (k:Int)).control∧(at' agent.nodes (at' m.nodes (k:Int))).parent=x),⟨fun h2=>iff_of_true rfl (fun h3=>h2 h3.1),fun h2=>by simp only[decide_eq_true_eq];exact⟨fun h3 h4=>h3 h4.2,fun h3 h4=>h3 ⟨Classical.not_not.1 h2,h4⟩⟩⟩,fun c hc=>⟨fun h3=>(gH fun hA=>?_).symm,fun h3=>?_⟩⟩
  ·have:=hA k hk1
   exact hc.1 h3 ⟨this.1,by rw[hx];exact this.2.1⟩
  have hcp:=Classical.not_not.1 (fun h=>by rw[hc.2 h] at h3;cases h3)
  refine⟨hcr,fun h4=>⟨by simp only[I64];omega,IH hk1 fun j hj=>hnext ⟨hcp.1,by rw[← hx];exact hcp.2,fun h0=>by omega⟩ j hj⟩,fun h4=>⟨by omega,hca,⟨by omega,fun z _=>by simp only[dk];omega⟩,fun h5=>(gH fun hA=>?_).symm,fun h5=>⟨by simp only[I64];omega,IH hk1 fun j hj=>hnext ⟨hcp.1,by rw[← hx];exact hcp.2,fun _ c hcm=>?_⟩ j hj⟩⟩⟩
  ·obtain⟨z,hz,hz2⟩:=List.any_eq_true.1 h5
   have:=(hA k hk1).2.2 (by omega) z hz
   rw[db,dY.2 this] at hz2
   cases hz2
  ·have:=List.any_eq_false.1 h5 c hcm
   rw[db] at this
   simpa using dY.1 (by simpa using this)
 ·have hx:at' m.roots (-1 - (at' redex.nodes (k:Int)).parent)=cP redex m k:=by rw[cP,if_neg h1]
  generalize at' m.roots (-1 - (at' redex.nodes (k:Int)).parent)=x at hx ⊢
  refine⟨fun c=>c=true↔¬ ((at' agent.nodes (at' m.nodes (k:Int))).control=(at' redex.nodes (k:Int)).control∧(at' agent.nodes (at' m.nodes (k:Int))).parent=x),⟨fun h2=>iff_of_true rfl (fun h3=>h2 h3.1),fun h2=>by simp only[decide_eq_true_eq];exact⟨fun h3 h4=>h3 h4.2,fun h3 h4=>h3 ⟨Classical.not_not.1 h2,h4⟩⟩⟩,fun c hc=>⟨fun h3=>(gH fun hA=>?_).symm,fun h3=>?_⟩⟩
  ·have:=hA k hk1
   exact hc.1 h3 ⟨this.1,by rw[hx];exact this.2.1⟩
  have hcp:=Classical.not_not.1 (fun h=>by rw[hc.2 h] at h3;cases h3)
  refine⟨hcr,fun h4=>⟨by simp only[I64];omega,IH hk1 fun j hj=>hnext ⟨hcp.1,by rw[← hx];exact hcp.2,fun h0=>by omega⟩ j hj⟩,fun h4=>⟨by omega,hca,⟨by omega,fun z _=>by simp only[dk];omega⟩,fun h5=>(gH fun hA=>?_).symm,fun h5=>⟨by simp only[I64];omega,IH hk1 fun j hj=>hnext ⟨hcp.1,by rw[← hx];exact hcp.2,fun _ c hcm=>?_⟩ j hj⟩⟩⟩
  ·obtain⟨z,hz,hz2⟩:=List.any_eq_true.1 h5
   have:=(hA k hk1).2.2 (by omega) z hz
   rw[db,dY.2 this] at hz2
   cases hz2
  ·have:=List.any_eq_false.1 h5 c hcm
   rw[db] at this
   simpa using dY.1 (by simpa using this)
theorem wy {α:Type} [Inhabited α] (l:List α) (p:α→Bool) {k k':Nat} (h:k≤k'):idxs l p k <+: idxs l p k':=by
 induction h with
 | refl=>exact List.prefix_refl _
 | @step q _ ih=>
  refine ih.trans ?_
  rcases Bool.eq_false_or_eq_true (p (at' l (q:Int))) with h | h
  ·rw[ka _ _ h];exact List.prefix_append _ _
  ·rw[na _ _ h];exact List.prefix_refl _
theorem yn (b:Big) (l:Int) (i:Nat) {k k':Nat} (h:k≤k'):l9 b l i k <+: l9 b l i k':=List.IsPrefix.map _ (wy _ _ h)
theorem rP (b:Big) (l:Int) {i i':Nat} (h:i≤i'):c5 b l i <+: c5 b l i':=by
 induction h with
 | refl=>exact List.prefix_refl _
 | step _ ih=>exact ih.trans (by rw[ei];exact List.prefix_append _ _)
def dW (b:Big) (l:Int) (i k:Nat):List (Int × Int):=c5 b l i++l9 b l i k
theorem pW {b:Big} (l:Int) {i k:Nat} (hi:i<b.nodes.length) (hk:k≤(at' b.nodes (i:Int)).links.length):dW b l i k <+: bp b l:=by
 have h1:dW b l i k <+: c5 b l (i+1):=by
  rw[dW,ei]
  exact (List.prefix_append_right_inj _).2 (yn _ _ _ hk)
 exact h1.trans (rP _ _ (by omega))
theorem qY {agent:Big} {nodes:List Int} {P Q:List (Int × Int)} (h:P <+: Q) (hne:P ≠ []):cV agent nodes P=cV agent nodes Q:=by
 obtain⟨t,rfl⟩:=h
 cases P with
 | nil=>exact absurd rfl hne
 | cons a P=>rfl
theorem oZ {agent:Big} {nodes:List Int} (P:List (Int × Int)) (p:Int × Int):cV agent nodes (P++[p])=if P=[] then gz agent nodes p else cV agent nodes P:=by
 cases P<;>simp[cV]
theorem kg {redex agent:Big} {nodes:List Int} (h:¬ l6 redex agent nodes):pe redex agent nodes=([],false):=by rw[pe,if_neg h]
theorem kZ {redex agent:Big} {nodes:List Int} (h:l6 redex agent nodes):pe redex agent nodes=((List.range (redex.edges+redex.outer.length).toNat).map fun l:Nat=>ep redex agent nodes (l:Int),true):=by rw[pe,if_pos h]
def gA (redex agent:Big) (nodes:List Int) (i k:Nat):List Int:=(List.range (redex.edges+redex.outer.length).toNat).map fun l:Nat=>cV agent nodes (dW redex (l:Int) i k)
theorem yh {redex agent:Big} {nodes:List Int} {i k:Nat} {l:Int} (h0:0≤l) (h:l<redex.edges+redex.outer.length):at' (gA redex agent nodes i k) l=cV agent nodes (dW redex l i k):=by
 obtain⟨q,rfl⟩:∃ q:Nat,l=q:=⟨l.toNat,by omega⟩
 rw[bY (by simp[gA];omega)]
 simp[gA]
theorem tU (redex agent:Big) (nodes:List Int) (i k:Nat):(gA redex agent nodes i k).length=(redex.edges+redex.outer.length).toNat:=by simp[gA]
theorem Cc {redex agent:Big} {nodes:List Int} {i k:Nat} {l:Int} (h0:0≤l) (hl:at' (at' redex.nodes (i:Int)).links (k:Int)=l) (hx:dW redex l i k=[]∨gz agent nodes ((i:Int),(k:Int))=cV agent nodes (dW redex l i k)) :
  (gA redex agent nodes i k).set l.toNat (gz agent nodes ((i:Int),(k:Int)))=gA redex agent nodes i (k+1):=by
 refine List.ext_getElem (by simp[gA]) fun q h1 h2=>?_
 simp only[gA,List.getElem_set,List.getElem_map,List.getElem_range]
 split
 ·rename_i hq
  have hq2:((q:Nat):Int)=l:=by omega
  rw[hq2,dW,oC hl,← List.append_assoc,oZ]
  split
  ·rfl
  ·rename_i hne
   exact hx.resolve_left hne
 ·rename_i hq
  rw[dW,dW,qz (by rw[hl];omega)]
theorem tZ (b:Big) (l:Int) (i:Nat):dW b l i (at' b.nodes (i:Int)).links.length=dW b l (i+1) 0:=by simp[dW,ei,kc]
theorem sf (b:Big) (l:Int):dW b l b.nodes.length 0=bp b l:=by simp[dW,bp,kc]
theorem ui (b:Big) (l:Int):dW b l 0 0=[]:=by simp[dW,c5,kc]
abbrev dn (redex agent:Big) (nodes:List Int):Prop:=(∃ sig,Eg sig redex agent)∧ov agent nodes redex.nodes.length∧∀ k:Nat,k<redex.nodes.length→(at' agent.nodes (at' nodes (k:Int))).control=(at' redex.nodes (k:Int)).control
theorem zc {redex agent:Big} {nodes:List Int} (h:dn redex agent nodes) {l:Int} {p:Int × Int} (hp:p ∈ bp redex l) :
  (0≤p.1∧p.1<nodes.length)∧(0≤at' nodes p.1∧at' nodes p.1<agent.nodes.length)∧(0≤p.2∧p.2<(at' agent.nodes (at' nodes p.1)).links.length)∧0≤gz agent nodes p:=by
 obtain⟨⟨sig,hP⟩,⟨hlen,hin⟩,hctl⟩:=h
 obtain⟨j,hj,h1,h2,h3,_⟩:=iU.1 hp
 have hi:=hin j (by omega)
 have e1:=hP.r.u1 (i:=j) ⟨by omega,by omega⟩
 have e2:=hP.a.u1 hi
 rw[hctl j hj] at e2
 have h4:p.2<(at' agent.nodes (at' nodes p.1)).links.length:=by rw[h1];omega
 rw[← h1] at hi
 exact⟨by omega,hi,⟨h2,h4⟩,(hP.a.ox hi _ (at_mem ⟨h2,h4⟩)).1⟩
noncomputable abbrev eQ (redex agent:Big) (nodes:List Int):=pe redex agent nodes
def fU (redex:Big) (agent:Big) (nodes:List Int) (Z:((List Int) × Bool)→Prop):Prop:=
 ∀ uI:Int,uI=(redex.outer.length:Int)→(I64 (redex.edges+uI))∧∀ v8:Int,v8=redex.edges+uI→(qd [(-1)] v8)∧∀ r11:List Int,r11=qA [(-1)] v8→∀ len21:Int,len21=(redex.nodes.length:Int)→aw (σ:=Int × (List Int)) (fun (v30,l31) K35=>∀ c36:Bool,c36=decide (v30<len21)→((c36=true→(0≤v30∧v30<redex.nodes.length)∧∀ x39:aj,x39=at' redex.nodes v30→∀ len44:Int,len44=(x39.links.length:Int)→aw (σ:=Int × (List Int)) (fun (v53,l54) K58=>∀ c59:Bool,c59=decide (v53<len44)→((c59=true→(0≤v53∧v53<x39.links.length)∧∀ x62:Int,x62=at' x39.links v53→(0≤v30∧v30<nodes.length)∧∀ x65:Int,x65=at' nodes v30→(0≤x65∧x65<agent.nodes.length)∧∀ x68:aj,x68=at' agent.nodes x65→(0≤v53∧v53<x68.links.length)∧∀ x71:Int,x71=at' x68.links v53→cW (fun (J75:Bool→Prop)=>(0≤x62∧x62<l54.length)∧∀ x106:Int,x106=at' l54 x62→∀ c109:Bool,c109=decide (0≤x106)→((c109=true→(0≤x62∧x62<l54.length)∧∀ x112:Int,x112=at' l54 x62→∀ c116:Bool,c116=decide (x106 ≠ x71)→J75 (c116))∧(c109=false→J75 (false)))) (fun b78=>((b78=true→Z ([],false))∧(b78=false→(0≤x62∧x62<l54.length)∧∀ x89:Int,x89=at' l54 x62→∀ l92:List Int,l92=l54.set x62.toNat x71→(I64 (v53+1))∧∀ v99:Int,v99=v53+1→K58 (v99,l92)))))∧(c59=false→(I64 (v30+1))∧∀ v119:Int,v119=v30+1→K35 (v119,l54)))) (0,l31))∧(c36=false→aw (σ:=Int) (fun v124 K128=>∀ c129:Bool,c129=decide (v124<redex.edges)→((c129=true→(e5 redex v124)∧∀ r132:(List (Int × Int)) × (List Str),r132=iG redex v124→(0≤v124∧v124<l31.length)∧∀ x153:Int,x153=at' l31 v124→(e5 agent x153)∧∀ r157:(List (Int × Int)) × (List Str),r157=iG agent x153→cW (fun (J158:Bool→Prop)=>(0≤v124∧v124<l31.length)∧∀ x171:Int,x171=at' l31 v124→∀ c175:Bool,c175=decide (agent.edges≤x153)→((c175=true→J158 (true))∧(c175=false→∀ len177:Int,len177=(r157.1.length:Int)→∀ len179:Int,len179=(r132.1.length:Int)→∀ c181:Bool,c181=decide (len177 ≠ len179)→J158 (c181)))) (fun b161=>((b161=true→Z ([],false))∧(b161=false→(I64 (v124+1))∧∀ v168:Int,v168=v124+1→K128 (v168)))))∧(c129=false→Z (l31,true)))) (0)))) (0,r11)
theorem sR (redex agent:Big) (nodes:List Int) (h:dn redex agent nodes):fU redex agent nodes (fun y=>y=eQ redex agent nodes):=by
 unfold fU
 have hpre:=h
 obtain⟨⟨sig,hP⟩,⟨hlen,hin⟩,hctl⟩:=h
 have hE:=hP.r.edges
 have hO:=hP.r.outer
 have hr8:=hP.r.len
 have hLr:=hP.r.nX
 have hLa:=hP.a.nX
 simp only[forall_eq,decide_eq_true_eq,decide_eq_false_iff_not,iG]
 have h0:qA [(-1)] (redex.edges+redex.outer.length)=gA redex agent nodes 0 0:=by
  simp only[qA,gA,ui,cV,List.headD_cons]
  refine List.ext_getElem (by simp) fun q h1 h2=>by simp
 rw[h0]
 refine⟨by simp only[I64];omega,⟨rfl,by omega,by omega⟩,?_⟩
 refine aw.upL redex.nodes.length (fun i out=>out=gA redex agent nodes i 0∧∀ l,∀ p ∈ dW redex l i 0,gz agent nodes p=cV agent nodes (dW redex l i 0)) _ ⟨rfl,fun l p hp=>by rw[ui] at hp;cases hp⟩ ?_
 rintro i out K hi ⟨rfl,hg⟩ IH
 dsimp only
 refine⟨fun hc=>?_,fun hc=>?_⟩
 ·have hi1:i<redex.nodes.length:=by omega
  refine⟨by omega,aw.upL (at' redex.nodes (i:Int)).links.length (fun k out=>out=gA redex agent nodes i k∧∀ l,∀ p ∈ dW redex l i k,gz agent nodes p=cV agent nodes (dW redex l i k)) _ ⟨rfl,hg⟩ ?_⟩
  rintro k out K2 hk ⟨rfl,hg2⟩ IH2
  dsimp only
  have hll:=hLr.2.1 i hi1
  refine⟨fun hc2=>?_,fun hc2=>⟨by simp only[I64];omega,IH hi1 _ ⟨?_,?_⟩⟩⟩
  ·have hk1:k<(at' redex.nodes (i:Int)).links.length:=by omega
   obtain⟨l0,hl0⟩:∃ l0,at' (at' redex.nodes (i:Int)).links (k:Int)=l0:=⟨_,rfl⟩
   have hl:=hP.r.ox (i:=i) ⟨by omega,by omega⟩ _ (at_mem (l:=(at' redex.nodes (i:Int)).links) (i:=(k:Int)) ⟨by omega,by omega⟩)
   rw[hl0] at hl ⊢
   have hpf:=pW (b:=redex) l0 hi1 (k:=k+1) (by omega)
   have hsn:dW redex l0 i (k+1)=dW redex l0 i k++[((i:Int),(k:Int))]:=by rw[dW,oC hl0,← List.append_assoc];rfl
   have hmem:((i:Int),(k:Int)) ∈ bp redex l0:=hpf.subset (by rw[hsn];simp)
   obtain⟨q1,q2,q3,q4⟩:=zc hpre hmem
   have hpk:=pW (b:=redex) l0 hi1 (k:=k) (by omega)
   have hown:at' (at' agent.nodes (at' nodes (i:Int))).links (k:Int)=gz agent nodes ((i:Int),(k:Int)):=rfl
   rw[hown]
   have hol:=tU redex agent nodes i k
   refine⟨by omega,q1,q2,q3,fun c=>c=true↔(0≤cV agent nodes (dW redex l0 i k)∧cV agent nodes (dW redex l0 i k) ≠ gz agent nodes ((i:Int),(k:Int))),?_,fun c hJ=>⟨fun h1=>?_,fun h1=>⟨by omega,by simp only[I64];omega,?_⟩⟩⟩
   ·rw[yh hl.1 hl.2]
    refine⟨by omega,fun h1=>⟨by omega,by simp only[decide_eq_true_eq];exact⟨fun h2=>⟨h1,h2⟩,fun h2=>h2.2⟩⟩,fun h1=>iff_of_false (by simp) fun h2=>h1 h2.1⟩
   ·obtain⟨h2,h3⟩:=hJ.1 h1
    refine (kg fun hL=>?_).symm
    have hne:dW redex l0 i k ≠ []:=fun h=>by rw[h] at h2;simp[cV] at h2
    rw[qY hpk hne] at h3
    exact h3 ((hL l0 hl.1 hl.2).1 _ hmem).symm
   ·have hx:dW redex l0 i k=[]∨gz agent nodes ((i:Int),(k:Int))=cV agent nodes (dW redex l0 i k):=by
     by_cases hne:dW redex l0 i k=[]
     ·exact .inl hne
     ·refine .inr (Classical.byContradiction fun h2=>?_)
      have:0≤cV agent nodes (dW redex l0 i k):=by
       cases hq:dW redex l0 i k with
       | nil=>exact absurd hq hne
       | cons a P=>exact (zc hpre (hpk.subset (by rw[hq];simp):a ∈ bp redex l0)).2.2.2
      rw[hJ.2 ⟨this,fun h=>h2 h.symm⟩] at h1
      cases h1
    rw[Cc hl.1 hl0 hx]
    refine IH2 hk1 _ ⟨rfl,fun l p hp=>?_⟩
    by_cases hll0:l=l0
    ·subst hll0
     rw[hsn] at hp ⊢
     rw[oZ]
     rcases List.mem_append.1 hp with hp | hp
     ·rw[if_neg (fun h=>by rw[h] at hp;cases hp)]
      exact hg2 _ p hp
     ·simp only[List.mem_singleton] at hp
      subst hp
      split
      ·rfl
      ·rename_i hne
       exact hx.resolve_left hne
    ·have hno:dW redex l i (k+1)=dW redex l i k:=by rw[dW,qz (by rw[hl0];exact fun h=>hll0 h.symm)];rfl
     rw[hno] at hp ⊢
     exact hg2 l p hp
  ·rw[show k=(at' redex.nodes (i:Int)).links.length by omega]
   simp only[gA,tZ]
  ·rw[show k=(at' redex.nodes (i:Int)).links.length by omega] at hg2
   simp only[tZ] at hg2
   exact hg2
 ·have hie:i=redex.nodes.length:=by omega
  subst hie
  simp only[sf] at hg
  have hol:=tU redex agent nodes redex.nodes.length 0
  have hfl:∀ l,0≤l→l<redex.edges+redex.outer.length→at' (gA redex agent nodes redex.nodes.length 0) l=ep redex agent nodes l:=fun l h1 h2=>by rw[yh h1 h2,sf]
  refine aw.up1 redex.edges.toNat (fun q=>∀ l,0≤l→l<(q:Int)→ep redex agent nodes l<agent.edges∧(bp agent (ep redex agent nodes l)).length=(bp redex l).length) (fun l h1 h2=>by omega) ?_
  rintro q K3 hq hI IH3
  refine⟨fun h1=>?_,fun h1=>?_⟩
  ·rw[hfl q (by omega) (by omega)]
   refine⟨hLr,by omega,hLa,fun c=>c=true↔¬ (ep redex agent nodes q<agent.edges∧(bp agent (ep redex agent nodes q)).length=(bp redex q).length),⟨by omega,fun h2=>iff_of_true rfl (by omega),fun h2=>by simp only[decide_eq_true_eq];omega⟩,fun c hJ=>⟨fun h2=>(kg fun hL=>hJ.1 h2 ((hL q (by omega) (by omega)).2 h1)).symm,fun h2=>⟨by simp only[I64];omega,IH3 (by omega) fun l h3 h4=>?_⟩⟩⟩
   rcases Int.lt_or_le l q with h5 | h5
   ·exact hI l h3 h5
   ·rw[show l=q by omega]
    exact Classical.not_not.1 fun h=>by rw[hJ.2 h] at h2;cases h2
  ·have hL:l6 redex agent nodes:=fun l h2 h3=>⟨fun p hp=>hg l p hp,fun h4=>hI l h2 (by omega)⟩
   rw[eQ,kZ hL]
   simp only[gA,sf]
def jo (p:Int) (v_:Big) (v_':Match) (Z:Bool→Prop):Prop:=
 cW (fun (J2:Bool→Prop)=>(I64 (-v_.roots))∧∀ v9:Int,v9 = -v_.roots→∀ ot:Int,ot=(v_.nodes.length:Int)→(I64 (ot - 1))∧∀ v14:Int,v14=ot - 1→∀ r16:Bool,r16=within p v9 v14→((r16=true→(iZ v_ p v_'.nodes)∧∀ r18:Bool,r18=m6 v_ p v_'.nodes→J2 (r18))∧(r16=false→J2 (true)))) (fun b5=>Z b5)
abbrev fc (p:Int) (agent:Big) (m:Match):Bool := !(within p (-agent.roots) (agent.nodes.length - 1)) || cC agent m.nodes p
abbrev kH (p:Int) (agent:Big) (m:Match):Prop:=oX agent∧m.nodes.length≤1048576∧I64 (-agent.roots)
theorem yi (p:Int) (agent:Big) (m:Match) (h:kH p agent m):jo p agent m (fun y=>y=fc p agent m):=by
 unfold jo
 obtain⟨hd,hm,hr⟩:=h
 simp only[forall_eq]
 refine⟨fun c=>c=fc p agent m,⟨hr,by have:=hd.1;simp only[I64];omega,fun h1=>⟨?_,?_⟩,fun h1=>?_⟩,fun c h=>h⟩
 ·simp only[within,Bool.and_eq_true,decide_eq_true_eq] at h1
  exact⟨hd,by omega,hm⟩
 ·rw[fc,h1];rfl
 ·rw[fc,h1];rfl
noncomputable abbrev isMatch (redex agent:Big) (m:Match):Bool:=ee redex agent m
abbrev jr (redex agent:Big) (m:Match):Prop:=(∃ sig,Eg sig redex agent)∧MSz m
def kl (redex:Big) (agent:Big) (m:Match) (Z:Bool→Prop):Prop:=
 cW (fun (J6:Bool→Prop)=>∀ len48:Int,len48=(m.nodes.length:Int)→∀ len50:Int,len50=(redex.nodes.length:Int)→∀ c52:Bool,c52=decide (len48 ≠ len50)→((c52=true→J6 (true))∧(c52=false→∀ len54:Int,len54=(m.roots.length:Int)→∀ c56:Bool,c56=decide (len54 ≠ redex.roots)→J6 (c56)))) (fun b9=>((b9=true→Z false)∧(b9=false→∀ dq:Int,dq=(m.nodes.length:Int)→aw (σ:=Int) (fun v16 K19=>∀ c20:Bool,c20=decide (v16<dq)→((c20=true→(0≤v16∧v16<m.nodes.length)∧∀ x23:Int,x23=at' m.nodes v16→cW (fun (J25:Bool→Prop)=>(agent.nodes.length≤1048576)∧∀ r35:Bool,r35=dS agent x23→((r35=true→((0:Int)≤0∧(0:Int)≤v16∧v16≤m.nodes.length)∧∀ l37:List Int,l37=(m.nodes.take v16.toNat).drop 0→(l37.length≤1048576)∧∀ r40:Bool,r40=k7 l37 x23→J25 (r40))∧(r35=false→J25 (true)))) (fun b28=>((b28=true→Z false)∧(b28=false→(I64 (v16+1))∧∀ v32:Int,v32=v16+1→K19 (v32)))))∧(c20=false→(m.roots.length≤1048576∧∀ z ∈ m.roots,kH z agent m)∧∀ r42:Bool,r42=m.roots.any (fun z=>fc z agent m)→((r42=true→Z false)∧(r42=false→(jN redex agent m)∧∀ r44:Bool,r44=ek redex agent m→((r44=true→(dn redex agent m.nodes)∧∀ r46:(List Int) × Bool,r46=eQ redex agent m.nodes→Z r46.2)∧(r44=false→Z false))))))) (0))))
theorem zj (redex agent:Big) (m:Match) (h:jr redex agent m):kl redex agent m (fun y=>y=isMatch redex agent m):=by
 unfold kl
 obtain⟨⟨sig,hP⟩,hm1,hm2⟩:=h
 have ha8:=hP.a.len
 have har:=hP.a.roots
 simp only[forall_eq,decide_eq_true_eq,decide_eq_false_iff_not,List.drop_zero]
 refine⟨fun c=>c=true↔¬ (m.nodes.length=redex.nodes.length∧(m.roots.length:Int)=redex.roots),⟨fun h1=>iff_of_true rfl (by omega),fun h1=>by simp only[decide_eq_true_eq];omega⟩,fun c hJ=>⟨fun h1=>(fG fun hM=>hJ.1 h1 ⟨hM.1.1,hM.2.1.1⟩).symm,fun h1=>?_⟩⟩
 have hlr:=Classical.not_not.1 fun h=>by rw[hJ.2 h] at h1;cases h1
 refine aw.up1 m.nodes.length (fun k=>∀ i:Nat,i<k→dS agent (at' m.nodes (i:Int))=true∧at' m.nodes (i:Int) ∉ m.nodes.take i) (fun i hi=>by omega) ?_
 rintro k K hk hI IH
 refine⟨fun h2=>⟨by omega,fun c=>c=true↔¬ (dS agent (at' m.nodes (k:Int))=true∧at' m.nodes (k:Int) ∉ m.nodes.take k),⟨by omega,fun h3=>⟨by omega,by simp;omega,?_⟩,fun h3=>iff_of_true rfl (by rw[h3];simp)⟩,fun c hJ2=>⟨fun h3=>(fG fun hM=>hJ2.1 h3 (hM.1.2 k (by omega))).symm,fun h3=>⟨by simp only[I64];omega,IH (by omega) fun i hi=>?_⟩⟩⟩,fun h2=>?_⟩
 ·rw[Int.toNat_natCast]
  dsimp only
  rw[dY]
  exact⟨fun h4 h5=>h5.2 h4,fun h4=>Classical.not_not.1 fun h5=>h4 ⟨h3,h5⟩⟩
 ·rcases Nat.lt_or_ge i k with h5 | h5
  ·exact hI i h5
  ·rw[show i=k by omega]
   exact Classical.not_not.1 fun h=>by rw[hJ2.2 h] at h3;cases h3
 ·have hN:uA redex agent m.nodes:=⟨hlr.1,fun i hi=>hI i (by omega)⟩
  have hnode:∀ x,dS agent x=true→0≤x∧x<agent.nodes.length:=fun x hx=>by
   simp only[dS,within,Bool.and_eq_true,decide_eq_true_eq] at hx;omega
  have hin:ov agent m.nodes redex.nodes.length:=⟨hlr.1,fun i hi=>hnode _ (hN.2 i hi).1⟩
  refine⟨⟨hm2,fun z _=>⟨hP.a.om,hm1,by simp only[I64];omega⟩⟩,fun h3=>(fG fun hM=>?_).symm,fun h3=>?_⟩
  ·obtain⟨z,hz,hz2⟩:=List.any_eq_true.1 h3
   obtain⟨q1,q2,q3⟩:=hM.2.1.2 z hz
   rw[fc,q3,Bool.or_false,Bool.not_eq_true'] at hz2
   simp only[within,Bool.and_eq_false_iff,decide_eq_false_iff_not] at hz2
   omega
  ·have hR:gS redex agent m:=⟨hlr.2,fun p hp=>by
    have:=List.any_eq_false.1 h3 p hp
    simp only[fc,Bool.or_eq_true,Bool.not_eq_true',not_or,Bool.not_eq_false] at this
    obtain⟨t1,t2⟩:=this
    simp only[within,Bool.and_eq_true,decide_eq_true_eq] at t1
    exact⟨by omega,by omega,by simpa using t2⟩⟩
   refine⟨⟨⟨sig,hP⟩,hin,hlr.2⟩,fun h4=>?_,fun h4=>(fG fun hM=>?_).symm⟩
   ·have hI2:=nf.1 h4
    refine⟨⟨⟨sig,hP⟩,hin,fun k hk=>(hI2 k hk).1⟩,?_⟩
    by_cases hL:l6 redex agent m.nodes
    ·rw[eQ,kZ hL]
     exact (nu.2 ⟨hN,hR,hI2,hL⟩).symm
    ·rw[eQ,kg hL]
     exact (fG fun hM=>hL hM.2.2.2).symm
   ·rw[nf.2 hM.2.2.1] at h4
    cases h4
theorem bQ.D1 {sig:Sig} {b:Big} (hV:bQ sig b):gb b:=by
 have h2:=hV.slen
 have h3:=hV.roots
 have h4:=hV.edges
 have h5:=hV.outer
 exact⟨hV.nX,by omega,by omega,by omega,by omega,by omega,by omega⟩
noncomputable def bE (sig:Sig) (redex agent:Big):Bool:=fx sig redex && gr redex && fD sig agent
abbrev iD (sig:Sig) (redex agent:Big):Prop:=bZ sig redex∧bZ sig agent
noncomputable abbrev nw (sig:Sig) (redex agent:Big):Bool:=bE sig redex agent
def fO (sig:List Control) (redex:Big) (agent:Big) (Z:Bool→Prop):Prop:=
 cW (fun (J5:Bool→Prop)=>(bZ sig redex)∧∀ r12:Bool,r12=fx sig redex→((r12=true→(gb redex)∧∀ r14:Bool,r14=wg redex→((r14=true→(nW sig agent)∧∀ r16:Bool,r16=fD sig agent→J5 (r16))∧(r14=false→J5 (false))))∧(r12=false→J5 (false)))) (fun b8=>Z b8)
theorem sU (sig:Sig) (redex agent:Big) (h:iD sig redex agent):fO sig redex agent (fun y=>y=nw sig redex agent):=by
 unfold fO
 simp only[forall_eq]
 refine⟨fun c=>c=bE sig redex agent,⟨h.1,fun h1=>⟨?_,fun h2=>⟨h.2,by rw[bE,h1,show gr redex=true from h2];rfl⟩,fun h2=>by rw[bE,h1,show gr redex=false from h2];rfl⟩,fun h1=>by rw[bE,h1];rfl⟩,fun c h=>h⟩
 have hV:=eX h1
 have h2:=hV.slen
 have h3:=hV.roots
 have h4:=hV.edges
 have h5:=hV.outer
 exact⟨hV.nX,by omega,by omega,by omega,by omega,by omega,by omega⟩
theorem eD {sig:Sig} {redex agent:Big} (h:bE sig redex agent=true):Eg sig redex agent:=by
 simp only[bE,fD,Bool.and_eq_true] at h
 exact⟨eX h.1.1,eX h.2.1,nZ.1 h.1.2⟩
noncomputable def IsMatch (sig:Sig) (redex agent:Big) (m:Match):Bool × Bool:=if bE sig redex agent then (ee redex agent m,true) else (false,false)
abbrev ec (sig:Sig) (redex agent:Big) (m:Match):Prop:=bZ sig redex∧bZ sig agent∧MSz m
-- impl.IsMatch is not in this seat
noncomputable abbrev ig (sig:Sig) (redex agent:Big) (m:Match):Bool:=bE sig redex agent && ee redex agent m
abbrev jA (sig:Sig) (redex agent:Big) (m:Match):Prop:=ec sig redex agent m
def gG (sig:List Control) (redex:Big) (agent:Big) (m:Match) (Z:Bool→Prop):Prop:=
 cW (fun (J6:Bool→Prop)=>(iD sig redex agent)∧∀ r13:Bool,r13=nw sig redex agent→((r13=true→(jr redex agent m)∧∀ r15:Bool,r15=isMatch redex agent m→J6 (r15))∧(r13=false→J6 (false)))) (fun b9=>Z b9)
theorem uZ (sig:Sig) (redex agent:Big) (m:Match) (h:jA sig redex agent m):gG sig redex agent m (fun y=>y=ig sig redex agent m):=by
 unfold gG
 simp only[forall_eq]
 refine⟨fun c=>c=ig sig redex agent m,⟨⟨h.1,h.2.1⟩,fun h1=>⟨⟨⟨sig,eD h1⟩,h.2.2⟩,?_⟩,fun h1=>?_⟩,fun c h=>h⟩
 ·rw[ig,show bE sig redex agent=true from h1];rfl
 ·rw[ig,show bE sig redex agent=false from h1];rfl
end Go.Ab.Vg
/- Matches: pure conditions of the reference's functions. -/
namespace Go.Ab.Vg
set_option linter.unusedSimpArgs false
set_option linter.unusedVariables false
noncomputable abbrev mU (sig:Sig) (b:Big):Bool:=fx sig b && gr b
abbrev lV (sig:Sig) (b:Big):Prop:=bZ sig b
def kC (sig:List Control) (b:Big) (Z:Bool→Prop):Prop:=
 cW (fun (J4:Bool→Prop)=>(bZ sig b)∧∀ r11:Bool,r11=fx sig b→((r11=true→(lx b)∧∀ r13:Bool,r13=vj b→J4 (r13))∧(r11=false→J4 (false)))) (fun b7=>Z b7)
theorem yY (sig:Sig) (b:Big) (h:lV sig b):kC sig b (fun y=>y=mU sig b):=by
 unfold kC
 simp only[forall_eq]
 refine⟨fun c=>c=mU sig b,⟨h,fun h1=>⟨(eX h1).D1,by rw[mU,h1];rfl⟩,fun h1=>by rw[mU,h1];rfl⟩,fun c h=>h⟩
noncomputable abbrev Aw (sig:Sig) (redex agent:Big):Bool:=bE sig redex agent
abbrev nM (sig:Sig) (redex agent:Big):Prop:=bZ sig redex∧bZ sig agent
def mP (sig:List Control) (redex:Big) (agent:Big) (Z:Bool→Prop):Prop:=
 cW (fun (J5:Bool→Prop)=>(lV sig redex)∧∀ r12:Bool,r12=mU sig redex→((r12=true→(ma sig agent)∧∀ r14:Bool,r14=vY sig agent→J5 (r14))∧(r12=false→J5 (false)))) (fun b8=>Z b8)
theorem C5 (sig:Sig) (redex agent:Big) (h:nM sig redex agent):mP sig redex agent (fun y=>y=Aw sig redex agent):=by
 unfold mP
 simp only[forall_eq]
 refine⟨fun c=>c=bE sig redex agent,⟨h.1,fun h1=>⟨h.2,?_⟩,fun h1=>?_⟩,fun c h=>h⟩
 ·rw[bE,show (fx sig redex && gr redex)=true from h1];rfl
 ·rw[bE,show (fx sig redex && gr redex)=false from h1];rfl
def kF (redex agent:Big) (nodes:List Int):Prop:=uA redex agent nodes∧∀ k:Nat,k<redex.nodes.length→(at' agent.nodes (at' nodes (k:Int))).control=(at' redex.nodes (k:Int)).control
open Classical in
noncomputable def fX (redex agent:Big) (nodes:List Int):Bool:=decide (kF redex agent nodes)
abbrev ks (redex agent:Big) (nodes:List Int):Prop:=nodes.length≤1048576∧agent.nodes.length≤1048576
def jg (redex:Big) (agent:Big) (nodes:List Int) (Z:Bool→Prop):Prop:=
 ∀ uI:Int,uI=(nodes.length:Int)→∀ vC:Int,vC=(redex.nodes.length:Int)→∀ c9:Bool,c9=decide (uI ≠ vC)→((c9=true→Z false)∧(c9=false→aw (σ:=Int) (fun i13 K16=>∀ len17:Int,len17=(nodes.length:Int)→∀ c19:Bool,c19=decide (i13<len17)→((c19=true→cW (fun (J21:Bool→Prop)=>(0≤i13∧i13<nodes.length)∧∀ x31:Int,x31=at' nodes i13→(agent.nodes.length≤1048576)∧∀ r34:Bool,r34=dS agent x31→((r34=true→((0:Int)≤0∧(0:Int)≤i13∧i13≤nodes.length)∧∀ l36:List Int,l36=(nodes.take i13.toNat).drop 0→(0≤i13∧i13<nodes.length)∧∀ x39:Int,x39=at' nodes i13→(l36.length≤1048576)∧∀ r43:Bool,r43=k7 l36 x31→((r43=true→J21 (true))∧(r43=false→(0≤i13∧i13<nodes.length)∧∀ x45:Int,x45=at' nodes i13→(0≤x31∧x31<agent.nodes.length)∧∀ x49:aj,x49=at' agent.nodes x31→(0≤i13∧i13<redex.nodes.length)∧∀ x52:aj,x52=at' redex.nodes i13→∀ c54:Bool,c54=decide (x49.control ≠ x52.control)→J21 (c54))))∧(r34=false→J21 (true)))) (fun b24=>((b24=true→Z false)∧(b24=false→(I64 (i13+1))∧∀ v28:Int,v28=i13+1→K16 (v28)))))∧(c19=false→Z true))) (0)))
theorem xP (redex agent:Big) (nodes:List Int) (h:ks redex agent nodes):jg redex agent nodes (fun y=>y=fX redex agent nodes):=by
 unfold jg
 obtain⟨h1,h2⟩:=h
 have no:¬ kF redex agent nodes→false=fX redex agent nodes:=fun h=>by simp[fX,h]
 simp only[forall_eq,decide_eq_true_eq,decide_eq_false_iff_not,List.drop_zero]
 refine⟨fun h3=>no fun hI=>h3 (by have:=hI.1.1;omega),fun h3=>?_⟩
 have hnode:∀ x,dS agent x=true→0≤x∧x<agent.nodes.length:=fun x hx=>by
  simp only[dS,within,Bool.and_eq_true,decide_eq_true_eq] at hx;omega
 refine aw.up1 nodes.length (fun k=>∀ i:Nat,i<k→(dS agent (at' nodes (i:Int))=true∧at' nodes (i:Int) ∉ nodes.take i)∧(at' agent.nodes (at' nodes (i:Int))).control=(at' redex.nodes (i:Int)).control) (fun i hi=>by omega) ?_
 rintro k K hk hI IH
 refine⟨fun h4=>⟨fun c=>c=true↔¬ ((dS agent (at' nodes (k:Int))=true∧at' nodes (k:Int) ∉ nodes.take k)∧(at' agent.nodes (at' nodes (k:Int))).control=(at' redex.nodes (k:Int)).control),⟨by omega,h2,fun h5=>⟨by omega,by omega,by simp;omega,fun h6=>?_,fun h6=>⟨by omega,hnode _ h5,by omega,?_⟩⟩,fun h5=>iff_of_true rfl (by rw[h5];simp)⟩,fun c hJ=>⟨fun h5=>no fun hP=>hJ.1 h5 ⟨hP.1.2 k (by omega),hP.2 k (by omega)⟩,fun h5=>⟨by simp only[I64];omega,IH (by omega) fun i hi=>?_⟩⟩⟩,fun h4=>?_⟩
 ·rw[Int.toNat_natCast] at h6
  exact iff_of_true rfl fun h7=>h7.1.2 (dY.1 h6)
 ·rw[Int.toNat_natCast] at h6
  simp only[decide_eq_true_eq]
  exact⟨fun h7 h8=>h7 h8.2,fun h7 h8=>h7 ⟨⟨h5,mw.1 h6⟩,h8⟩⟩
 ·rcases Nat.lt_or_ge i k with h6 | h6
  ·exact hI i h6
  ·rw[show i=k by omega]
   exact Classical.not_not.1 fun h=>by rw[hJ.2 h] at h5;cases h5
 ·have hP:kF redex agent nodes:=⟨⟨by omega,fun i hi=>(hI i (by omega)).1⟩,fun i hi=>(hI i (by omega)).2⟩
  simp[fX,hP]
def kf (redex agent:Big) (m:Match):Prop:=∀ k:Nat,k<redex.nodes.length→(at' agent.nodes (at' m.nodes (k:Int))).parent=cP redex m (k:Int)
open Classical in
noncomputable def eW (redex agent:Big) (m:Match):Bool:=decide (kf redex agent m)
abbrev fP (redex agent:Big) (m:Match):Prop:=(∃ sig,Eg sig redex agent)∧ov agent m.nodes redex.nodes.length∧(m.roots.length:Int)=redex.roots
def gY (redex:Big) (agent:Big) (m:Match) (Z:Bool→Prop):Prop:=
 aw (σ:=Int) (fun i8 K11=>∀ dq:Int,dq=(m.nodes.length:Int)→∀ c14:Bool,c14=decide (i8<dq)→((c14=true→(0≤i8∧i8<redex.nodes.length)∧∀ x17:aj,x17=at' redex.nodes i8→∀ c19:Bool,c19=decide (0≤x17.parent)→((c19=true→(0≤x17.parent∧x17.parent<m.nodes.length)∧∀ x23:Int,x23=at' m.nodes x17.parent→(0≤i8∧i8<m.nodes.length)∧∀ x26:Int,x26=at' m.nodes i8→(0≤x26∧x26<agent.nodes.length)∧∀ x29:aj,x29=at' agent.nodes x26→∀ c31:Bool,c31=decide (x29.parent ≠ x23)→((c31=true→Z false)∧(c31=false→(I64 (i8+1))∧∀ v35:Int,v35=i8+1→K11 (v35))))∧(c19=false→(I64 ((-1) - x17.parent))∧∀ v38:Int,v38=(-1) - x17.parent→(0≤v38∧v38<m.roots.length)∧∀ x41:Int,x41=at' m.roots v38→(0≤i8∧i8<m.nodes.length)∧∀ x44:Int,x44=at' m.nodes i8→(0≤x44∧x44<agent.nodes.length)∧∀ x47:aj,x47=at' agent.nodes x44→∀ c49:Bool,c49=decide (x47.parent ≠ x41)→((c49=true→Z false)∧(c49=false→(I64 (i8+1))∧∀ v53:Int,v53=i8+1→K11 (v53))))))∧(c14=false→Z true))) (0)
theorem uM (redex agent:Big) (m:Match) (h:fP redex agent m):gY redex agent m (fun y=>y=eW redex agent m):=by
 unfold gY
 obtain⟨⟨sig,hP⟩,⟨hlen,hin⟩,hroots⟩:=h
 have no:¬ kf redex agent m→false=eW redex agent m:=fun h=>by simp[eW,h]
 have hr8:=hP.r.len
 have hrr:=hP.r.roots
 simp only[forall_eq,decide_eq_true_eq,decide_eq_false_iff_not]
 refine aw.up1 m.nodes.length (fun k=>∀ j:Nat,j<k→(at' agent.nodes (at' m.nodes (j:Int))).parent=cP redex m (j:Int)) (fun j hj=>by omega) ?_
 rintro k K hk hI IH
 refine⟨fun hc=>?_,fun hc=>?_⟩
 ·have hk1:k<redex.nodes.length:=by omega
  have hpar:=hP.r.xf (i:=k) ⟨by omega,by omega⟩
  have him:=hin k (by omega)
  have hnext:(at' agent.nodes (at' m.nodes (k:Int))).parent=cP redex m (k:Int)→∀ j:Nat,j<k+1→(at' agent.nodes (at' m.nodes (j:Int))).parent=cP redex m (j:Int):=fun h j hj=>by
   rcases Nat.lt_or_ge j k with h1 | h1
   ·exact hI j h1
   ·rw[show j=k by omega];exact h
  refine⟨by omega,fun h1=>?_,fun h1=>?_⟩
  ·have hx:at' m.nodes (at' redex.nodes (k:Int)).parent=cP redex m k:=by rw[cP,if_pos h1]
   rw[hx]
   exact⟨by omega,by omega,him,fun h2=>no fun hA=>h2 (hA k hk1),fun h2=>⟨by simp only[I64];omega,IH (by omega) (hnext (Classical.not_not.1 h2))⟩⟩
  ·have hx:at' m.roots (-1 - (at' redex.nodes (k:Int)).parent)=cP redex m k:=by rw[cP,if_neg h1]
   rw[hx]
   exact⟨by simp only[I64];omega,by omega,by omega,him,fun h2=>no fun hA=>h2 (hA k hk1),fun h2=>⟨by simp only[I64];omega,IH (by omega) (hnext (Classical.not_not.1 h2))⟩⟩
 ·have hA:kf redex agent m:=fun j hj=>hI j (by omega)
  simp[eW,hA]
def tF (redex agent:Big) (m:Match):Prop:=∀ k:Nat,k<redex.nodes.length→(dA redex (k:Int)).length=0→∀ c ∈ gD agent (at' m.nodes (k:Int)),c ∈ m.nodes
open Classical in
noncomputable def kV (redex agent:Big) (m:Match):Bool:=decide (tF redex agent m)
abbrev nT (redex agent:Big) (m:Match):Prop:=fP redex agent m
def mH (redex:Big) (agent:Big) (m:Match) (Z:Bool→Prop):Prop:=
 aw (σ:=Int) (fun i8 K11=>∀ dq:Int,dq=(m.nodes.length:Int)→∀ c14:Bool,c14=decide (i8<dq)→((c14=true→(0≤i8∧i8<m.nodes.length)∧∀ x17:Int,x17=at' m.nodes i8→(ef agent x17)∧∀ r20:List Int,r20=pE agent x17→aw (σ:=Int) (fun k23 K26=>cW (fun (J27:Bool→Prop)=>∀ len44:Int,len44=(r20.length:Int)→∀ c46:Bool,c46=decide (k23<len44)→((c46=true→(du redex i8)∧∀ r49:List Int,r49=ju redex i8→∀ len50:Int,len50=(r49.length:Int)→∀ c52:Bool,c52=decide (len50=0)→J27 (c52))∧(c46=false→J27 (false)))) (fun b30=>((b30=true→(0≤k23∧k23<r20.length)∧∀ x34:Int,x34=at' r20 k23→(m.nodes.length≤1048576)∧∀ r37:Bool,r37=k7 m.nodes x34→((r37=true→(I64 (k23+1))∧∀ v39:Int,v39=k23+1→K26 (v39))∧(r37=false→Z false)))∧(b30=false→(I64 (i8+1))∧∀ v42:Int,v42=i8+1→K11 (v42))))) (0))∧(c14=false→Z true))) (0)
theorem Ch (redex agent:Big) (m:Match) (h:nT redex agent m):mH redex agent m (fun y=>y=kV redex agent m):=by
 unfold mH
 obtain⟨⟨sig,hP⟩,⟨hlen,hin⟩,hroots⟩:=h
 have no:¬ tF redex agent m→false=kV redex agent m:=fun h=>by simp[kV,h]
 have hr8:=hP.r.len
 have ha8:=hP.a.len
 have hs4:=hP.r.slen
 simp only[forall_eq,decide_eq_true_eq,decide_eq_false_iff_not,pE,ju]
 refine aw.up1 m.nodes.length (fun k=>∀ j:Nat,j<k→(dA redex (j:Int)).length=0→∀ c ∈ gD agent (at' m.nodes (j:Int)),c ∈ m.nodes) (fun j hj=>by omega) ?_
 rintro k K hk hI IH
 refine⟨fun hc=>?_,fun hc=>?_⟩
 ·have him:=hin k (by omega)
  have hkl:(gD agent (at' m.nodes (k:Int))).length≤agent.nodes.length:=iA _ _ _
  refine⟨by omega,by simp only[ef];omega,?_⟩
  refine aw.up1 (gD agent (at' m.nodes (k:Int))).length (fun q=>∀ j:Nat,j<q→at' (gD agent (at' m.nodes (k:Int))) (j:Int) ∈ m.nodes) (fun j hj=>by omega) ?_
  rintro q K2 hq hI2 IH2
  refine⟨fun c=>c=true↔(q<(gD agent (at' m.nodes (k:Int))).length∧(dA redex (k:Int)).length=0),⟨fun h1=>⟨by simp only[du];omega,by simp only[decide_eq_true_eq];omega⟩,fun h1=>iff_of_false (by simp) (by omega)⟩,fun c hJ=>⟨fun h1=>?_,fun h1=>⟨by simp only[I64];omega,IH (by omega) fun j hj h0 c hcm=>?_⟩⟩⟩
  ·have h2:=hJ.1 h1
   refine⟨by omega,by omega,fun h3=>⟨by simp only[I64];omega,IH2 h2.1 fun j hj=>?_⟩,fun h3=>no fun hA=>?_⟩
   ·rcases Nat.lt_or_ge j q with h4 | h4
    ·exact hI2 j h4
    ·rw[show j=q by omega];exact dY.1 h3
   ·exact mw.1 h3 (hA k (by omega) h2.2 _ (at_mem ⟨by omega,by omega⟩))
  ·rcases Nat.lt_or_ge j k with h2 | h2
   ·exact hI j h2 h0 c hcm
   ·rw[show j=k by omega] at h0 hcm
    obtain⟨z,hz,rfl⟩:=List.getElem_of_mem hcm
    have hql:¬ q<(gD agent (at' m.nodes (k:Int))).length:=fun h=>by rw[hJ.2 ⟨h,h0⟩] at h1;cases h1
    have:=hI2 z (by omega)
    rwa [bY hz] at this
 ·have hA:tF redex agent m:=fun j hj=>hI j (by omega)
  simp[kV,hA]
abbrev oo (b:Big) (p:Int):Bool:=within p (-b.roots) (b.nodes.length - 1)
abbrev lN (b:Big) (_:Int):Prop:=b.nodes.length≤1048576∧I64 (-b.roots)
def kh (b:Big) (x:Int) (Z:Bool→Prop):Prop:=
 (I64 (-b.roots))∧∀ v5:Int,v5 = -b.roots→∀ vC:Int,vC=(b.nodes.length:Int)→(I64 (vC - 1))∧∀ v10:Int,v10=vC - 1→∀ r12:Bool,r12=within x v5 v10→Z r12
theorem Au (b:Big) (p:Int) (h:lN b p):kh b p (fun y=>y=oo b p):=by
 unfold kh
 simp only[forall_eq]
 exact⟨h.2,by have:=h.1;simp only[I64];omega,by trivial⟩
open Classical in
noncomputable def fi (redex agent:Big) (m:Match):Bool:=decide (gS redex agent m)
abbrev lg (redex agent:Big) (m:Match):Prop:=oX agent∧MSz m∧I64 (-agent.roots)
def iT (redex:Big) (agent:Big) (m:Match) (Z:Bool→Prop):Prop:=
 aw (σ:=Int) (fun r8 K11=>∀ dq:Int,dq=(m.roots.length:Int)→∀ c14:Bool,c14=decide (r8<dq)→((c14=true→cW (fun (J16:Bool→Prop)=>(0≤r8∧r8<m.roots.length)∧∀ x26:Int,x26=at' m.roots r8→(lN agent x26)∧∀ r29:Bool,r29=oo agent x26→((r29=true→(0≤r8∧r8<m.roots.length)∧∀ x31:Int,x31=at' m.roots r8→(gO agent m x26)∧∀ r35:Bool,r35=gh agent m x26→J16 (r35))∧(r29=false→J16 (true)))) (fun b19=>((b19=true→Z false)∧(b19=false→(I64 (r8+1))∧∀ v23:Int,v23=r8+1→K11 (v23)))))∧(c14=false→∀ len36:Int,len36=(m.roots.length:Int)→∀ c38:Bool,c38=decide (len36=redex.roots)→Z c38))) (0)
theorem xz (redex agent:Big) (m:Match) (h:lg redex agent m):iT redex agent m (fun y=>y=fi redex agent m):=by
 unfold iT
 obtain⟨hd,hm,hr⟩:=h
 have hd1:=hd.1
 have no:¬ gS redex agent m→false=fi redex agent m:=fun h=>by simp[fi,h]
 simp only[forall_eq,decide_eq_true_eq,decide_eq_false_iff_not]
 refine aw.up1 m.roots.length (fun k=>∀ i:Nat,i<k → -agent.roots≤at' m.roots (i:Int)∧at' m.roots (i:Int)<agent.nodes.length∧cC agent m.nodes (at' m.roots (i:Int))=false) (fun i hi=>by omega) ?_
 rintro k K hk hI IH
 refine⟨fun h1=>⟨fun c=>c=true↔¬ (-agent.roots≤at' m.roots (k:Int)∧at' m.roots (k:Int)<agent.nodes.length∧cC agent m.nodes (at' m.roots (k:Int))=false),⟨by omega,⟨hd1,hr⟩,fun h2=>?_,fun h2=>iff_of_true rfl fun h3=>?_⟩,fun c hJ=>⟨fun h2=>no fun hR=>hJ.1 h2 (hR.2 _ (at_mem ⟨by omega,by omega⟩)),fun h2=>⟨by simp only[I64];omega,IH (by omega) fun i hi=>?_⟩⟩⟩,fun h1=>?_⟩
 ·simp only[oo,within,Bool.and_eq_true,decide_eq_true_eq] at h2
  refine⟨by omega,⟨hd,by omega,hm.1⟩,?_⟩
  cases hu:cC agent m.nodes (at' m.roots (k:Int)) with
  | false=>exact iff_of_false (by rw[gh,hu];simp) fun h=>h ⟨by omega,by omega,rfl⟩
  | true=>exact iff_of_true (by rw[gh,hu]) fun h=>by cases h.2.2
 ·simp only[oo,within,Bool.and_eq_false_iff,decide_eq_false_iff_not] at h2
  omega
 ·rcases Nat.lt_or_ge i k with h5 | h5
  ·exact hI i h5
  ·rw[show i=k by omega]
   exact Classical.not_not.1 fun h=>by rw[hJ.2 h] at h2;cases h2
 ·have hA:∀ p ∈ m.roots,-agent.roots≤p∧p<agent.nodes.length∧cC agent m.nodes p=false:=fun p hp=>by
   obtain⟨z,hz,rfl⟩:=List.getElem_of_mem hp
   have:=hI z (by omega)
   rwa [bY hz] at this
  by_cases hl:(m.roots.length:Int)=redex.roots
  ·have hR:gS redex agent m:=⟨hl,hA⟩
   simp[fi,hR,hl]
  ·have hR:¬ gS redex agent m:=fun h=>hl h.1
   simp[fi,hR,hl]
open Classical in
noncomputable def gM (redex agent:Big) (m:Match) (l:Int):Int × Bool:=(ep redex agent m.nodes l,decide (qU redex agent m.nodes l))
abbrev l8 (redex agent:Big) (m:Match) (l:Int):Prop:=dn redex agent m.nodes∧0≤l∧l<redex.edges+redex.outer.length
def kT (redex:Big) (agent:Big) (m:Match) (link:Int) (Z:(Int × Bool)→Prop):Prop:=
 (eU redex link)∧∀ r7:List (Int × Int),r7=fV redex link→((0:Int)≤0∧(0:Int)<r7.length)∧∀ x9:Int × Int,x9=at' r7 0→(0≤x9.1∧x9.1<m.nodes.length)∧∀ x13:Int,x13=at' m.nodes x9.1→(0≤x13∧x13<agent.nodes.length)∧∀ x16:aj,x16=at' agent.nodes x13→((0:Int)≤0∧(0:Int)<r7.length)∧∀ x19:Int × Int,x19=at' r7 0→(0≤x9.2∧x9.2<x16.links.length)∧∀ x24:Int,x24=at' x16.links x9.2→aw (σ:=Int) (fun i29 K32=>∀ len33:Int,len33=(r7.length:Int)→∀ c35:Bool,c35=decide (i29<len33)→((c35=true→(0≤i29∧i29<r7.length)∧∀ x38:Int × Int,x38=at' r7 i29→(0≤x38.1∧x38.1<m.nodes.length)∧∀ x42:Int,x42=at' m.nodes x38.1→(0≤x42∧x42<agent.nodes.length)∧∀ x45:aj,x45=at' agent.nodes x42→(0≤i29∧i29<r7.length)∧∀ x48:Int × Int,x48=at' r7 i29→(0≤x38.2∧x38.2<x45.links.length)∧∀ x53:Int,x53=at' x45.links x38.2→∀ c55:Bool,c55=decide (x53 ≠ x24)→((c55=true→Z (x24,false))∧(c55=false→(I64 (i29+1))∧∀ v59:Int,v59=i29+1→K32 (v59))))∧(c35=false→∀ c61:Bool,c61=decide (link<redex.edges)→((c61=true→cW (fun (J63:Bool→Prop)=>∀ c69:Bool,c69=decide (x24<agent.edges)→((c69=true→(eU agent x24)∧∀ r72:List (Int × Int),r72=fV agent x24→∀ len73:Int,len73=(r72.length:Int)→∀ len75:Int,len75=(r7.length:Int)→∀ c77:Bool,c77=decide (len73=len75)→J63 (c77))∧(c69=false→J63 (false)))) (fun b66=>Z (x24,b66)))∧(c61=false→Z (x24,true)))))) (1)
theorem pM.port {b:Big} (h:pM b) {l:Int} (h0:0≤l) (h1:l<b.edges+b.outer.length):0<(bp b l).length:=by
 have h2:=h.2.2.2 l h0 h1
 have h3:b.inner=[]:=List.eq_nil_of_length_eq_zero h.1
 simp only[kq,lq,rT,h3,List.filter_nil,List.map_nil,List.length_nil,decide_true,Bool.and_true,decide_eq_false_iff_not] at h2
 omega
theorem zi {agent:Big} {nodes:List Int} {P:List (Int × Int)} (h:0<P.length):cV agent nodes P=gz agent nodes (at' P 0):=by
 cases P with
 | nil=>simp at h
 | cons a P=>rfl
theorem zf (redex agent:Big) (m:Match) (l:Int) (h:l8 redex agent m l):kT redex agent m l (fun y=>y=gM redex agent m l):=by
 unfold kT
 obtain⟨hpre,hl0,hl1⟩:=h
 have hpre2:=hpre
 obtain⟨⟨sig,hP⟩,_⟩:=hpre2
 have hne:=hP.red.port hl0 hl1
 have hLr:=hP.r.nX
 have hLa:=hP.a.nX
 have hin:∀ k:Nat,k<(bp redex l).length→_:=fun k hk=>zc hpre (l:=l) (p:=at' (bp redex l) (k:Int)) (at_mem ⟨by omega,by omega⟩)
 have h0:=hin 0 hne
 have hf:gz agent m.nodes (at' (bp redex l) 0)=ep redex agent m.nodes l:=(zi hne).symm
 have hpl:(bp redex l).length≤1024 * 1024:=Nat.le_trans (eS hLr.2.1 l _ (Nat.le_refl _)) (by have:=hLr.1;omega)
 simp only[forall_eq,decide_eq_true_eq,decide_eq_false_iff_not,fV]
 have hun:∀ p:Int × Int,at' (at' agent.nodes (at' m.nodes p.1)).links p.2=gz agent m.nodes p:=fun p=>rfl
 simp only[hun,hf]
 refine⟨hLr,⟨by omega,by omega⟩,h0.1,h0.2.1,⟨by omega,by omega⟩,h0.2.2.1,?_⟩
 have res:∀ b:Bool,(b=true↔qU redex agent m.nodes l)→(ep redex agent m.nodes l,b)=gM redex agent m l:=fun b hb=>by
  rw[gM]
  congr 1
  rw[Bool.eq_iff_iff,hb]
  simp
 refine aw.byM (fun i=>∃ k:Nat,i=k∧k≤(bp redex l).length∧∀ j:Nat,j<k→gz agent m.nodes (at' (bp redex l) (j:Int))=ep redex agent m.nodes l) (fun i=>((bp redex l).length - i).toNat) ⟨1,rfl,by omega,fun j hj=>by rw[show j=0 by omega];exact hf⟩ ?_
 rintro _ ⟨k,rfl,hk,hI⟩
 refine⟨fun h1=>?_,fun h1=>?_⟩
 ·have hk1:=hin k (by omega)
  refine⟨by omega,hk1.1,hk1.2.1,by omega,hk1.2.2.1,fun h2=>res _ (iff_of_false (by simp) fun hL=>h2 (hL.1 _ (at_mem ⟨by omega,by omega⟩))),fun h2=>⟨by simp only[I64];omega,⟨k+1,by omega,by omega,fun j hj=>?_⟩,by omega⟩⟩
  rcases Nat.lt_or_ge j k with h3 | h3
  ·exact hI j h3
  ·rw[show j=k by omega];exact Classical.not_not.1 h2
 ·have hall:∀ p ∈ bp redex l,gz agent m.nodes p=ep redex agent m.nodes l:=fun p hp=>by
   obtain⟨z,hz,rfl⟩:=List.getElem_of_mem hp
   have:=hI z (by omega)
   rwa [bY hz] at this
  refine⟨fun h2=>⟨fun c=>c=true↔qU redex agent m.nodes l,⟨fun h3=>⟨hLa,?_⟩,fun h3=>iff_of_false (by simp) fun hL=>h3 (hL.2 h2).1⟩,fun c hc=>res c hc⟩,fun h2=>res true (iff_of_true rfl ⟨hall,fun h=>absurd h h2⟩)⟩
  simp only[decide_eq_true_eq]
  exact⟨fun h4=>⟨hall,fun _=>⟨h3,by omega⟩⟩,fun hL=>by have:=(hL.2 h2).2;omega⟩
noncomputable abbrev iX (redex agent:Big) (m:Match):=pe redex agent m.nodes
abbrev lZ (redex agent:Big) (m:Match):Prop:=dn redex agent m.nodes
def kG (redex:Big) (agent:Big) (m:Match) (Z:((List Int) × Bool)→Prop):Prop:=
 aw (σ:=Int × (List Int)) (fun (link16,l17) K21=>∀ len22:Int,len22=(redex.outer.length:Int)→(I64 (redex.edges+len22))∧∀ v25:Int,v25=redex.edges+len22→∀ c27:Bool,c27=decide (link16<v25)→((c27=true→(l8 redex agent m link16)∧∀ r30:Int × Bool,r30=gM redex agent m link16→((r30.2=true→(l17.length+1≤1073741824)∧∀ l38:List Int,l38=l17++[r30.1]→(I64 (link16+1))∧∀ v48:Int,v48=link16+1→K21 (v48,l38))∧(r30.2=false→Z (([]:List Int),false))))∧(c27=false→Z (l17,true)))) (0,([]:List Int))
theorem yu (redex agent:Big) (m:Match) (h:lZ redex agent m):kG redex agent m (fun y=>y=iX redex agent m):=by
 unfold kG
 have hpre:=h
 obtain⟨⟨sig,hP⟩,_⟩:=h
 have hE:=hP.r.edges
 have hO:=hP.r.outer
 simp only[forall_eq,decide_eq_true_eq,decide_eq_false_iff_not]
 refine aw.upL (redex.edges+redex.outer.length).toNat (fun k out=>out=(List.range k).map (fun l:Nat=>ep redex agent m.nodes (l:Int))∧∀ l:Nat,l<k→qU redex agent m.nodes (l:Int)) [] ⟨rfl,fun l hl=>by omega⟩ ?_
 rintro k out K hk ⟨rfl,hI⟩ IH
 dsimp only
 refine⟨by simp only[I64];omega,fun h1=>⟨⟨hpre,by omega,h1⟩,fun h2=>⟨by simp;omega,by simp only[I64];omega,IH (by omega) _ ⟨?_,fun l hl=>?_⟩⟩,fun h2=>?_⟩,fun h1=>?_⟩
 ·simp[List.range_succ,gM]
 ·rcases Nat.lt_or_ge l k with h3 | h3
  ·exact hI l h3
  ·rw[show l=k by omega]
   simpa[gM] using h2
 ·rw[iX,kg fun hL=>?_]
  have:=hL k (by omega) h1
  simp[gM] at h2
  exact h2 this
 ·rw[iX,kZ fun l h2 h3=>?_,show k=(redex.edges+redex.outer.length).toNat by omega]
  have:=hI l.toNat (by omega)
  rwa [show ((l.toNat:Nat):Int)=l by omega] at this
noncomputable abbrev uL (redex agent:Big) (m:Match):Bool:=ee redex agent m
abbrev lH (redex agent:Big) (m:Match):Prop:=jr redex agent m
def kk (redex:Big) (agent:Big) (m:Match) (Z:Bool→Prop):Prop:=
 cW (fun (J6:Bool→Prop)=>(ks redex agent m.nodes)∧∀ r15:Bool,r15=fX redex agent m.nodes→((r15=true→(lg redex agent m)∧∀ r17:Bool,r17=fi redex agent m→((r17=true→(fP redex agent m)∧∀ r19:Bool,r19=eW redex agent m→((r19=true→(nT redex agent m)∧∀ r21:Bool,r21=kV redex agent m→J6 ((!r21)))∧(r19=false→J6 (true))))∧(r17=false→J6 (true))))∧(r15=false→J6 (true)))) (fun b9=>((b9=true→Z false)∧(b9=false→(lZ redex agent m)∧∀ r13:(List Int) × Bool,r13=iX redex agent m→Z r13.2)))
theorem AD (redex agent:Big) (m:Match) (h:lH redex agent m):kk redex agent m (fun y=>y=uL redex agent m):=by
 unfold kk
 obtain⟨⟨sig,hP⟩,hm⟩:=h
 have ha8:=hP.a.len
 have har:=hP.a.roots
 simp only[forall_eq]
 have hIm:∀ b:Bool,fX redex agent m.nodes=b→(b=true↔kF redex agent m.nodes):=fun b hb=>by rw[← hb];simp[fX]
 have hPl:∀ b:Bool,fi redex agent m=b→(b=true↔gS redex agent m):=fun b hb=>by rw[← hb];simp[fi]
 have hPa:∀ b:Bool,eW redex agent m=b→(b=true↔kf redex agent m):=fun b hb=>by rw[← hb];simp[eW]
 have hKi:∀ b:Bool,kV redex agent m=b→(b=true↔tF redex agent m):=fun b hb=>by rw[← hb];simp[kV]
 have hin:kF redex agent m.nodes→ov agent m.nodes redex.nodes.length:=fun hI=>⟨hI.1.1,fun i hi=>by have:=(hI.1.2 i hi).1;simp only[dS,within,Bool.and_eq_true,decide_eq_true_eq] at this;omega⟩
 have spl:pD redex agent m↔(kF redex agent m.nodes∧gS redex agent m∧kf redex agent m∧tF redex agent m)∧l6 redex agent m.nodes:=by
  constructor
  ·rintro⟨h1,h2,h3,h4⟩
   exact⟨⟨⟨h1,fun k hk=>(h3 k hk).1⟩,h2,fun k hk=>(h3 k hk).2.1,fun k hk=>(h3 k hk).2.2⟩,h4⟩
  ·rintro⟨⟨h1,h2,h3,h4⟩,h5⟩
   exact⟨h1.1,h2,fun k hk=>⟨h1.2 k hk,h3 k hk,h4 k hk⟩,h5⟩
 refine⟨fun c=>c=true↔¬ (kF redex agent m.nodes∧gS redex agent m∧kf redex agent m∧tF redex agent m),⟨⟨hm.1,by omega⟩,fun h1=>⟨⟨hP.a.om,hm,by simp only[I64];omega⟩,fun h2=>?_,fun h2=>?_⟩,fun h1=>?_⟩,fun c hJ=>⟨fun h1=>(fG fun hM=>hJ.1 h1 (spl.1 hM).1).symm,fun h1=>?_⟩⟩
 ·have i1:=(hIm _ h1).1 rfl
  have i2:=(hPl _ h2).1 rfl
  refine⟨⟨⟨sig,hP⟩,hin i1,i2.1⟩,fun h3=>?_,fun h3=>?_⟩
  ·have i3:=(hPa _ h3).1 rfl
   refine⟨⟨⟨sig,hP⟩,hin i1,i2.1⟩,?_⟩
   cases h4:kV redex agent m with
   | true=>exact iff_of_false (by simp) fun h=>h ⟨i1,i2,i3,(hKi _ h4).1 rfl⟩
   | false=>exact iff_of_true rfl fun h=>by have:=(hKi _ h4).2 h.2.2.2;cases this
  ·exact iff_of_true rfl fun h=>by have:=(hPa _ h3).2 h.2.2.1;cases this
 ·exact iff_of_true rfl fun h=>by have:=(hPl _ h2).2 h.2.1;cases this
 ·exact iff_of_true rfl fun h=>by have:=(hIm _ h1).2 h.1;cases this
 ·have hA:=Classical.not_not.1 fun h=>by rw[hJ.2 h] at h1;cases h1
  refine⟨⟨⟨sig,hP⟩,hin hA.1,hA.1.2⟩,?_⟩
  by_cases hL:l6 redex agent m.nodes
  ·rw[iX,kZ hL]
   exact (nu.2 (spl.2 ⟨hA,hL⟩)).symm
  ·rw[iX,kg hL]
   exact (fG fun hM=>hL hM.2.2.2).symm
noncomputable abbrev m7 (sig:Sig) (redex agent:Big) (m:Match):Bool:=bE sig redex agent && ee redex agent m
abbrev lI (sig:Sig) (redex agent:Big) (m:Match):Prop:=ec sig redex agent m
def kN (sig:List Control) (redex:Big) (agent:Big) (m:Match) (Z:Bool→Prop):Prop:=
 cW (fun (J6:Bool→Prop)=>(nM sig redex agent)∧∀ r13:Bool,r13=Aw sig redex agent→((r13=true→(lH redex agent m)∧∀ r15:Bool,r15=uL redex agent m→J6 (r15))∧(r13=false→J6 (false)))) (fun b9=>Z b9)
theorem y8 (sig:Sig) (redex agent:Big) (m:Match) (h:lI sig redex agent m):kN sig redex agent m (fun y=>y=m7 sig redex agent m):=by
 unfold kN
 simp only[forall_eq]
 refine⟨fun c=>c=m7 sig redex agent m,⟨⟨h.1,h.2.1⟩,fun h1=>⟨⟨⟨sig,eD h1⟩,h.2.2⟩,?_⟩,fun h1=>?_⟩,fun c h=>h⟩
 ·rw[m7,show bE sig redex agent=true from h1];rfl
 ·rw[m7,show bE sig redex agent=false from h1];rfl
end Go.Ab.Vg
/- FirstMatch, AllMatches, CountActive (statements 20, 21, 19): the search for matches, as lists. -/
namespace Go.Ab.Vg
set_option linter.unusedSimpArgs false
set_option linter.unusedVariables false
def Gi (redex agent:Big) (nodes:List Int):List Int:=(List.range redex.roots.toNat).map fun r:Nat=>(at' agent.nodes (at' nodes (at' (gD redex (-1 - (r:Int))) 0))).parent
def IU (redex agent:Big) (nodes:List Int) (x:Int):Bool:=
 decide ((at' agent.nodes x).control=(at' redex.nodes (nodes.length:Int)).control) && !k7 nodes x && (decide ((at' redex.nodes (nodes.length:Int)).parent<0) || decide ((at' agent.nodes x).parent=at' nodes (at' redex.nodes (nodes.length:Int)).parent))
noncomputable def allM (redex agent:Big) (rs:List Int→List Int) (can:List Int→Int→Bool):Nat→List Int→List Match
 | 0,nodes=>if ee redex agent ⟨nodes,rs nodes⟩ then [⟨nodes,rs nodes⟩] else []
 | k+1,nodes=>(List.range agent.nodes.length).flatMap fun x:Nat=>if can nodes (x:Int) then allM redex agent rs can k (nodes++[(x:Int)]) else []
end Go.Ab.Vg
