/- Merged texts (7 of 11) of the proof that ends in Fpy: Gl L2k Gx Dd Daw Du Dv Sh St Sf. -/
import Derived.Test.YtiokiodmcghlhaaDoorAbQfp6
/- Contracts of impl.CommonPlace and spec.CommonPlace. -/
namespace Go.Ab
open Go.Proofs
set_option linter.unusedSimpArgs false
theorem e6:Ent Tryd.prog 6:=Ent.of Tryd.func6 (by kernel_rfl) rfl
theorem e7:Ent Tryd.prog 7:=Ent.of Tryd.func7 (by kernel_rfl) rfl
def meets (b:Big) (y:Int) (p:Int):Bool:=(above b y).any fun q=>p == q
def common (b:Big) (x y:Int):Int × Bool:=match (above b x).find? (meets b y) with
 | some p=>(p,true)
 | none=>(0,false)
def commonPlace (sig:Sig) (b:Big) (x y:Int):Int × Bool:=if goodB sig b && isNodeB b x && isNodeB b y then common b x y else (0,false)
theorem find_at {α:Type} {p:α→Bool}:∀ {l:List α} {k:Nat} (hk:k<l.length),p l[k]=true→(∀ i (h:i<l.length),i<k→p l[i]=false)→l.find? p=some l[k]
 | [],_,hk,_,_=>by simp at hk
 | a::l,0,_,h,_=>by
  have h:p a=true:=h
  simp[List.find?_cons,h]
 | a::l,k+1,hk,h,hno=>by
  have h0:p a=false:=hno 0 (by simp) (by omega)
  have:=find_at (l:=l) (k:=k) (by simpa using hk) (by simpa using h) fun i hi hik=>hno (i+1) (by simp;omega) (by omega)
  simp[List.find?_cons,h0,this]
theorem find_no {α:Type} {p:α→Bool} {l:List α} (hno:∀ i (h:i<l.length),p l[i]=false):l.find? p=none:=by
 rw[List.find?_eq_none]
 intro x hx
 obtain⟨i,hi,rfl⟩:=List.getElem_of_mem hx
 simp[hno i hi]
theorem above_len (b:Big) (x:Int) (h:b.nodes.length≤8):(above b x).length≤1048576:=by
 have:=aboveF_len b (b.nodes.length+1) x
 unfold above
 omega
theorem CommonPlace_ok (sig:Sig) (b:Big) (x y:Int) (hs:SmallB sig b):PureC Tryd.prog 6 [encSig false sig,encB false b,int x,int y] (fun r=>r = .tup [int (commonPlace sig b x y).1,bool (commonPlace sig b x y).2]):=by
 have hn:=hs.nodesLen
 refine PureC.of Tryd.func6 rfl Tryd.ntmps6 (by simp) fun Q hQ=>?_
 have ret:∀ (v:Int) (o:Bool),(v,o)=commonPlace sig b x y→∀ H n,Q (.tup [int v,bool o]) H n:=fun v o h H n=>hQ _ _ _ _ (.of (Ret.fresh (by simp))) (by rw[← h])
 refine Runs.seqE Ty_ok (by decide) fun k' hk'=>?_
 simp [encB, encSig, Big.cells]   -- R0
 apply hk'
 refine Runs.cut (fun ρ H n=>ρ 0 = .list false (sig.map Control.cells)∧ρ 2=int x∧ρ 3=int y∧ρ 5 = .ptr (0,5) 1 0 0∧H (0,5)=some ⟨6,[b.cells false]⟩) ⟨by simp,by simp,by simp,by simp,by simp[Big.cells]⟩ ?_
 clear hk'
 rintro ρ H n ⟨h0,h2,h3,h5,hm⟩
 have hm':=hm
 simp only[Big.cells,encN,encI,encS,encW] at hm'
 refine Runs.seq ?_
 refine Runs.seqE Ty_ok (by decide) fun k' hk'=>?_
 have fin:∀ (ρ:Env) (ok:Bool),ρ 2=int x→ρ 3=int y→ρ 5 = .ptr (0,5) 1 0 0→ρ 28=bool (!ok)→(goodB sig b && isNodeB b x && isNodeB b y)=ok→Runs Tryd.prog 6 45 k' ρ H n Q:=by
  clear h0 h2 h3 h5
  intro ρ ok h2 h3 h5 h28 hok
  apply hk'
  refine Runs.ite h28 (fun hc1 => ?_) (fun hc1 => ?_)   -- t28
  ·have hb:ok=false:=by simpa using hc1
   refine Runs.seqE Ty_ok (by decide) fun k' hk'=>?_
   simp   -- R2
   apply hk'
   refine Runs.ret Tryd.func6 (RetOk.two Tryd.results6) ?_
   simp only[Env.put]
   exact ret 0 false (by rw[commonPlace,hok,hb];rfl) _ _
  ·have hb:ok=true:=by simpa using hc1
   rw[hb] at hok
   have hcp:commonPlace sig b x y=common b x y:=by rw[commonPlace,hok];rfl
   simp only[Bool.and_eq_true] at hok
   have hd:=goodB_down hok.1.1
   have hx:=hok.1.2
   have hy:=hok.2
   simp only[isNodeB,within,Bool.and_eq_true,decide_eq_true_eq] at hx hy
   refine Runs.skip ?_
   refine Runs.seqE Ty_ok (by decide) fun k' hk'=>?_
   simp [h3, h5, hm']   -- R3
   refine RunK.callA Ty_ok (ancestorsOf_ok hd y (by omega)).pure e20 (.cons (ArgOk.encB false b) (.cons (.v _ _ _) .nil)) (by decide) (by decide) rfl (by simp[h3,encB,Big.cells,encN,encI,encS,encW]) ?_
   rintro _ rfl
   simp
   apply hk'
   refine Runs.seq ?_
   refine Runs.seqE Ty_ok (by decide) fun k' hk'=>?_
   simp [h2, h5, hm']   -- R4
   refine RunK.callA Ty_ok (ancestorsOf_ok hd x (by omega)).pure e20 (.cons (ArgOk.encB false b) (.cons (.v _ _ _) .nil)) (by decide) (by decide) rfl (by simp[h2,encB,Big.cells,encN,encI,encS,encW]) ?_
   rintro _ rfl
   simp[encI]
   apply hk'
   refine Runs.block (Runs.loopUp (above b x).length (fun k ρ H n=>ρ 10=encI true (above b y)∧ρ 34 = .list true ((above b x).map intC)∧ρ 35=int (above b x).length∧ρ 36=int k∧∀ i (h:i<(above b x).length),i<k→meets b y (above b x)[i]=false) ?_ ?_)
   ·exact⟨by simp[encI],by simp,by simp,by simp,fun i h hi=>by omega⟩
   ·rintro k ρ H n hk ⟨h10,h34,h35,h36,hno⟩ IH
    have hal:=above_len b x hd.1
    refine Runs.seqE Ty_ok (by decide) fun k' hk'=>?_
    simp [h35, h36]   -- R5
    apply hk'
    refine Runs.seq ?_
    refine Runs.ite rfl (fun hc2 => ?_) (fun hc2 => ?_)   -- t37
    ·have hc2:k<(above b x).length:=by simpa using hc2
     refine Runs.skip ?_
     refine Runs.seq ?_
     refine Runs.block ?_
     refine Runs.seqE Ty_ok (by decide) fun k' hk'=>?_
     simp [h34, h36, hc2, intC]   -- R6
     apply hk'
     refine Runs.seqE Ty_ok (by decide) fun k' hk'=>?_
     simp [h10]   -- R7
     refine RunK.callA Ty_ok (contains_ok (above b y) (above b x)[k] (above_len b y hd.1)) e21 (.cons (ArgOk.encI true _) (.cons (.v _ _ _) .nil)) (by decide) (by decide) rfl (by simp[h10]) ?_
     rintro _ rfl
     simp
     apply hk'
     refine Runs.ite rfl (fun hc3 => ?_) (fun hc3 => ?_)   -- t42
     ·have hc3:meets b y (above b x)[k]=true:=by simpa[meets] using hc3
      refine Runs.seqE Ty_ok (by decide) fun k' hk'=>?_
      simp   -- R8
      apply hk'
      refine Runs.ret Tryd.func6 (RetOk.two Tryd.results6) ?_
      simp only[Env.put]
      exact ret (above b x)[k] true (by rw[hcp,common,find_at hc2 hc3 hno]) _ _
     ·have hc3:meets b y (above b x)[k]=false:=by
       cases h:meets b y (above b x)[k]
       ·rfl
       ·simp only[meets] at h
        simp[h] at hc3
      refine Runs.skip ?_
      refine Runs.inBlock ?_
      refine Runs.evalE Ty_ok (by decide) fun k' hk'=>?_
      simp [h36, wrap_succ (show k < 4611686018427387904 by omega)]   -- R9
      apply hk'
      refine IH hc2 _ _ _ ⟨by simp[h10],by simp[h34,intC],by simp[h35],by simp,fun i h hi=>?_⟩
      rcases Nat.lt_or_ge i k with hik | hik
      ·exact hno i h hik
      ·have:i=k:=by omega
       subst this
       exact hc3
    ·have hc2:¬ k<(above b x).length:=by simpa using hc2
     have hke:k=(above b x).length:=by omega
     subst hke
     refine Runs.exit rfl ?_
     refine Runs.seqE Ty_ok (by decide) fun k' hk'=>?_
     simp   -- R10
     apply hk'
     refine Runs.ret Tryd.func6 (RetOk.two Tryd.results6) ?_
     simp only[Env.put]
     exact ret 0 false (by rw[hcp,common,find_no fun i h=>hno i h h]) _ _
 simp [h0, h5, hm']   -- R1
 refine RunK.callA Ty_ok (IsBigraph_ok sig b hs) e8 (.cons (ArgOk.encSig false sig) (.cons (ArgOk.encB false b) .nil)) (by decide) (by decide) rfl (by simp[h0,encSig,encB,Big.cells,encN,encI,encS,encW]) ?_
 rintro _ rfl
 cases p1:goodB sig b
 ·simp[guardOf]
  exact fin _ false (by simp[h2]) (by simp[h3]) (by simp[h5]) (by simp) (by rw[p1];rfl)
 simp[h2,h5,hm',guardOf]
 refine RunK.callA Ty_ok (isNodeB_ok b x hn) e19 (.cons (ArgOk.encB false b) (.cons (.v _ _ _) .nil)) (by decide) (by decide) rfl (by simp[h2,encB,Big.cells,encN,encI,encS,encW]) ?_
 rintro _ rfl
 cases p2:isNodeB b x
 ·simp[guardOf]
  exact fin _ false (by simp[h2]) (by simp[h3]) (by simp[h5]) (by simp) (by rw[p1,p2];rfl)
 simp[h3,h5,hm',guardOf]
 refine RunK.callA Ty_ok (isNodeB_ok b y hn) e19 (.cons (ArgOk.encB false b) (.cons (.v _ _ _) .nil)) (by decide) (by decide) rfl (by simp[h3,encB,Big.cells,encN,encI,encS,encW]) ?_
 rintro _ rfl
 simp[guardOf]
 exact fin _ (isNodeB b y) (by simp[h2]) (by simp[h3]) (by simp[h5]) (by simp) (by rw[p1,p2];rfl)
theorem specCommonPlace_ok (sig:Sig) (b:Big) (x y:Int) (hs:SmallB sig b):PureC Tryd.prog 7 [encSig false sig,encB false b,int x,int y] (fun r=>r = .tup [int (commonPlace sig b x y).1,bool (commonPlace sig b x y).2]):=by
 have hn:=hs.nodesLen
 refine PureC.of Tryd.func7 rfl Tryd.ntmps7 (by simp) fun Q hQ=>?_
 have ret:∀ (v:Int) (o:Bool),(v,o)=commonPlace sig b x y→∀ H n,Q (.tup [int v,bool o]) H n:=fun v o h H n=>hQ _ _ _ _ (.of (Ret.fresh (by simp))) (by rw[← h])
 refine Runs.seqE Ty_ok (by decide) fun k' hk'=>?_
 simp [encB, encSig, Big.cells]   -- R0
 apply hk'
 refine Runs.cut (fun ρ H n=>ρ 0 = .list false (sig.map Control.cells)∧ρ 2=int x∧ρ 3=int y∧ρ 5 = .ptr (0,5) 1 0 0∧H (0,5)=some ⟨6,[b.cells false]⟩) ⟨by simp,by simp,by simp,by simp,by simp[Big.cells]⟩ ?_
 clear hk'
 rintro ρ H n ⟨h0,h2,h3,h5,hm⟩
 have hm':=hm
 simp only[Big.cells,encN,encI,encS,encW] at hm'
 refine Runs.seq ?_
 refine Runs.seqE Ty_ok (by decide) fun k' hk'=>?_
 have fin:∀ (ρ:Env) (ok:Bool),ρ 2=int x→ρ 3=int y→ρ 5 = .ptr (0,5) 1 0 0→ρ 28=bool (!ok)→(goodB sig b && isNodeB b x && isNodeB b y)=ok→Runs Tryd.prog 7 51 k' ρ H n Q:=by
  clear h0 h2 h3 h5
  intro ρ ok h2 h3 h5 h28 hok
  apply hk'
  refine Runs.ite h28 (fun hc1 => ?_) (fun hc1 => ?_)   -- t28
  ·have hb:ok=false:=by simpa using hc1
   refine Runs.seqE Ty_ok (by decide) fun k' hk'=>?_
   simp   -- R2
   apply hk'
   refine Runs.ret Tryd.func7 (RetOk.two Tryd.results7) ?_
   simp only[Env.put]
   exact ret 0 false (by rw[commonPlace,hok,hb];rfl) _ _
  ·have hb:ok=true:=by simpa using hc1
   rw[hb] at hok
   have hcp:commonPlace sig b x y=common b x y:=by rw[commonPlace,hok];rfl
   simp only[Bool.and_eq_true] at hok
   have hd:=goodB_down hok.1.1
   have hx:=hok.1.2
   have hy:=hok.2
   simp only[isNodeB,within,Bool.and_eq_true,decide_eq_true_eq] at hx hy
   refine Runs.skip ?_
   refine Runs.seqD Ty_ok kindOp_ok draws (by decide) (by kernel_rfl) fun k' hk'=>?_
   simp [h2, h3, h5, hm']   -- R3
   refine RunDK.callA Ty_ok kindOp_ok (l2Above_ok hd x (by omega)).pure e24 (.cons (ArgOk.encB false b) (.cons (.v _ _ _) .nil)) (by decide) rfl (by simp[h2,encB,Big.cells,encN,encI,encS,encW]) ?_
   simp[h2,h3,h5,hm']
   refine RunDK.callA Ty_ok kindOp_ok (l2Above_ok hd y (by omega)).pure e24 (.cons (ArgOk.encB false b) (.cons (.v _ _ _) .nil)) (by decide) rfl (by simp[h3,encB,Big.cells,encN,encI,encS,encW]) ?_
   simp
   apply hk'
   refine Runs.seq ?_
   refine Runs.seqE Ty_ok (by decide) fun k' hk'=>?_
   simp   -- R4
   apply hk'
   refine Runs.block (Runs.loopUp (above b x).length (fun k ρ H n=>ρ 11=encI true (above b y)∧ρ 10 = .list true ((above b x).map intC)∧ρ 12=int k∧∀ i (h:i<(above b x).length),i<k→meets b y (above b x)[i]=false) ?_ ?_)
   ·exact⟨by simp[encI],by simp[encI],by simp,fun i h hi=>by omega⟩
   ·rintro k ρ H n hk ⟨h11,h10,h12,hno⟩ IH
    have hal:=above_len b x hd.1
    refine Runs.seq ?_
    refine Runs.seqE Ty_ok (by decide) fun k' hk'=>?_
    simp [h10, h12]   -- R5
    apply hk'
    refine Runs.ite rfl (fun hc2 => ?_) (fun hc2 => ?_)   -- t38
    ·have hc2:k<(above b x).length:=by simpa using hc2
     refine Runs.skip ?_
     refine Runs.seq ?_
     refine Runs.block ?_
     refine Runs.seqE Ty_ok (by decide) fun k' hk'=>?_
     simp [h10, h11, h12, hc2, intC]   -- R7
     refine RunK.callA Ty_ok (l1Has_ok (above b y) (above b x)[k] (above_len b y hd.1)) e25 (.cons (ArgOk.encI true _) (.cons (.v _ _ _) .nil)) (by decide) (by decide) rfl (by simp[h11]) ?_
     rintro _ rfl
     simp
     apply hk'
     refine Runs.ite rfl (fun hc3 => ?_) (fun hc3 => ?_)   -- t46
     ·have hc3:meets b y (above b x)[k]=true:=by simpa[meets] using hc3
      refine Runs.seqE Ty_ok (by decide) fun k' hk'=>?_
      simp [h10, h12, hc2, intC]   -- R8
      apply hk'
      refine Runs.ret Tryd.func7 (RetOk.two Tryd.results7) ?_
      simp only[Env.put]
      exact ret (above b x)[k] true (by rw[hcp,common,find_at hc2 hc3 hno]) _ _
     ·have hc3:meets b y (above b x)[k]=false:=by
       cases h:meets b y (above b x)[k]
       ·rfl
       ·simp only[meets] at h
        simp[h] at hc3
      refine Runs.skip ?_
      refine Runs.inBlock ?_
      refine Runs.evalE Ty_ok (by decide) fun k' hk'=>?_
      simp [h12, wrap_succ (show k < 4611686018427387904 by omega)]   -- R6
      apply hk'
      refine IH hc2 _ _ _ ⟨by simp[h11],by simp[h10,intC],by simp,fun i h hi=>?_⟩
      rcases Nat.lt_or_ge i k with hik | hik
      ·exact hno i h hik
      ·have:i=k:=by omega
       subst this
       exact hc3
    ·have hc2:¬ k<(above b x).length:=by simpa using hc2
     have hke:k=(above b x).length:=by omega
     subst hke
     refine Runs.exit rfl ?_
     refine Runs.seqE Ty_ok (by decide) fun k' hk'=>?_
     simp   -- R9
     apply hk'
     refine Runs.ret Tryd.func7 (RetOk.two Tryd.results7) ?_
     simp only[Env.put]
     exact ret 0 false (by rw[hcp,common,find_no fun i h=>hno i h h]) _ _
 simp [h0, h5, hm']   -- R1
 refine RunK.callA Ty_ok (l2Good_ok sig b hs) e22 (.cons (ArgOk.encSig false sig) (.cons (ArgOk.encB false b) .nil)) (by decide) (by decide) rfl (by simp[h0,encSig,encB,Big.cells,encN,encI,encS,encW]) ?_
 rintro _ rfl
 cases p1:goodB sig b
 ·simp[guardOf]
  exact fin _ false (by simp[h2]) (by simp[h3]) (by simp[h5]) (by simp) (by rw[p1];rfl)
 simp[h2,h5,hm',guardOf]
 refine RunK.callA Ty_ok (l2Is_ok b x hn) e23 (.cons (ArgOk.encB false b) (.cons (.v _ _ _) .nil)) (by decide) (by decide) rfl (by simp[h2,encB,Big.cells,encN,encI,encS,encW]) ?_
 rintro _ rfl
 cases p2:isNodeB b x
 ·simp[guardOf]
  exact fin _ false (by simp[h2]) (by simp[h3]) (by simp[h5]) (by simp) (by rw[p1,p2];rfl)
 simp[h3,h5,hm',guardOf]
 refine RunK.callA Ty_ok (l2Is_ok b y hn) e23 (.cons (ArgOk.encB false b) (.cons (.v _ _ _) .nil)) (by decide) (by decide) rfl (by simp[h3,encB,Big.cells,encN,encI,encS,encW]) ?_
 rintro _ rfl
 simp[guardOf]
 exact fin _ (isNodeB b y) (by simp[h2]) (by simp[h3]) (by simp[h5]) (by simp) (by rw[p1,p2];rfl)
end Go.Ab
/- Children of a place: pure conditions of (impl.Bigraph).childrenOf, spec.l2Kids and spec.l2Holes. -/
namespace Go.Ab.Vg
set_option linter.unusedSimpArgs false
set_option linter.unusedVariables false
def kidsB (b:Big) (p:Int):List Int:=idxs b.nodes (fun x=>decide (x.parent=p)) b.nodes.length
def holesB (b:Big) (p:Int):List Int:=idxs b.sites (fun x=>decide (x=p)) b.sites.length
abbrev l2Kids (b:Big) (p:Int):=kidsB b p
abbrev l2Kids_pre (b:Big) (_:Int):Prop:=b.nodes.length≤1048576
def l2Kids_wp (b:Big) (parent:Int) (Z:(List Int)→Prop):Prop:=
 loopW (σ:=Int × (List Int)) (fun (i14,l15) K19=>∀ len20:Int,len20=(b.nodes.length:Int)→∀ c22:Bool,c22=decide (i14<len20)→((c22=true→(0≤i14∧i14<b.nodes.length)∧∀ x25:GNode,x25=at' b.nodes i14→∀ c27:Bool,c27=decide (x25.parent=parent)→((c27=true→(l15.length+1≤1073741824)∧∀ l30:List Int,l30=l15++[i14]→(I64 (i14+1))∧∀ v40:Int,v40=i14+1→K19 (v40,l30))∧(c27=false→(I64 (i14+1))∧∀ v43:Int,v43=i14+1→K19 (v43,l15))))∧(c22=false→Z l15))) (0,([]:List Int))
theorem l2Kids_vc (b:Big) (p:Int) (h:l2Kids_pre b p):l2Kids_wp b p (fun y=>y=l2Kids b p):=by
 unfold l2Kids_wp
 refine loopW.upL b.nodes.length (fun k out=>out=idxs b.nodes (fun x=>decide (x.parent=p)) k) [] rfl ?_
 rintro k out K hk rfl IH
 have hl:=idxs_len b.nodes (fun x=>decide (x.parent=p)) k
 simp only[l2Kids_pre] at h
 simp only[forall_eq,decide_eq_true_eq,decide_eq_false_iff_not,I64]
 refine⟨fun h1=>⟨by omega,fun h2=>⟨by omega,by omega,?_⟩,fun h2=>⟨by omega,?_⟩⟩,fun h1=>?_⟩
 ·exact IH (by omega) _ (idxs_yes _ _ (by simpa using h2)).symm
 ·exact IH (by omega) _ (idxs_no _ _ (by simpa using h2)).symm
 ·rw[show k=b.nodes.length by omega];rfl
abbrev l2Holes (b:Big) (p:Int):=holesB b p
abbrev l2Holes_pre (b:Big) (_:Int):Prop:=b.sites.length≤1048576
def l2Holes_wp (b:Big) (parent:Int) (Z:(List Int)→Prop):Prop:=
 loopW (σ:=Int × (List Int)) (fun (i14,l15) K19=>∀ len20:Int,len20=(b.sites.length:Int)→∀ c22:Bool,c22=decide (i14<len20)→((c22=true→(0≤i14∧i14<b.sites.length)∧∀ x25:Int,x25=at' b.sites i14→∀ c27:Bool,c27=decide (x25=parent)→((c27=true→(l15.length+1≤1073741824)∧∀ l30:List Int,l30=l15++[i14]→(I64 (i14+1))∧∀ v40:Int,v40=i14+1→K19 (v40,l30))∧(c27=false→(I64 (i14+1))∧∀ v43:Int,v43=i14+1→K19 (v43,l15))))∧(c22=false→Z l15))) (0,([]:List Int))
theorem l2Holes_vc (b:Big) (p:Int) (h:l2Holes_pre b p):l2Holes_wp b p (fun y=>y=l2Holes b p):=by
 unfold l2Holes_wp
 refine loopW.upL b.sites.length (fun k out=>out=idxs b.sites (fun x=>decide (x=p)) k) [] rfl ?_
 rintro k out K hk rfl IH
 have hl:=idxs_len b.sites (fun x=>decide (x=p)) k
 simp only[l2Holes_pre] at h
 simp only[forall_eq,decide_eq_true_eq,decide_eq_false_iff_not,I64]
 refine⟨fun h1=>⟨by omega,fun h2=>⟨by omega,by omega,?_⟩,fun h2=>⟨by omega,?_⟩⟩,fun h1=>?_⟩
 ·exact IH (by omega) _ (idxs_yes _ _ (by simpa using h2)).symm
 ·exact IH (by omega) _ (idxs_no _ _ (by simpa using h2)).symm
 ·rw[show k=b.sites.length by omega];rfl
abbrev childrenOf (b:Big) (p:Int):=(kidsB b p,holesB b p)
abbrev childrenOf_pre (b:Big) (_:Int):Prop:=b.nodes.length≤1048576∧b.sites.length≤1048576
def childrenOf_wp (b:Big) (parent:Int) (Z:((List Int) × (List Int))→Prop):Prop:=
 ∀ len9:Int,len9=(b.nodes.length:Int)→loopW (σ:=Int × (List Int)) (fun (v20,l21) K26=>∀ c27:Bool,c27=decide (v20<len9)→((c27=true→(0≤v20∧v20<b.nodes.length)∧∀ x30:GNode,x30=at' b.nodes v20→∀ c36:Bool,c36=decide (x30.parent=parent)→((c36=true→(l21.length+1≤1073741824)∧∀ l39:List Int,l39=l21++[v20]→(I64 (v20+1))∧∀ v50:Int,v50=v20+1→K26 (v50,l39))∧(c36=false→(I64 (v20+1))∧∀ v53:Int,v53=v20+1→K26 (v53,l21))))∧(c27=false→∀ len55:Int,len55=(b.sites.length:Int)→loopW (σ:=Int × (List Int)) (fun (v66,l67) K72=>∀ c73:Bool,c73=decide (v66<len55)→((c73=true→(0≤v66∧v66<b.sites.length)∧∀ x76:Int,x76=at' b.sites v66→∀ c78:Bool,c78=decide (x76=parent)→((c78=true→(l67.length+1≤1073741824)∧∀ l81:List Int,l81=l67++[v66]→(I64 (v66+1))∧∀ v92:Int,v92=v66+1→K72 (v92,l81))∧(c78=false→(I64 (v66+1))∧∀ v95:Int,v95=v66+1→K72 (v95,l67))))∧(c73=false→Z (l21,l67)))) (0,([]:List Int))))) (0,([]:List Int))
theorem childrenOf_vc (b:Big) (p:Int) (h:childrenOf_pre b p):childrenOf_wp b p (fun y=>y=childrenOf b p):=by
 unfold childrenOf_wp
 rintro _ rfl
 simp only[childrenOf_pre] at h
 refine loopW.upL b.nodes.length (fun k out=>out=idxs b.nodes (fun x=>decide (x.parent=p)) k) [] rfl ?_
 rintro k out K hk rfl IH
 have hl:=idxs_len b.nodes (fun x=>decide (x.parent=p)) k
 simp only[forall_eq,decide_eq_true_eq,decide_eq_false_iff_not,I64]
 refine⟨fun h1=>⟨by omega,fun h2=>⟨by omega,by omega,?_⟩,fun h2=>⟨by omega,?_⟩⟩,fun h1=>?_⟩
 ·exact IH (by omega) _ (idxs_yes _ _ (by simpa using h2)).symm
 ·exact IH (by omega) _ (idxs_no _ _ (by simpa using h2)).symm
 rw[show k=b.nodes.length by omega]
 clear hl hk IH K h1
 refine loopW.upL b.sites.length (fun k out=>out=idxs b.sites (fun x=>decide (x=p)) k) [] rfl ?_
 rintro k out K hk rfl IH
 have hl:=idxs_len b.sites (fun x=>decide (x=p)) k
 dsimp only
 refine⟨fun h1=>⟨by omega,fun h2=>⟨by omega,by omega,?_⟩,fun h2=>⟨by omega,?_⟩⟩,fun h1=>?_⟩
 ·exact IH (by omega) _ (idxs_yes _ _ (by simpa using h2)).symm
 ·exact IH (by omega) _ (idxs_no _ _ (by simpa using h2)).symm
 ·rw[show k=b.sites.length by omega];rfl
end Go.Ab.Vg
/- What a valid signature and a valid bigraph are, by names. -/
namespace Go.Ab.Vg
set_option linter.unusedSimpArgs false
set_option linter.unusedVariables false
structure ValidS (sig:Sig):Prop where
 len:1≤sig.length∧sig.length≤6
 ports:∀ c ∈ sig,0≤c.ports∧c.ports≤3
 kind:∀ c ∈ sig,0≤c.kind∧c.kind≤2
structure ValidB (sig:Sig) (b:Big):Prop where
 sg:ValidS sig
 roots:0≤b.roots∧b.roots≤4
 len:b.nodes.length≤8
 slen:b.sites.length≤4
 edges:0≤b.edges∧b.edges≤8
 outer:b.outer.length≤16
 inner:b.inner.length≤16
 ctl:∀ i (h:i<b.nodes.length),0≤b.nodes[i].control∧b.nodes[i].control<sig.length
 par:∀ i (h:i<b.nodes.length),-b.roots≤b.nodes[i].parent∧b.nodes[i].parent<i
 ports:∀ i (h:i<b.nodes.length),(b.nodes[i].links.length:Int)=(sig.getD b.nodes[i].control.toNat default).ports
 links:∀ i (h:i<b.nodes.length),∀ l ∈ b.nodes[i].links,0≤l∧l<b.edges+b.outer.length
 sites:∀ p ∈ b.sites,-b.roots≤p∧p<b.nodes.length
 wires:∀ w ∈ b.inner,0≤w.link∧w.link<b.edges+b.outer.length
theorem goodSig_valid {sig:Sig} (h:goodSig sig=true):ValidS sig:=by
 simp only[goodSig,within,okControl,Bool.and_eq_true,decide_eq_true_eq,List.all_eq_true,List.mem_range] at h
 obtain⟨h1,h2⟩:=h
 refine⟨by omega,fun c hc=>?_,fun c hc=>?_⟩<;>obtain⟨i,hi,rfl⟩:=List.getElem_of_mem hc<;>have:=h2 i hi<;>simp only[List.getD_eq_getElem?_getD,List.getElem?_eq_getElem hi,Option.getD_some] at this
 ·exact this.1.1.2
 ·exact this.1.2
theorem goodB_valid {sig:Sig} {b:Big} (h:goodB sig b=true):ValidB sig b:=by
 simp only[goodB,Bool.and_eq_true,decide_eq_true_eq,List.all_eq_true,List.mem_range] at h
 obtain⟨⟨⟨⟨⟨⟨⟨⟨⟨hs,hr⟩,hn⟩,hst⟩,he⟩,ho⟩,hi⟩,hno⟩,hsi⟩,hw⟩:=h
 have hV:=goodSig_valid hs
 simp only[within,Bool.and_eq_true,decide_eq_true_eq] at hr he
 simp only[goodNames,Bool.and_eq_true,decide_eq_true_eq,List.length_map] at ho hi
 have hno2:∀ i (h:i<b.nodes.length),(0≤b.nodes[i].control∧b.nodes[i].control≤(sig.length:Int) - 1)∧okParent sig b b.nodes[i].parent i=true∧(b.nodes[i].links.length:Int)=(sig.getD b.nodes[i].control.toNat default).ports∧∀ l ∈ b.nodes[i].links,okLink b l=true:=fun i h=>by
  have:=hno i h
  simp only[okNodeB,within,Bool.and_eq_true,decide_eq_true_eq,List.all_eq_true,List.getD_eq_getElem?_getD,List.getElem?_eq_getElem h,Option.getD_some] at this
  exact⟨this.1.1.1,this.1.1.2,by simpa using this.1.2,this.2⟩
 have hp:∀ p (m:Nat),okParent sig b p m=true → -b.roots≤p∧p<m:=fun p m h=>by
  simp only[okParent] at h
  split at h
  ·simp only[decide_eq_true_eq] at h;omega
  ·simp only[Bool.and_eq_true,decide_eq_true_eq] at h;omega
 have hl:∀ l,okLink b l=true→0≤l∧l<b.edges+b.outer.length:=fun l h=>by
  simp only[okLink,within,Bool.and_eq_true,decide_eq_true_eq] at h;omega
 exact⟨hV,hr,hn,hst,he,ho.1,hi.1,fun i h=>by have:=(hno2 i h).1;omega,fun i h=>hp _ _ (hno2 i h).2.1,fun i h=>(hno2 i h).2.2.1,fun i h l hm=>hl l ((hno2 i h).2.2.2 l hm),fun p hm=>hp _ _ (hsi p hm),fun w hm=>hl _ (hw w hm)⟩
end Go.Ab.Vg
/- FnPlaces: draws, children, ancestors, the law. -/
namespace Go.Ab.Vg
set_option linter.unusedSimpArgs false
set_option linter.unusedVariables false
abbrev drawCP_pre (code:List Int):Prop:=code.length≤65536∧∀ x ∈ code,0≤x∧x≤255
structure DrawnCP (y:Sig × Big × Int × Int):Prop where
 sig:SigD y.1
 big:BigD 31 y.2.1
abbrev drawCP (_:List Int) (y:Sig × Big × Int × Int):Prop:=DrawnCP y
def drawCP_wp (code:List Int) (Z:((List Control) × Big × Int × Int)→Prop):Prop:=
 (sigR_pre (Cur.mk code 0 0))∧∀ r12:Cur × (List Control),(sigR (Cur.mk code 0 0) r12)→(bigraphR_pre r12.1 r12.2 8)∧∀ r21:Cur × Big,(bigraphR r12.1 r12.2 8 r21)→∀ len26:Int,len26=(r21.2.nodes.length:Int)→(I64 (len26+1))∧∀ v29:Int,v29=len26+1→(pickZ_pre r21.1 v29)∧∀ r32:Cur × Int,r32=pickZ r21.1 v29→∀ len33:Int,len33=(r21.2.nodes.length:Int)→(I64 (len26+1))∧∀ v37:Int,v37=len26+1→(pickZ_pre r32.1 v29)∧∀ r41:Cur × Int,r41=pickZ r32.1 v29→(oneZ_pre r41.1 20)∧∀ r70:Cur × Bool,r70=oneZ r41.1 20→((r70.2=true→Z (r12.2,r21.2,r32.2,(-1)))∧(r70.2=false→Z (r12.2,r21.2,r32.2,r41.2)))
theorem cur0 {code:List Int} (h:drawCP_pre code):CurOk (Cur.mk code 0 0) 65536:=⟨h.2,by simp,by simp⟩
theorem drawCP_vc (code:List Int) (h:drawCP_pre code):drawCP_wp code (drawCP code):=by
 unfold drawCP_wp
 have h0:=cur0 h
 refine⟨(Adv.refl _).use h0 (by omega),?_⟩
 rintro r1 ⟨a1,hs⟩
 refine⟨⟨a1.use h0 (by omega),hs,by omega,by omega⟩,?_⟩
 rintro r2 ⟨a2,hb⟩
 have hn:=hb.nodes
 have a3:=a1.trans a2
 rintro _ rfl
 refine⟨by simp only[I64];omega,?_⟩
 rintro _ rfl
 refine pick_wp a3 h0 (by omega) fun r4 a4 _ _=>?_
 rintro _ rfl
 refine⟨by simp only[I64];omega,?_⟩
 rintro _ rfl
 refine pick_wp a4 h0 (by omega) fun r5 a5 _ _=>?_
 refine one_wp a5 h0 (by omega) fun r6 a6=>⟨fun _=>⟨hs,hb⟩,fun _=>⟨hs,hb⟩⟩
def rBigZ (code:List Int):Bool:=decide (65536<code.length)
abbrev rBigZ_pre (code:List Int):Prop:=code.length≤9223372036854775807
def rBigZ_wp (code:List Int) (Z:Bool→Prop):Prop:=
 ∀ len2:Int,len2=(code.length:Int)→∀ c4:Bool,c4=decide (65536<len2)→Z c4
theorem rBigZ_vc (code:List Int) (h:rBigZ_pre code):rBigZ_wp code (fun y=>y=rBigZ code):=by
 unfold rBigZ_wp
 rintro _ rfl _ rfl
 simp only[rBigZ]
 exact decide_eq_decide.2 (by omega)
theorem at_eq_all {a b:List Int} (hl:a.length=b.length) (h:∀ j:Nat,j<a.length→at' a j=at' b j):a=b:=by
 refine List.ext_getElem hl fun j h1 h2=>?_
 have:=h j h1
 rwa [at_lt h1,at_lt h2] at this
abbrev rIntsZ (a b:List Int):Bool:=decide (a=b)
abbrev rIntsZ_pre (a b:List Int):Prop:=a.length≤1048576∧b.length≤1048576
def rIntsZ_wp (a:List Int) (b:List Int) (Z:Bool→Prop):Prop:=
 ∀ len2:Int,len2=(a.length:Int)→∀ len4:Int,len4=(b.length:Int)→∀ c6:Bool,c6=decide (len2 ≠ len4)→((c6=true→Z false)∧(c6=false→loopW (σ:=Int) (fun i10 K13=>∀ len14:Int,len14=(a.length:Int)→∀ c16:Bool,c16=decide (i10<len14)→((c16=true→(0≤i10∧i10<a.length)∧∀ x19:Int,x19=at' a i10→(0≤i10∧i10<b.length)∧∀ x22:Int,x22=at' b i10→∀ c24:Bool,c24=decide (x19 ≠ x22)→((c24=true→Z false)∧(c24=false→(I64 (i10+1))∧∀ v27:Int,v27=i10+1→K13 (v27))))∧(c16=false→Z true))) (0)))
theorem rIntsZ_vc (a b:List Int) (h:rIntsZ_pre a b):rIntsZ_wp a b (fun y=>y=rIntsZ a b):=by
 unfold rIntsZ_wp
 obtain⟨ha,hb⟩:=h
 rintro _ rfl _ rfl c ec
 refine⟨fun h0=>?_,fun h0=>?_⟩
 ·have:¬ (a.length:Int)=b.length:=by simpa[ec] using h0
  exact (decide_eq_false fun he=>this (by rw[he])).symm
 have hl':(a.length:Int)=b.length:=by simpa[ec] using h0
 have hl:a.length=b.length:=by omega
 refine loopW.up1 a.length (fun k=>∀ j:Nat,j<k→at' a j=at' b j) (by omega) ?_
 rintro k K hk hI IH
 rintro _ rfl c ec
 refine⟨fun h1=>?_,fun h1=>?_⟩
 ·have h1':k<a.length:=by simpa[ec] using h1
  refine⟨by omega,?_⟩
  rintro x rfl
  refine⟨by omega,?_⟩
  rintro y rfl c ec
  refine⟨fun h2=>?_,fun h2=>⟨by simp only[I64];omega,?_⟩⟩
  ·have h2':¬ at' a k=at' b k:=by simpa[ec] using h2
   exact (decide_eq_false fun he=>h2' (by rw[he])).symm
  ·have h2':at' a k=at' b k:=by simpa[ec] using h2
   rintro v rfl
   exact IH h1' fun j hj=>by
    rcases Nat.lt_succ_iff_lt_or_eq.1 hj with q | rfl
    ·exact hI j q
    ·exact h2'
 ·have h1':¬ k<a.length:=by simpa[ec] using h1
  exact (decide_eq_true (at_eq_all hl fun j hj=>hI j (by omega))).symm
def rHasZ (a:List Int) (x:Int):Bool:=a.any fun y=>decide (y=x)
abbrev rHasZ_pre (a:List Int) (_:Int):Prop:=a.length≤1048576
def rHasZ_wp (list:List Int) (x:Int) (Z:Bool→Prop):Prop:=
 loopW (σ:=Int) (fun i4 K7=>∀ len8:Int,len8=(list.length:Int)→∀ c10:Bool,c10=decide (i4<len8)→((c10=true→(0≤i4∧i4<list.length)∧∀ x13:Int,x13=at' list i4→∀ c15:Bool,c15=decide (x13=x)→((c15=true→Z true)∧(c15=false→(I64 (i4+1))∧∀ v18:Int,v18=i4+1→K7 (v18))))∧(c10=false→Z false))) (0)
theorem rHasZ_vc (a:List Int) (x:Int) (h:rHasZ_pre a x):rHasZ_wp a x (fun y=>y=rHasZ a x):=by
 unfold rHasZ_wp
 refine loopW.up1 a.length (fun k=>∀ j:Nat,j<k→¬ at' a j=x) (by omega) ?_
 rintro k K hk hI IH
 rintro _ rfl c ec
 refine⟨fun h1=>?_,fun h1=>?_⟩
 ·have h1':k<a.length:=by simpa[ec] using h1
  refine⟨by omega,?_⟩
  rintro y rfl c ec
  refine⟨fun h2=>?_,fun h2=>⟨by simp only[I64];omega,?_⟩⟩
  ·have h2':at' a k=x:=by simpa[ec] using h2
   exact (List.any_eq_true.2 ⟨_,mem_at (l:=a) (i:=k) (by omega),by simpa using h2'⟩).symm
  ·have h2':¬ at' a k=x:=by simpa[ec] using h2
   rintro v rfl
   exact IH h1' fun j hj=>by
    rcases Nat.lt_succ_iff_lt_or_eq.1 hj with q | rfl
    ·exact hI j q
    ·exact h2'
 ·have h1':¬ k<a.length:=by simpa[ec] using h1
  refine (List.any_eq_false.2 fun y hy=>?_).symm
  obtain⟨j,hj,rfl⟩:=List.getElem_of_mem hy
  have:=hI j (by omega)
  rw[at_lt hj] at this
  simpa using this
abbrev ancestorsOf_pre (b:Big) (node:Int):Prop:=Down b∧node<b.nodes.length
abbrev ancestorsOf (b:Big) (node:Int):=above b node
def ancestorsOf_wp (b:Big) (node:Int) (Z:(List Int)→Prop):Prop:=
 loopW (σ:=Int × (List Int)) (fun (node14,l15) K19=>∀ c20:Bool,c20=decide (0≤node14)→((c20=true→(0≤node14∧node14<b.nodes.length)∧∀ x23:GNode,x23=at' b.nodes node14→(l15.length+1≤1073741824)∧∀ l26:List Int,l26=l15++[x23.parent]→K19 (x23.parent,l26))∧(c20=false→Z l15))) (node,([]:List Int))
theorem ancestorsOf_vc (b:Big) (node:Int) (h:ancestorsOf_pre b node):ancestorsOf_wp b node (fun y=>y=ancestorsOf b node):=by
 unfold ancestorsOf_wp
 obtain⟨⟨hd8,hd⟩,hn⟩:=h
 refine loopW.byM (fun s=>∃ m:Nat,s.1+1≤m∧s.1<b.nodes.length∧s.2++aboveF b m s.1=above b node∧s.2.length+m≤b.nodes.length+1) (fun s=>(s.1+1).toNat) ⟨b.nodes.length+1,by simp only;omega,hn,by simp[above],by simp⟩ ?_
 rintro⟨cur,acc⟩ ⟨m,h1,h2,h3,h4⟩
 simp only at h1 h2 h3 h4
 simp only[forall_eq,decide_eq_true_eq,decide_eq_false_iff_not]
 refine⟨fun h5=>⟨by omega,by omega,?_⟩,fun h5=>?_⟩
 ·obtain⟨q,rfl⟩:∃ q:Nat,cur=q:=⟨cur.toNat,by omega⟩
  obtain⟨m',rfl⟩:∃ m',m=m'+1:=⟨m - 1,by omega⟩
  have hp:(at' b.nodes (q:Int)).parent=parentB b q:=by simp[at',parentB]
  have:=hd q (by omega)
  rw[hp]
  refine⟨⟨m',by omega,by omega,?_,by simp;omega⟩,by omega⟩
  rw[← h3,aboveF,if_neg (by omega),Int.toNat_natCast]
  simp
 ·rw[ancestorsOf,← h3]
  cases m with
  | zero=>simp[aboveF]
  | succ m=>rw[aboveF,if_pos (by omega)];simp
abbrev l2Above_pre (b:Big) (node:Int):Prop:=Down b∧node<b.nodes.length
abbrev l2Above (b:Big) (node:Int):=above b node
def l2Above_wp (b:Big) (node:Int) (Z:(List Int)→Prop):Prop:=
 loopW (σ:=Int × (List Int)) (fun (node14,l15) K19=>∀ c20:Bool,c20=decide (0≤node14)→((c20=true→(0≤node14∧node14<b.nodes.length)∧∀ x23:GNode,x23=at' b.nodes node14→(l15.length+1≤1073741824)∧∀ l26:List Int,l26=l15++[x23.parent]→K19 (x23.parent,l26))∧(c20=false→Z l15))) (node,([]:List Int))
theorem l2Above_vc (b:Big) (node:Int) (h:l2Above_pre b node):l2Above_wp b node (fun y=>y=l2Above b node):=ancestorsOf_vc b node h
def ancestors (sig:Sig) (b:Big) (x:Int):List Int × Bool:=if goodB sig b && isNodeB b x then (above b x,true) else ([],false)
abbrev AncestorsOf_pre (sig:Sig) (b:Big) (x:Int):Prop:=SmallB sig b
abbrev AncestorsOf (sig:Sig) (b:Big) (x:Int):=ancestors sig b x
def AncestorsOf_wp (sig:List Control) (b:Big) (node:Int) (Z:((List Int) × Bool)→Prop):Prop:=
 joinW (fun (J4:Bool→Prop)=>(SmallB sig b)∧∀ r25:Bool,r25=goodB sig b→((r25=true→(b.nodes.length≤1048576)∧∀ r27:Bool,r27=isNodeB b node→J4 ((!r27)))∧(r25=false→J4 (true)))) (fun b7=>((b7=true→Z ([],false))∧(b7=false→(ancestorsOf_pre b node)∧∀ r13:List Int,r13=ancestorsOf b node→Z (r13,true))))
theorem AncestorsOf_vc (sig:Sig) (b:Big) (x:Int) (h:AncestorsOf_pre sig b x):AncestorsOf_wp sig b x (fun y=>y=AncestorsOf sig b x):=by
 unfold AncestorsOf_wp
 refine⟨fun c=>c = !(goodB sig b && isNodeB b x),?_,?_⟩
 ·simp only[forall_eq]
  refine⟨h,fun h1=>⟨h.nodesLen,by rw[h1];rfl⟩,fun h1=>by rw[h1];rfl⟩
 ·rintro _ rfl
  simp only[forall_eq]
  refine⟨fun h1=>?_,fun h1=>?_⟩
  ·rw[Bool.not_eq_true'] at h1
   rw[AncestorsOf,ancestors,h1];rfl
  ·rw[Bool.not_eq_false'] at h1
   have h2:=h1
   simp only[Bool.and_eq_true] at h2
   obtain⟨h2,h3⟩:=h2
   simp only[isNodeB,within,Bool.and_eq_true,decide_eq_true_eq] at h3
   refine⟨⟨goodB_down h2,by omega⟩,?_⟩
   rw[AncestorsOf,ancestors,h1];rfl
abbrev sAncestorsOf_pre (sig:Sig) (b:Big) (x:Int):Prop:=SmallB sig b
abbrev sAncestorsOf (sig:Sig) (b:Big) (x:Int):=ancestors sig b x
def sAncestorsOf_wp (sig:List Control) (b:Big) (node:Int) (Z:((List Int) × Bool)→Prop):Prop:=
 joinW (fun (J4:Bool→Prop)=>(SmallB sig b)∧∀ r27:Bool,r27=goodB sig b→((r27=true→(b.nodes.length≤1048576)∧∀ r29:Bool,r29=isNodeB b node→J4 ((!r29)))∧(r27=false→J4 (true)))) (fun b7=>((b7=true→Z (([]:List Int),false))∧(b7=false→(l2Above_pre b node)∧∀ r15:List Int,r15=l2Above b node→Z (r15,true))))
theorem sAncestorsOf_vc (sig:Sig) (b:Big) (x:Int) (h:sAncestorsOf_pre sig b x):sAncestorsOf_wp sig b x (fun y=>y=sAncestorsOf sig b x):=AncestorsOf_vc sig b x h
def plcB (b:Big) (x:Int):Bool:=within x (-b.roots) ((b.nodes.length:Int) - 1)
abbrev plcB_pre (b:Big) (_:Int):Prop:=b.nodes.length≤1048576∧I64 (-b.roots)
def plcB_wp (b:Big) (x:Int) (Z:Bool→Prop):Prop:=
 (I64 (-b.roots))∧∀ v5:Int,v5 = -b.roots→∀ len7:Int,len7=(b.nodes.length:Int)→(I64 (len7 - 1))∧∀ v10:Int,v10=len7 - 1→∀ r12:Bool,r12=within x v5 v10→Z r12
theorem plcB_vc (b:Big) (x:Int) (h:plcB_pre b x):plcB_wp b x (fun y=>y=plcB b x):=by
 unfold plcB_wp
 obtain⟨h1,h2⟩:=h
 refine⟨h2,?_⟩
 rintro _ rfl _ rfl
 refine⟨by simp only[I64];omega,?_⟩
 rintro _ rfl _ rfl
 rfl
def children (sig:Sig) (b:Big) (x:Int):List Int × List Int × Bool:=if goodB sig b && plcB b x then (kidsB b x,holesB b x,true) else ([],[],false)
abbrev ChildrenOf (sig:Sig) (b:Big) (x:Int):=children sig b x
abbrev ChildrenOf_pre (sig:Sig) (b:Big) (_:Int):Prop:=SmallB sig b
def ChildrenOf_wp (sig:List Control) (b:Big) (parent:Int) (Z:((List Int) × (List Int) × Bool)→Prop):Prop:=
 joinW (fun (J4:Bool→Prop)=>(SmallB sig b)∧∀ r32:Bool,r32=goodB sig b→((r32=true→(I64 (-b.roots))∧∀ v34:Int,v34 = -b.roots→∀ len36:Int,len36=(b.nodes.length:Int)→(I64 (len36 - 1))∧∀ v39:Int,v39=len36 - 1→∀ r41:Bool,r41=within parent v34 v39→J4 ((!r41)))∧(r32=false→J4 (true)))) (fun b7=>((b7=true→Z ([],[],false))∧(b7=false→(childrenOf_pre b parent)∧∀ r14:(List Int) × (List Int),r14=childrenOf b parent→Z (r14.1,r14.2,true))))
theorem good_roots {sig:Sig} {b:Big} (h:goodB sig b=true):0≤b.roots∧b.roots≤4:=(goodB_valid h).roots
theorem ChildrenOf_vc (sig:Sig) (b:Big) (x:Int) (h:ChildrenOf_pre sig b x):ChildrenOf_wp sig b x (fun y=>y=ChildrenOf sig b x):=by
 unfold ChildrenOf_wp
 have hn:=h.nodesLen
 refine⟨fun c=>c = !(goodB sig b && plcB b x),⟨h,?_⟩,?_⟩
 ·rintro _ rfl
  refine⟨fun hg=>?_,fun hg=>by rw[hg];rfl⟩
  have hr:=good_roots hg
  refine⟨by simp only[I64];omega,?_⟩
  rintro _ rfl _ rfl
  refine⟨by simp only[I64];omega,?_⟩
  rintro _ rfl _ rfl
  rw[hg];rfl
 ·rintro _ rfl
  refine⟨fun h1=>?_,fun h1=>⟨⟨h.nodesLen,h.sitesLen⟩,?_⟩⟩
  ·rw[Bool.not_eq_true'] at h1
   rw[ChildrenOf,children,h1];rfl
  ·rintro _ rfl
   rw[Bool.not_eq_false'] at h1
   rw[ChildrenOf,children,h1];rfl
abbrev sChildrenOf (sig:Sig) (b:Big) (x:Int):=children sig b x
abbrev sChildrenOf_pre (sig:Sig) (b:Big) (_:Int):Prop:=SmallB sig b
def sChildrenOf_wp (sig:List Control) (b:Big) (parent:Int) (Z:((List Int) × (List Int) × Bool)→Prop):Prop:=
 joinW (fun (J4:Bool→Prop)=>(SmallB sig b)∧∀ r18:Bool,r18=goodB sig b→((r18=true→(plcB_pre b parent)∧∀ r20:Bool,r20=plcB b parent→J4 ((!r20)))∧(r18=false→J4 (true)))) (fun b7=>((b7=true→Z (([]:List Int),([]:List Int),false))∧(b7=false→(l2Kids_pre b parent)∧∀ r14:List Int,r14=l2Kids b parent→(l2Holes_pre b parent)∧∀ r16:List Int,r16=l2Holes b parent→Z (r14,r16,true))))
theorem sChildrenOf_vc (sig:Sig) (b:Big) (x:Int) (h:sChildrenOf_pre sig b x):sChildrenOf_wp sig b x (fun y=>y=sChildrenOf sig b x):=by
 unfold sChildrenOf_wp
 have hn:=h.nodesLen
 refine⟨fun c=>c = !(goodB sig b && plcB b x),⟨h,?_⟩,?_⟩
 ·rintro _ rfl
  refine⟨fun hg=>?_,fun hg=>by rw[hg];rfl⟩
  have hr:=good_roots hg
  refine⟨⟨hn,by simp only[I64];omega⟩,?_⟩
  rintro _ rfl
  rw[hg];rfl
 ·rintro _ rfl
  refine⟨fun h1=>?_,fun h1=>⟨h.nodesLen,?_⟩⟩
  ·rw[Bool.not_eq_true'] at h1
   rw[sChildrenOf,children,h1];rfl
  ·rintro _ rfl
   refine⟨h.sitesLen,?_⟩
   rintro _ rfl
   rw[Bool.not_eq_false'] at h1
   rw[sChildrenOf,children,h1];rfl
abbrev lawPlaces (_:List Int):Bool:=true
abbrev lawPlaces_pre (code:List Int):Prop:=code.length≤9223372036854775807∧∀ x ∈ code,0≤x∧x≤255
def lawPlaces_wp (code:List Int) (Z:Bool→Prop):Prop:=
 (rBigZ_pre code)∧∀ r3:Bool,r3=rBigZ code→((r3=true→Z true)∧(r3=false→(drawCP_pre code)∧∀ r5:(List Control) × Big × Int × Int,(drawCP code r5)→(SmallB r5.1 r5.2.1)∧∀ r9:Int × Bool,r9=commonPlace r5.1 r5.2.1 r5.2.2.1 r5.2.2.2→(SmallB r5.1 r5.2.1)∧∀ r11:Int × Bool,r11=commonPlace r5.1 r5.2.1 r5.2.2.1 r5.2.2.2→joinW (fun (J13:Bool→Prop)=>∀ c183:Bool,c183=decide (r9.1 ≠ r11.1)→((c183=true→J13 (true))∧(c183=false→∀ c185:Bool,c185 = !(r9.2 == r11.2)→J13 (c185)))) (fun b16=>((b16=true→Z false)∧(b16=false→(SmallB r5.1 r5.2.1)∧∀ r20:Bool,r20=goodB r5.1 r5.2.1→((r20=true→(I64 (-r5.2.1.roots))∧∀ v22:Int,v22 = -r5.2.1.roots→loopW (σ:=Int × Int) (fun (seen27,parent28) K31=>∀ len32:Int,len32=(r5.2.1.nodes.length:Int)→∀ c34:Bool,c34=decide (parent28<len32)→((c34=true→(ChildrenOf_pre r5.1 r5.2.1 parent28)∧∀ r37:(List Int) × (List Int) × Bool,r37=ChildrenOf r5.1 r5.2.1 parent28→(sChildrenOf_pre r5.1 r5.2.1 parent28)∧∀ r40:(List Int) × (List Int) × Bool,r40=sChildrenOf r5.1 r5.2.1 parent28→joinW (fun (J41:Bool→Prop)=>∀ c60:Bool,c60 = !(r37.2.2 == r40.2.2)→((c60=true→J41 (true))∧(c60=false→((r37.2.2=true→(rIntsZ_pre r37.1 r40.1)∧∀ r63:Bool,r63=rIntsZ r37.1 r40.1→((r63=true→(rIntsZ_pre r37.2.1 r40.2.1)∧∀ r65:Bool,r65=rIntsZ r37.2.1 r40.2.1→J41 ((!r65)))∧(r63=false→J41 (true))))∧(r37.2.2=false→J41 (true)))))) (fun b44=>((b44=true→Z false)∧(b44=false→∀ len47:Int,len47=(r37.1.length:Int)→(I64 (seen27+len47))∧∀ v50:Int,v50=seen27+len47→∀ len52:Int,len52=(r37.2.1.length:Int)→(I64 (v50+len52))∧∀ v55:Int,v55=v50+len52→(I64 (parent28+1))∧∀ v58:Int,v58=parent28+1→K31 (v55,v58)))))∧(c34=false→∀ len66:Int,len66=(r5.2.1.nodes.length:Int)→∀ len68:Int,len68=(r5.2.1.sites.length:Int)→(I64 (len66+len68))∧∀ v71:Int,v71=len66+len68→∀ c73:Bool,c73=decide (seen27 ≠ v71)→((c73=true→Z false)∧(c73=false→loopW (σ:=Int) (fun i79 K82=>∀ len83:Int,len83=(r5.2.1.nodes.length:Int)→∀ c85:Bool,c85=decide (i79<len83)→((c85=true→(AncestorsOf_pre r5.1 r5.2.1 i79)∧∀ r88:(List Int) × Bool,r88=AncestorsOf r5.1 r5.2.1 i79→(sAncestorsOf_pre r5.1 r5.2.1 i79)∧∀ r90:(List Int) × Bool,r90=sAncestorsOf r5.1 r5.2.1 i79→joinW (fun (J92:Bool→Prop)=>∀ c123:Bool,c123 = !(r88.2 == r90.2)→((c123=true→J92 (true))∧(c123=false→((r88.2=true→(rIntsZ_pre r88.1 r90.1)∧∀ r126:Bool,r126=rIntsZ r88.1 r90.1→((r126=true→∀ len127:Int,len127=(r88.1.length:Int)→∀ c129:Bool,c129=decide (len127=0)→((c129=true→J92 (true))∧(c129=false→((0:Int)≤0∧(0:Int)<r88.1.length)∧∀ x132:Int,x132=at' r88.1 0→(0≤i79∧i79<r5.2.1.nodes.length)∧∀ x135:GNode,x135=at' r5.2.1.nodes i79→∀ c137:Bool,c137=decide (x132 ≠ x135.parent)→J92 (c137))))∧(r126=false→J92 (true))))∧(r88.2=false→J92 (true)))))) (fun b95=>((b95=true→Z false)∧(b95=false→(0≤i79∧i79<r5.2.1.nodes.length)∧∀ x99:GNode,x99=at' r5.2.1.nodes i79→∀ c101:Bool,c101=decide (0≤x99.parent)→((c101=true→(AncestorsOf_pre r5.1 r5.2.1 x99.parent)∧∀ r104:(List Int) × Bool,r104=AncestorsOf r5.1 r5.2.1 x99.parent→joinW (fun (J106:Bool→Prop)=>((r104.2=true→((0:Int)≤1∧(1:Int)≤(r88.1.length:Int)∧(r88.1.length:Int)≤r88.1.length)∧∀ l116:List Int,l116=(r88.1.take (r88.1.length:Int).toNat).drop 1→(rIntsZ_pre r104.1 l116)∧∀ r119:Bool,r119=rIntsZ r104.1 l116→J106 ((!r119)))∧(r104.2=false→J106 (true)))) (fun b109=>((b109=true→Z false)∧(b109=false→(I64 (i79+1))∧∀ v113:Int,v113=i79+1→K82 (v113)))))∧(c101=false→(I64 (i79+1))∧∀ v121:Int,v121=i79+1→K82 (v121)))))))∧(c85=false→((r9.2=true→(AncestorsOf_pre r5.1 r5.2.1 r5.2.2.1)∧∀ r140:(List Int) × Bool,r140=AncestorsOf r5.1 r5.2.1 r5.2.2.1→(AncestorsOf_pre r5.1 r5.2.1 r5.2.2.2)∧∀ r143:(List Int) × Bool,r143=AncestorsOf r5.1 r5.2.1 r5.2.2.2→loopW (σ:=Int) (fun i146 K149=>joinW (fun (J150:Bool→Prop)=>∀ len174:Int,len174=(r140.1.length:Int)→∀ c176:Bool,c176=decide (i146<len174)→((c176=true→(0≤i146∧i146<r140.1.length)∧∀ x179:Int,x179=at' r140.1 i146→∀ c181:Bool,c181=decide (x179 ≠ r9.1)→J150 (c181))∧(c176=false→J150 (false)))) (fun b153=>((b153=true→(0≤i146∧i146<r140.1.length)∧∀ x157:Int,x157=at' r140.1 i146→(rHasZ_pre r143.1 x157)∧∀ r160:Bool,r160=rHasZ r143.1 x157→((r160=true→Z false)∧(r160=false→(I64 (i146+1))∧∀ v162:Int,v162=i146+1→K149 (v162))))∧(b153=false→joinW (fun (J164:Bool→Prop)=>(rHasZ_pre r140.1 r9.1)∧∀ r171:Bool,r171=rHasZ r140.1 r9.1→((r171=true→(rHasZ_pre r143.1 r9.1)∧∀ r173:Bool,r173=rHasZ r143.1 r9.1→J164 (r173))∧(r171=false→J164 (false)))) (fun b167=>Z b167))))) (0))∧(r9.2=false→Z true))))) (0)))))) (0,v22))∧(r20=false→Z (!r9.2))))))))
theorem smallD {sig:Sig} {b:Big} {k:Int} (hs:SigD sig) (hb:BigD k b) (hk:k≤1048576):SmallB sig b:=
 ⟨by have:=hs.len;omega,fun c hc=>by have:=(hs.ctl c hc).1;omega,by have:=hb.nodes;omega,by have:=hb.sites;omega,by have:=hb.outer;omega,by have:=hb.inner;omega,fun x hx=>by have:=hb.names x hx;omega,fun x hx=>by have:=hb.wnames x hx;omega,fun x hx=>by have:=hb.links x hx;omega,hb.parents,hb.sites64⟩
def below {α:Type} (l:List α) (f:α→Int) (p:Int):Nat:=l.countP fun x=>decide (f x<p)
theorem below_succ {α:Type} (l:List α) (f:α→Int) (p:Int):below l f (p+1)=below l f p+l.countP fun x=>decide (f x=p):=by
 induction l with
 | nil=>rfl
 | cons a l ih=>
  simp only[below,List.countP_cons] at ih ⊢
  rw[ih]
  by_cases h1:f a<p
  ·have h2:f a<p+1:=by omega
   have h3:¬ f a=p:=by omega
   simp only[h1,h2,h3,decide_true,decide_false,if_true,Bool.false_eq_true,if_false];omega
  ·by_cases h3:f a=p
   ·have h2:f a<p+1:=by omega
    rw[if_pos (by simpa using h2),if_neg (by simpa using h1),if_pos (by simpa using h3)];omega
   ·have h2:¬ f a<p+1:=by omega
    simp only[h1,h2,h3,decide_true,decide_false,if_true,Bool.false_eq_true,if_false];omega
theorem below_all {α:Type} {l:List α} {f:α→Int} {p:Int} (h:∀ x ∈ l,f x<p):below l f p=l.length:=List.countP_eq_length.2 fun x hx=>by simpa using h x hx
theorem below_none {α:Type} {l:List α} {f:α→Int} {p:Int} (h:∀ x ∈ l,p≤f x):below l f p=0:=List.countP_eq_zero.2 fun x hx=>by have:=h x hx;simp;omega
theorem idxs_count {α:Type} [Inhabited α] (l:List α) (p:α→Bool):(idxs l p l.length).length=l.countP p:=by
 simp only[idxs,List.length_map]
 have:∀ k,k≤l.length→((List.range k).filter fun i:Nat=>p (at' l (i:Int))).length=(l.take k).countP p:=by
  intro k
  induction k with
  | zero=>simp
  | succ k ih=>
   intro hk
   have hk':k<l.length:=by omega
   rw[List.range_succ,List.filter_append,List.length_append,ih (by omega),List.take_add_one,List.countP_append,List.getElem?_eq_getElem hk']
   simp only[List.filter_cons,List.filter_nil,at_lt hk',Option.toList_some,List.countP_cons,List.countP_nil]
   split<;>rename_i q<;>simp[q]
 rw[this l.length (Nat.le_refl _),List.take_length]
theorem above_cons {b:Big} (hd:Down b) {x:Int} (hx:0≤x∧x<b.nodes.length):above b x=(at' b.nodes x).parent::above b (at' b.nodes x).parent:=by
 obtain⟨q,rfl⟩:=Int.eq_ofNat_of_zero_le hx.1
 have hp:(at' b.nodes (q:Int)).parent=parentB b q:=by simp[at',parentB]
 have more:∀ (d:Nat) (y:Int),y+1≤d→y<b.nodes.length→aboveF b (d+1) y=aboveF b d y:=by
  intro d
  induction d with
  | zero=>intro y h1 _;simp only[aboveF];rw[if_pos (by omega)]
  | succ d ih=>
   intro y h1 h2
   conv=>lhs;rw[aboveF]
   conv=>rhs;rw[aboveF]
   split
   ·rfl
   ·rename_i hy
    have:=hd.2 y.toNat (by omega)
    rw[ih _ (by omega) (by omega)]
 have h1:=hd.2 q (by omega)
 show aboveF b (b.nodes.length+1) q=_::aboveF b (b.nodes.length+1) _
 rw[aboveF,if_neg (by omega),Int.toNat_natCast,hp,more b.nodes.length _ (by omega) (by omega)]
theorem above_len9 {sig:Sig} {b:Big} (h:goodB sig b=true) (x:Int):(above b x).length≤9:=by
 have hd:=goodB_down h
 have:=aboveF_len b (b.nodes.length+1) x
 have:=hd.1
 simp only[above]
 omega
theorem rHasZ_iff {a:List Int} {x:Int}:rHasZ a x=true↔x ∈ a:=by
 simp[rHasZ]
theorem lawPlaces_vc (code:List Int) (h:lawPlaces_pre code):lawPlaces_wp code (fun y=>y=lawPlaces code):=by
 unfold lawPlaces_wp
 refine⟨h.1,?_⟩
 rintro _ rfl
 refine⟨fun _=>rfl,fun h0=>⟨⟨by simpa[rBigZ] using h0,h.2⟩,?_⟩⟩
 rintro⟨sig,b,x,y⟩ ⟨hs,hb⟩
 dsimp only at hs hb ⊢
 have hS:SmallB sig b:=smallD hs hb (by omega)
 have hn:=hS.nodesLen
 have hst:=hS.sitesLen
 refine⟨hS,?_⟩
 rintro _ rfl
 refine⟨hS,?_⟩
 rintro _ rfl
 refine⟨fun c=>c=false,?_,?_⟩
 ·rintro _ rfl
  refine⟨fun h=>(by simp at h),fun _=>?_⟩
  rintro c rfl
  simp
 rintro _ rfl
 refine⟨fun h=>(by cases h),fun _=>⟨hS,?_⟩⟩
 rintro _ rfl
 refine⟨fun hg=>?_,fun hg=>by rw[commonPlace,hg];rfl⟩
 have hd:=goodB_down hg
 have hV:=goodB_valid hg
 have hr:=hV.roots
 have hp1:∀ z ∈ b.nodes,-b.roots≤z.parent∧z.parent<b.nodes.length:=fun z hz=>by
  obtain⟨i,hi,rfl⟩:=List.getElem_of_mem hz
  have:=hV.par i hi
  omega
 refine⟨by simp only[I64];omega,?_⟩
 rintro _ rfl
 refine loopW.byM (fun t=>(-b.roots≤t.2∧t.2≤b.nodes.length)∧t.1=below b.nodes (fun z=>z.parent) t.2+below b.sites id t.2) (fun t=>(b.nodes.length - t.2).toNat) ⟨by simp only;omega,?_⟩ ?_
 ·simp only
  rw[below_none fun z hz=>(hp1 z hz).1,below_none (f:=id) fun z hz=>(hV.sites z hz).1];rfl
 rintro⟨seen,p⟩ ⟨hp,hse⟩
 simp only at hp hse
 have hbl:∀ {α:Type} (l:List α) (f:α→Int) (q:Int),below l f q≤l.length:=fun l f q=>List.countP_le_length
 have hb1:=hbl b.nodes (fun z=>z.parent) p
 have hb2:=hbl b.sites id p
 have hd8:=hd.1
 have hs4:=hV.slen
 rintro _ rfl c ec
 refine⟨fun h1=>⟨hS,?_⟩,fun h1=>?_⟩
 ·have h1':p<b.nodes.length:=by simpa[ec] using h1
  have hc:children sig b p=(kidsB b p,holesB b p,true):=by
   rw[children,hg,plcB,within,decide_eq_true (by omega),decide_eq_true (by omega)];rfl
  have hk:(kidsB b p).length=b.nodes.countP fun z=>decide (z.parent=p):=idxs_count _ _
  have hh:(holesB b p).length=b.sites.countP fun z=>decide (z=p):=idxs_count _ _
  have hk8:(kidsB b p).length≤b.nodes.length:=by rw[hk];exact List.countP_le_length
  have hh4:(holesB b p).length≤b.sites.length:=by rw[hh];exact List.countP_le_length
  rintro _ rfl
  refine⟨hS,?_⟩
  rintro _ rfl
  simp only[ChildrenOf,sChildrenOf,hc]
  refine⟨fun c=>c=false,?_,?_⟩
  ·rintro c rfl
   refine⟨fun h=>(by simp at h),fun _=>⟨fun _=>⟨⟨by omega,by omega⟩,?_⟩,fun h=>(by cases h)⟩⟩
   rintro _ rfl
   refine⟨fun _=>⟨⟨by omega,by omega⟩,?_⟩,fun h=>(by simp[rIntsZ] at h)⟩
   rintro _ rfl
   simp[rIntsZ]
  rintro _ rfl
  refine⟨fun h=>(by cases h),fun _=>?_⟩
  rintro _ rfl
  refine⟨by simp only[I64];omega,?_⟩
  rintro _ rfl _ rfl
  refine⟨by simp only[I64];omega,?_⟩
  rintro _ rfl
  refine⟨by simp only[I64];omega,?_⟩
  rintro _ rfl
  refine⟨⟨by omega,?_⟩,by omega⟩
  rw[below_succ,below_succ,hse,hk,hh]
  simp only[id]
  omega
 have hpe:p=b.nodes.length:=by
  have:¬ p<b.nodes.length:=by simpa[ec] using h1
  omega
 have hse2:seen=b.nodes.length+b.sites.length:=by
  rw[hse,below_all fun z hz=>by rw[hpe];exact (hp1 z hz).2,below_all (f:=id) fun z hz=>by rw[hpe];exact (hV.sites z hz).2]
 rintro _ rfl _ rfl
 refine⟨by simp only[I64];omega,?_⟩
 rintro _ rfl c ec
 refine⟨fun h2=>by simp[ec,hse2] at h2,fun _=>?_⟩
 have hnode:∀ z:Int,0≤z→z<b.nodes.length→ancestors sig b z=(above b z,true):=fun z h1 h2=>by
  rw[ancestors,hg,isNodeB,within,decide_eq_true (by omega),decide_eq_true (by omega)];rfl
 refine loopW.up1 b.nodes.length (fun _=>True) trivial ?_
 rintro k K hk - IH
 rintro _ rfl c ec
 refine⟨fun h2=>⟨hS,?_⟩,fun h2=>?_⟩
 ·have h2':k<b.nodes.length:=by simpa[ec] using h2
  have ha:=hnode k (by omega) (by omega)
  have hac:=above_cons hd (x:=k) ⟨by omega,by omega⟩
  have hl9:=above_len9 hg (k:Int)
  rintro _ rfl
  refine⟨hS,?_⟩
  rintro _ rfl
  simp only[AncestorsOf,sAncestorsOf,ha]
  have hpos:0<(above b k).length:=by rw[hac];simp
  refine⟨fun c=>c=false,?_,?_⟩
  ·rintro c rfl
   refine⟨fun h=>(by simp at h),fun _=>⟨fun _=>⟨⟨by omega,by omega⟩,?_⟩,fun h=>(by cases h)⟩⟩
   rintro _ rfl
   refine⟨fun _=>?_,fun h=>(by simp[rIntsZ] at h)⟩
   rintro _ rfl c ec
   refine⟨fun h=>?_,fun _=>⟨by omega,?_⟩⟩
   ·have:((above b k).length:Int)=0:=by simpa[ec] using h
    omega
   ·rintro _ rfl
    refine⟨by omega,?_⟩
    rintro _ rfl c rfl
    rw[hac]
    simp[at']
  rintro _ rfl
  refine⟨fun h=>(by cases h),fun _=>⟨by omega,?_⟩⟩
  rintro _ rfl c ec
  refine⟨fun h3=>⟨hS,?_⟩,fun _=>⟨by simp only[I64];omega,?_⟩⟩
  ·have h3':0≤(at' b.nodes (k:Int)).parent:=by simpa[ec] using h3
   have hpk:=(hp1 _ (mem_at (l:=b.nodes) (i:=(k:Int)) (by omega))).2
   have hap:=hnode _ h3' hpk
   have hl9':=above_len9 hg (at' b.nodes (k:Int)).parent
   rintro _ rfl
   simp only[hap]
   refine⟨fun c=>c=false,⟨fun _=>⟨by omega,?_⟩,fun h=>(by cases h)⟩,?_⟩
   ·rintro l el
    have:l=above b (at' b.nodes (k:Int)).parent:=by
     rw[el,Int.toNat_natCast,List.take_length,hac];rfl
    subst this
    refine⟨⟨by omega,by omega⟩,?_⟩
    rintro _ rfl
    simp[rIntsZ]
   ·rintro _ rfl
    refine⟨fun h=>(by cases h),fun _=>⟨by simp only[I64];omega,?_⟩⟩
    rintro _ rfl
    exact IH h2' trivial
  ·rintro _ rfl
   exact IH h2' trivial
 refine⟨fun h3=>⟨hS,?_⟩,fun _=>rfl⟩
 have h3':=h3
 simp only[commonPlace,hg] at h3'
 obtain⟨hx,hy⟩:isNodeB b x=true∧isNodeB b y=true:=by
  split at h3'
  ·rename_i hxy
   simpa only [Bool.true_and,Bool.and_eq_true] using hxy
  ·cases h3'
 have hcp:commonPlace sig b x y=common b x y:=by rw[commonPlace,hg,hx,hy];rfl
 rw[hcp]
 simp only[isNodeB,within,Bool.and_eq_true,decide_eq_true_eq] at hx hy
 have hax:=hnode x (by omega) (by omega)
 have hay:=hnode y (by omega) (by omega)
 have hlx:=above_len9 hg x
 have hly:=above_len9 hg y
 rintro _ rfl
 refine⟨hS,?_⟩
 rintro _ rfl
 simp only[hax,hay]
 obtain⟨p,hfind⟩:∃ p,(above b x).find? (meets b y)=some p:=by
  cases hf:(above b x).find? (meets b y) with
  | some p=>exact⟨p,rfl⟩
  | none=>simp[common,hf] at h3'
 have hcm:common b x y=(p,true):=by rw[common,hfind]
 simp only[hcm]
 obtain⟨hpm,as1,bs,hsplit,hno⟩:=List.find?_eq_some_iff_append.1 hfind
 have hmeets:∀ q,meets b y q=true↔q ∈ above b y:=fun q=>by simp[meets]
 refine loopW.up1 (above b x).length (fun k=>∀ j:Nat,j<k→¬ at' (above b x) j=p) (by omega) ?_
 rintro i K hi hI IH
 refine⟨fun c=>c=true→i<(above b x).length∧¬ at' (above b x) i=p,?_,?_⟩
 ·rintro _ rfl c ec
  refine⟨fun h4=>?_,fun _ h=>by cases h⟩
  have h4':i<(above b x).length:=by simpa[ec] using h4
  refine⟨by omega,?_⟩
  rintro _ rfl c ec
  intro h5
  exact⟨h4',by simpa[ec] using h5⟩
 ·rintro c hc
  refine⟨fun h4=>?_,fun _=>?_⟩
  ·obtain⟨h4',h5⟩:=hc h4
   refine⟨by omega,?_⟩
   rintro _ rfl
   refine⟨by omega,?_⟩
   rintro _ rfl
   have hlen:i<as1.length:=by
    rcases Nat.lt_or_ge i as1.length with q | q
    ·exact q
    ·exfalso
     have hm:as1.length<(above b x).length:=by rw[hsplit];simp
     have hat:at' (above b x) (as1.length:Int)=p:=by
      rw[at_lt hm];simp[hsplit]
     rcases Nat.lt_or_ge as1.length i with q2 | q2
     ·exact hI _ q2 hat
     ·have:as1.length=i:=by omega
      rw[this] at hat
      exact h5 hat
   have hmem:at' (above b x) (i:Int) ∈ as1:=by
    have:at' (above b x) (i:Int)=as1[i]:=by
     rw[at_lt h4']
     simp[hsplit,List.getElem_append_left hlen]
    rw[this]
    exact List.getElem_mem hlen
   have hnm:=hno _ hmem
   refine⟨fun h6=>?_,fun _=>⟨by simp only[I64];omega,?_⟩⟩
   ·have:=(hmeets _).2 (rHasZ_iff.1 h6)
    rw[this] at hnm
    cases hnm
   ·rintro _ rfl
    exact IH h4' fun j hj=>by
     rcases Nat.lt_succ_iff_lt_or_eq.1 hj with q | rfl
     ·exact hI j q
     ·exact h5
  ·refine⟨fun c=>c=true,⟨by omega,?_⟩,fun c hc=>hc⟩
   rintro _ rfl
   refine⟨fun _=>⟨by omega,?_⟩,fun h6=>?_⟩
   ·rintro _ rfl
    exact rHasZ_iff.2 ((hmeets p).1 hpm)
   ·have:rHasZ (above b x) p=true:=rHasZ_iff.2 (by rw[hsplit];simp)
    rw[this] at h6
    cases h6
end Go.Ab.Vg
/- Walks by program for YtiokiodmcghlhaaDoorAbDa. -/
namespace Go.Ab.Vg
open Go.Proofs
set_option maxRecDepth 100000
set_option linter.unusedSimpArgs false
set_option linter.unusedVariables false
attribute [local simp] intC strC
theorem e45:Ent Tryd.prog 45:=Ent.of Tryd.func45 (by kernel_rfl) rfl
theorem nextZ_walk (c:Cur) (Z:(Cur × Int)→Prop) (h:nextZ_wp c Z):DrawS Tryd.prog 45 (fun p=>[p]) 3 (fun s=>[.list false (s.code.map byteC),int s.pos,.v (.int .u64 s.seed)]) c [] (.c) (fun s' r=>∃ y:Int,Z (s',y)∧r=int y):=by
 unfold nextZ_wp at h
 refine DrawS.of Tryd.func45 rfl Tryd.ntmps45 (fun _=>by simp) fun X H0 n0 K0 ids0 hX hxi sp Q hQ=>?_
 have h00:=sp.1
 have lX:X.1<n0:=h00 X (by simp)
 have neX:∀ m d,n0≤m→(X=(m,d))=False:=fun m d hm=>by simp only[eq_iff_iff,iff_false];rintro rfl;simp at lX;omega
 have hid:∀ i ∈ ids0,H0 i=H0 i:=fun _ _=>rfl
 have hnn:n0≤n0:=Nat.le_refl _
 have hn1:=Nat.le_succ_of_le hnn
 have hn2:=Nat.le_succ_of_le hn1
 replace sp:Sep H0 n0 (K0) (X::ids0):=sp
 refine Runs.cut (fun ρ H n=>ρ 0 = .ptr X 1 0 0∧H X=some ⟨3,[[.list false (c.code.map byteC),int c.pos,.v (.int .u64 c.seed)]]⟩∧n0≤n∧(∀ i ∈ ids0,H i=H0 i)∧Sep H n (K0) (X::ids0)) (by refine⟨?_,?_,(by omega),hid,sp⟩<;>simp[hX,hnn,hn1,hn2,neX,byteC]) ?_
 rintro ρ H n1 ⟨hh,mX0,hnn,hid,sp⟩
 have hq_n1:=hnn
 have hn1:=Nat.le_succ_of_le hnn
 have hn2:=Nat.le_succ_of_le hn1
 refine zE fun k' hk'=>?_
 simp[hh,mX0,hnn,hn1,hn2,neX,byteC]
 apply hk'
 refine zE fun k' hk'=>?_
 simp[hh,mX0,hnn,hn1,hn2,neX,byteC]
 apply hk'
 refine Runs.seq ?_
 refine Runs.seqD Ty_ok kindOp_ok draws (by decide) (by kernel_rfl) fun k' hk'=>?_
 obtain⟨len2,elen2,h⟩:=atm h
 have f3:=fun H=>len_list (H:=H) (fr:=false) (f:=byteC) kd_22 elen2
 obtain⟨c4,ec4,h⟩:=atm h
 have f5:=ib_lss (k:=.i64) ec4
 simp[hh,mX0,hnn,hn1,hn2,neX,f3,f5,byteC,-intBin,-lenF]
 apply hk'
 refine Runs.ite (b:=c4) (by simp[hh,mX0,hnn,hn1,hn2,neX,byteC]) (fun dc4=>?_) (fun dc4=>?_)
 ·replace h:=h.1 dc4
  refine Runs.evalDE Ty_ok kindOp_ok draws (by decide) (by kernel_rfl) fun k' hk'=>?_
  obtain⟨hb6,h⟩:=h
  obtain⟨x7,ex7,h⟩:=atm h
  have f8:=fun H=>ix_list (H:=H) (fr:=false) (f:=byteC) (k:=.i64) kd_22 (fun _=>rfl) hb6 ex7
  obtain⟨hb9,h⟩:=h
  have f10:=cv_64 (k:=.u8) Ty_5 kd_3 hb9
  simp[hh,mX0,hnn,hn1,hn2,neX,f8,f10,dc4,byteC,-convF,-indexAddrF]
  apply hk'
  refine Runs.cut (fun ρ H n=>(ρ 0 = .ptr X 1 0 0∧ρ 3=int x7)∧H X=some ⟨3,[[.list false (c.code.map byteC),int c.pos,.v (.int .u64 c.seed)]]⟩∧n0≤n∧(∀ i ∈ ids0,H i=H0 i)∧Sep H n (K0) (X::ids0)) (by refine⟨?_,?_,(by omega),hid,sp⟩<;>simp[hh,mX0,hnn,hn1,hn2,neX,f8,f10,dc4,byteC,-convF,-indexAddrF]) ?_
  clear hh mX0
  rintro ρ H n11 ⟨hh,mX0,hnn,hid,sp⟩
  have hq_n11:=hnn
  have hn1:=Nat.le_succ_of_le hnn
  have hn2:=Nat.le_succ_of_le hn1
  refine zE fun k' hk'=>?_
  obtain⟨hb12,h⟩:=h
  obtain⟨v13,ev13,h⟩:=atm h
  have f14:=ib_add hb12 ev13
  simp[hh,mX0,hnn,hn1,hn2,neX,f14,byteC,-intBin]
  apply hk'
  refine Runs.cut (fun ρ H n=>(ρ 0 = .ptr X 1 0 0∧ρ 3=int x7)∧H X=some ⟨3,[[.list false (c.code.map byteC),int v13,.v (.int .u64 c.seed)]]⟩∧n0≤n∧(∀ i ∈ ids0,H i=H0 i)∧Sep H n (K0) (X::ids0)) (by refine⟨?_,?_,(by omega),(by intro i hi;have hlt:=h00 i (by simp[hi]);have hxx:i ≠ X:=fun e=>hxi (e ▸ hi);repeat (first | exact hid i hi | rw[Heap.get_set_ne _ _ hxx] | rw[Heap.get_set_ne _ _ (by rintro rfl;simp at hlt;omega)])),(Sep.setVar (w:=X) sp (by simp))⟩<;>simp[hh,mX0,hnn,hn1,hn2,neX,f14,byteC,-intBin]) ?_
  clear hh mX0
  rintro ρ H n15 ⟨hh,mX0,hnn,hid,sp⟩
  have hq_n15:=hnn
  have hn1:=Nat.le_succ_of_le hnn
  have hn2:=Nat.le_succ_of_le hn1
  refine zE fun k' hk'=>?_
  obtain⟨u16,eu16,h⟩:=atm h
  have f17:=ibu_mul eu16
  obtain⟨u18,eu18,h⟩:=atm h
  have f19:=cv_u64 (k:=.i64) Ty_3 kd_45 eu18
  obtain⟨u20,eu20,h⟩:=atm h
  have f21:=ibu_add eu20
  obtain⟨u22,eu22,h⟩:=atm h
  have f23:=ibu_add eu22
  simp[hh,mX0,hnn,hn1,hn2,neX,f17,f19,f21,f23,byteC,-convF,-intBin]
  apply hk'
  refine Runs.cut (fun ρ H n=>(ρ 0 = .ptr X 1 0 0∧ρ 3=int x7)∧H X=some ⟨3,[[.list false (c.code.map byteC),int v13,.v (.int .u64 u22)]]⟩∧n0≤n∧(∀ i ∈ ids0,H i=H0 i)∧Sep H n (K0) (X::ids0)) (by refine⟨?_,?_,(by omega),(by intro i hi;have hlt:=h00 i (by simp[hi]);have hxx:i ≠ X:=fun e=>hxi (e ▸ hi);repeat (first | exact hid i hi | rw[Heap.get_set_ne _ _ hxx] | rw[Heap.get_set_ne _ _ (by rintro rfl;simp at hlt;omega)])),(Sep.setVar (w:=X) sp (by simp))⟩<;>simp[hh,mX0,hnn,hn1,hn2,neX,f17,f19,f21,f23,byteC,-convF,-intBin]) ?_
  clear hh mX0
  rintro ρ H n24 ⟨hh,mX0,hnn,hid,sp⟩
  have hq_n24:=hnn
  have hn1:=Nat.le_succ_of_le hnn
  have hn2:=Nat.le_succ_of_le hn1
  refine Runs.seq ?_
  refine Runs.seqD Ty_ok kindOp_ok draws (by decide) (by kernel_rfl) fun k' hk'=>?_
  obtain⟨len25,elen25,h⟩:=atm h
  have f26:=fun H=>len_list (H:=H) (fr:=false) (f:=byteC) kd_22 elen25
  obtain⟨c27,ec27,h⟩:=atm h
  have f28:=ib_leq (k:=.i64) ec27
  simp[hh,mX0,hnn,hn1,hn2,neX,f26,f28,byteC,-intBin,-lenF]
  apply hk'
  refine Runs.ite (b:=c27) (by simp[hh,mX0,hnn,hn1,hn2,neX,byteC]) (fun dc27=>?_) (fun dc27=>?_)
  ·replace h:=h.1 dc27
   refine zE fun k' hk'=>?_
   simp[hh,mX0,hnn,hn1,hn2,neX,dc27,byteC]
   apply hk'
   exact Runs.ret1 (v:=int x7) Tryd.func45 Tryd.results45 (by simp[hh,mX0,hnn,hn1,hn2,neX,dc27,byteC]) (hQ _ _ _ (Cur.mk c.code v13 u22) _ (by simp[hh,mX0,hnn,hn1,hn2,neX,dc27,byteC]) (Sep.sub (Sep.addScalar _ sp) (by simp +contextual)) hid (by omega) ⟨x7,h,rfl⟩)
  replace h:=h.2 dc27
  refine Runs.skip ?_
  refine zE fun k' hk'=>?_
  obtain⟨u29,eu29,h⟩:=atm h
  have f30:=ibu_shr (by decide) eu29
  obtain⟨u31,eu31,h⟩:=atm h
  have f32:=ibu_and eu31
  obtain⟨hb33,h⟩:=h
  have f34:=cv_64 (k:=.u64) Ty_45 kd_3 hb33
  simp[hh,mX0,hnn,hn1,hn2,neX,f30,f32,f34,dc27,byteC,-convF,-intBin]
  apply hk'
  refine Runs.cut (fun ρ H n=>ρ 2=int u31∧H X=some ⟨3,[[.list false (c.code.map byteC),int v13,.v (.int .u64 u22)]]⟩∧n0≤n∧(∀ i ∈ ids0,H i=H0 i)∧Sep H n (K0) (X::ids0)) (by refine⟨?_,?_,(by omega),hid,sp⟩<;>simp[hh,mX0,hnn,hn1,hn2,neX,f30,f32,f34,dc27,byteC,-convF,-intBin]) ?_
  clear hh mX0
  rintro ρ H n35 ⟨hh,mX0,hnn,hid,sp⟩
  have hq_n35:=hnn
  have hn1:=Nat.le_succ_of_le hnn
  have hn2:=Nat.le_succ_of_le hn1
  exact Runs.ret1 (v:=int u31) Tryd.func45 Tryd.results45 (by simp[hh,mX0,hnn,hn1,hn2,neX,byteC]) (hQ _ _ _ (Cur.mk c.code v13 u22) _ (by simp[hh,mX0,hnn,hn1,hn2,neX,byteC]) (Sep.sub (Sep.addScalar _ sp) (by simp +contextual)) hid (by omega) ⟨u31,h,rfl⟩)
 replace h:=h.2 dc4
 refine Runs.skip ?_
 refine zE fun k' hk'=>?_
 obtain⟨hb36,h⟩:=h
 obtain⟨v37,ev37,h⟩:=atm h
 have f38:=ib_add hb36 ev37
 simp[hh,mX0,hnn,hn1,hn2,neX,f38,dc4,byteC,-intBin]
 apply hk'
 refine Runs.cut (fun ρ H n=>(ρ 0 = .ptr X 1 0 0∧ρ 3=int 0)∧H X=some ⟨3,[[.list false (c.code.map byteC),int v37,.v (.int .u64 c.seed)]]⟩∧n0≤n∧(∀ i ∈ ids0,H i=H0 i)∧Sep H n (K0) (X::ids0)) (by refine⟨?_,?_,(by omega),(by intro i hi;have hlt:=h00 i (by simp[hi]);have hxx:i ≠ X:=fun e=>hxi (e ▸ hi);repeat (first | exact hid i hi | rw[Heap.get_set_ne _ _ hxx] | rw[Heap.get_set_ne _ _ (by rintro rfl;simp at hlt;omega)])),(Sep.setVar (w:=X) sp (by simp))⟩<;>simp[hh,mX0,hnn,hn1,hn2,neX,f38,dc4,byteC,-intBin]) ?_
 clear hh mX0
 rintro ρ H n39 ⟨hh,mX0,hnn,hid,sp⟩
 have hq_n39:=hnn
 have hn1:=Nat.le_succ_of_le hnn
 have hn2:=Nat.le_succ_of_le hn1
 refine zE fun k' hk'=>?_
 obtain⟨u40,eu40,h⟩:=atm h
 have f41:=ibu_mul eu40
 obtain⟨u42,eu42,h⟩:=atm h
 have f43:=cv_u64 (k:=.i64) Ty_3 kd_45 eu42
 obtain⟨u44,eu44,h⟩:=atm h
 have f45:=ibu_add eu44
 obtain⟨u46,eu46,h⟩:=atm h
 have f47:=ibu_add eu46
 simp[hh,mX0,hnn,hn1,hn2,neX,f41,f43,f45,f47,byteC,-convF,-intBin]
 apply hk'
 refine Runs.cut (fun ρ H n=>(ρ 0 = .ptr X 1 0 0∧ρ 3=int 0)∧H X=some ⟨3,[[.list false (c.code.map byteC),int v37,.v (.int .u64 u46)]]⟩∧n0≤n∧(∀ i ∈ ids0,H i=H0 i)∧Sep H n (K0) (X::ids0)) (by refine⟨?_,?_,(by omega),(by intro i hi;have hlt:=h00 i (by simp[hi]);have hxx:i ≠ X:=fun e=>hxi (e ▸ hi);repeat (first | exact hid i hi | rw[Heap.get_set_ne _ _ hxx] | rw[Heap.get_set_ne _ _ (by rintro rfl;simp at hlt;omega)])),(Sep.setVar (w:=X) sp (by simp))⟩<;>simp[hh,mX0,hnn,hn1,hn2,neX,f41,f43,f45,f47,byteC,-convF,-intBin]) ?_
 clear hh mX0
 rintro ρ H n48 ⟨hh,mX0,hnn,hid,sp⟩
 have hq_n48:=hnn
 have hn1:=Nat.le_succ_of_le hnn
 have hn2:=Nat.le_succ_of_le hn1
 refine Runs.seq ?_
 refine Runs.seqD Ty_ok kindOp_ok draws (by decide) (by kernel_rfl) fun k' hk'=>?_
 obtain⟨len49,elen49,h⟩:=atm h
 have f50:=fun H=>len_list (H:=H) (fr:=false) (f:=byteC) kd_22 elen49
 obtain⟨c51,ec51,h⟩:=atm h
 have f52:=ib_leq (k:=.i64) ec51
 simp[hh,mX0,hnn,hn1,hn2,neX,f50,f52,byteC,-intBin,-lenF]
 apply hk'
 refine Runs.ite (b:=c51) (by simp[hh,mX0,hnn,hn1,hn2,neX,byteC]) (fun dc51=>?_) (fun dc51=>?_)
 ·replace h:=h.1 dc51
  refine zE fun k' hk'=>?_
  simp[hh,mX0,hnn,hn1,hn2,neX,dc51,byteC]
  apply hk'
  exact Runs.ret1 (v:=int 0) Tryd.func45 Tryd.results45 (by simp[hh,mX0,hnn,hn1,hn2,neX,dc51,byteC]) (hQ _ _ _ (Cur.mk c.code v37 u46) _ (by simp[hh,mX0,hnn,hn1,hn2,neX,dc51,byteC]) (Sep.sub (Sep.addScalar _ sp) (by simp +contextual)) hid (by omega) ⟨0,h,rfl⟩)
 replace h:=h.2 dc51
 refine Runs.skip ?_
 refine zE fun k' hk'=>?_
 obtain⟨u53,eu53,h⟩:=atm h
 have f54:=ibu_shr (by decide) eu53
 obtain⟨u55,eu55,h⟩:=atm h
 have f56:=ibu_and eu55
 obtain⟨hb57,h⟩:=h
 have f58:=cv_64 (k:=.u64) Ty_45 kd_3 hb57
 simp[hh,mX0,hnn,hn1,hn2,neX,f54,f56,f58,dc51,byteC,-convF,-intBin]
 apply hk'
 refine Runs.cut (fun ρ H n=>ρ 2=int u55∧H X=some ⟨3,[[.list false (c.code.map byteC),int v37,.v (.int .u64 u46)]]⟩∧n0≤n∧(∀ i ∈ ids0,H i=H0 i)∧Sep H n (K0) (X::ids0)) (by refine⟨?_,?_,(by omega),hid,sp⟩<;>simp[hh,mX0,hnn,hn1,hn2,neX,f54,f56,f58,dc51,byteC,-convF,-intBin]) ?_
 clear hh mX0
 rintro ρ H n59 ⟨hh,mX0,hnn,hid,sp⟩
 have hq_n59:=hnn
 have hn1:=Nat.le_succ_of_le hnn
 have hn2:=Nat.le_succ_of_le hn1
 exact Runs.ret1 (v:=int u55) Tryd.func45 Tryd.results45 (by simp[hh,mX0,hnn,hn1,hn2,neX,byteC]) (hQ _ _ _ (Cur.mk c.code v37 u46) _ (by simp[hh,mX0,hnn,hn1,hn2,neX,byteC]) (Sep.sub (Sep.addScalar _ sp) (by simp +contextual)) hid (by omega) ⟨u55,h,rfl⟩)
theorem nextZ_ok (c:Cur) (hp:nextZ_pre c)  : DrawS Tryd.prog 45 (fun p=>[p]) 3 (fun s=>[.list false (s.code.map byteC),int s.pos,.v (.int .u64 s.seed)]) c [] (.c) (fun s' r=>s'=(nextZ c).1∧r=int ((nextZ c).2)):=(nextZ_walk c _ (nextZ_vc c hp)).mono (by rintro _ _ ⟨y,hz,rfl⟩;rw[← hz];exact⟨rfl,rfl⟩)
theorem e17:Ent Tryd.prog 17:=Ent.of Tryd.func17 (by kernel_rfl) rfl
theorem pickZ_walk (c:Cur) (n_:Int) (Z:(Cur × Int)→Prop) (h:pickZ_wp c n_ Z):DrawS Tryd.prog 17 (fun p=>[p,int n_]) 3 (fun s=>[.list false (s.code.map byteC),int s.pos,.v (.int .u64 s.seed)]) c [] (.c) (fun s' r=>∃ y:Int,Z (s',y)∧r=int y):=by
 unfold pickZ_wp at h
 refine DrawS.of Tryd.func17 rfl Tryd.ntmps17 (fun _=>by simp) fun X H0 n0 K0 ids0 hX hxi sp Q hQ=>?_
 have h00:=sp.1
 have lX:X.1<n0:=h00 X (by simp)
 have neX:∀ m d,n0≤m→(X=(m,d))=False:=fun m d hm=>by simp only[eq_iff_iff,iff_false];rintro rfl;simp at lX;omega
 have hid:∀ i ∈ ids0,H0 i=H0 i:=fun _ _=>rfl
 have hnn:n0≤n0:=Nat.le_refl _
 have hn1:=Nat.le_succ_of_le hnn
 have hn2:=Nat.le_succ_of_le hn1
 replace sp:Sep H0 n0 (K0) (X::ids0):=sp
 refine Runs.cut (fun ρ H n=>(ρ 0 = .ptr X 1 0 0∧ρ 1=int n_)∧H X=some ⟨3,[[.list false (c.code.map byteC),int c.pos,.v (.int .u64 c.seed)]]⟩∧n0≤n∧(∀ i ∈ ids0,H i=H0 i)∧Sep H n (K0) (X::ids0)) (by refine⟨?_,?_,(by omega),hid,sp⟩<;>simp[hX,hnn,hn1,hn2,neX,byteC]) ?_
 rintro ρ H n1 ⟨hh,mX0,hnn,hid,sp⟩
 have hq_n1:=hnn
 have hn1:=Nat.le_succ_of_le hnn
 have hn2:=Nat.le_succ_of_le hn1
 refine zE fun k' hk'=>?_
 simp[hh,mX0,hnn,hn1,hn2,neX,byteC]
 apply hk'
 refine Runs.seq ?_
 refine zE fun k' hk'=>?_
 obtain⟨c2,ec2,h⟩:=atm h
 have f3:=ib_leq (k:=.i64) ec2
 simp[hh,mX0,hnn,hn1,hn2,neX,f3,byteC,-intBin]
 apply hk'
 refine Runs.ite (b:=c2) (by simp[hh,mX0,hnn,hn1,hn2,neX,byteC]) (fun dc2=>?_) (fun dc2=>?_)
 ·replace h:=h.1 dc2
  refine zE fun k' hk'=>?_
  simp[hh,mX0,hnn,hn1,hn2,neX,dc2,byteC]
  apply hk'
  exact Runs.ret1 (v:=int 0) Tryd.func17 Tryd.results17 (by simp[hh,mX0,hnn,hn1,hn2,neX,dc2,byteC]) (hQ _ _ _ c _ (by simp[hh,mX0,hnn,hn1,hn2,neX,dc2,byteC]) (Sep.sub (Sep.addScalar _ sp) (by simp +contextual)) hid (by omega) ⟨0,h,rfl⟩)
 replace h:=h.2 dc2
 refine Runs.skip ?_
 refine zE fun k' hk'=>?_
 obtain⟨hb4,h⟩:=h
 obtain⟨r5,er5,h⟩:=atm h
 simp[hh,mX0,hnn,hn1,hn2,neX,dc2,byteC]
 refine RunK.callDr (xsA:=[.ptr X 1 0 0]) (X:=X) (A:=[]) (B:=(ids0)) (M:=[]) (K0:=(K0)) Ty_ok (nextZ_ok c hb4) (.cons (Sub.refl _) .nil) e45 (by simp[hh,mX0,hnn,hn1,hn2,neX,dc2,byteC]) (by simp[hh,mX0,hnn,hn1,hn2,neX,hxi,byteC]) sp (by decide) (by decide) rfl (by simp[hh,mX0,hnn,hn1,hn2,neX,dc2,byteC]) ?_
 rintro v6 H7 n8 _ _ ⟨rfl,rfl⟩ hmx sp hle10 hfr9
 rw[← er5] at hmx sp
 have mX0:H7 X=some ⟨3,[[.list false (r5.1.code.map byteC),int r5.1.pos,.v (.int .u64 r5.1.seed)]]⟩:=hmx
 have hid:∀ i ∈ ids0,H7 i=H0 i:=fun i hi=>(hfr9 i (by simp[hi])).trans (hid i hi)
 have hnn:n0≤n8:=by omega
 have hq_n8:=hnn
 replace sp:=Sep.scalar sp
 obtain⟨hv,sp⟩:=sp
 subst hv
 replace sp:Sep H7 n8 (K0) (X::ids0):=sp
 simp[hh,mX0,hnn,hn1,hn2,neX,dc2,byteC]
 apply hk'
 refine Runs.cut (fun ρ H n=>(ρ 0 = .ptr X 1 0 0∧ρ 1=int n_∧ρ 5=int r5.2)∧H X=some ⟨3,[[.list false (r5.1.code.map byteC),int r5.1.pos,.v (.int .u64 r5.1.seed)]]⟩∧n0≤n∧(∀ i ∈ ids0,H i=H0 i)∧Sep H n (K0) (X::ids0)) (by refine⟨?_,?_,(by omega),hid,sp⟩<;>simp[hh,mX0,hnn,hn1,hn2,neX,dc2,byteC]) ?_
 clear hh mX0
 rintro ρ H n12 ⟨hh,mX0,hnn,hid,sp⟩
 have hq_n12:=hnn
 have hn1:=Nat.le_succ_of_le hnn
 have hn2:=Nat.le_succ_of_le hn1
 refine Runs.seq ?_
 refine zE fun k' hk'=>?_
 obtain⟨c13,ec13,h⟩:=atm h
 have f14:=ib_gtr (k:=.i64) ec13
 simp[hh,mX0,hnn,hn1,hn2,neX,f14,byteC,-intBin]
 apply hk'
 refine Runs.ite (b:=c13) (by simp[hh,mX0,hnn,hn1,hn2,neX,byteC]) (fun dc13=>?_) (fun dc13=>?_)
 ·replace h:=h.1 dc13
  refine zF fun k' hk'=>?_
  obtain⟨hb15,h⟩:=h
  obtain⟨v16,ev16,h⟩:=atm h
  have f17:=ib_mul hb15 ev16
  obtain⟨hb18,h⟩:=h
  obtain⟨r19,er19,h⟩:=atm h
  simp[hh,mX0,hnn,hn1,hn2,neX,f17,dc13,byteC,-intBin]
  refine RunK.callDr (xsA:=[.ptr X 1 0 0]) (X:=X) (A:=[]) (B:=(ids0)) (M:=[]) (K0:=(K0)) Ty_ok (nextZ_ok r5.1 hb18) (.cons (Sub.refl _) .nil) e45 (by simp[hh,mX0,hnn,hn1,hn2,neX,f17,dc13,byteC,-intBin]) (by simp[hh,mX0,hnn,hn1,hn2,neX,f17,hxi,byteC,-intBin]) sp (by decide) (by decide) rfl (by simp[hh,mX0,hnn,hn1,hn2,neX,f17,dc13,byteC,-intBin]) ?_
  rintro v20 H21 n22 _ _ ⟨rfl,rfl⟩ hmx sp hle24 hfr23
  rw[← er19] at hmx sp
  have mX0:H21 X=some ⟨3,[[.list false (r19.1.code.map byteC),int r19.1.pos,.v (.int .u64 r19.1.seed)]]⟩:=hmx
  have hid:∀ i ∈ ids0,H21 i=H0 i:=fun i hi=>(hfr23 i (by simp[hi])).trans (hid i hi)
  have hnn:n0≤n22:=by omega
  have hq_n22:=hnn
  replace sp:=Sep.scalar sp
  obtain⟨hv,sp⟩:=sp
  subst hv
  replace sp:Sep H21 n22 (K0) (X::ids0):=sp
  obtain⟨hb26,h⟩:=h
  obtain⟨v27,ev27,h⟩:=atm h
  have f28:=ib_add hb26 ev27
  simp[hh,mX0,hnn,hn1,hn2,neX,f17,f28,dc13,byteC,-intBin]
  apply hk'
  refine Runs.cut (fun ρ H n=>(ρ 1=int n_∧ρ 5=int v27)∧H X=some ⟨3,[[.list false (r19.1.code.map byteC),int r19.1.pos,.v (.int .u64 r19.1.seed)]]⟩∧n0≤n∧(∀ i ∈ ids0,H i=H0 i)∧Sep H n (K0) (X::ids0)) (by refine⟨?_,?_,(by omega),hid,sp⟩<;>simp[hh,mX0,hnn,hn1,hn2,neX,f17,f28,dc13,byteC,-intBin]) ?_
  clear hh mX0
  rintro ρ H n29 ⟨hh,mX0,hnn,hid,sp⟩
  have hq_n29:=hnn
  have hn1:=Nat.le_succ_of_le hnn
  have hn2:=Nat.le_succ_of_le hn1
  refine zE fun k' hk'=>?_
  obtain⟨hb30,h⟩:=h
  obtain⟨v31,ev31,h⟩:=atm h
  have f32:=ib_rem hb30  ev31
  simp[hh,mX0,hnn,hn1,hn2,neX,f32,byteC,-intBin]
  apply hk'
  exact Runs.ret1 (v:=int v31) Tryd.func17 Tryd.results17 (by simp[hh,mX0,hnn,hn1,hn2,neX,byteC]) (hQ _ _ _ r19.1 _ (by simp[hh,mX0,hnn,hn1,hn2,neX,byteC]) (Sep.sub (Sep.addScalar _ sp) (by simp +contextual)) hid (by omega) ⟨v31,h,rfl⟩)
 replace h:=h.2 dc13
 refine Runs.skip ?_
 refine zE fun k' hk'=>?_
 obtain⟨hb33,h⟩:=h
 obtain⟨v34,ev34,h⟩:=atm h
 have f35:=ib_rem hb33  ev34
 simp[hh,mX0,hnn,hn1,hn2,neX,f35,dc13,byteC,-intBin]
 apply hk'
 exact Runs.ret1 (v:=int v34) Tryd.func17 Tryd.results17 (by simp[hh,mX0,hnn,hn1,hn2,neX,dc13,byteC]) (hQ _ _ _ r5.1 _ (by simp[hh,mX0,hnn,hn1,hn2,neX,dc13,byteC]) (Sep.sub (Sep.addScalar _ sp) (by simp +contextual)) hid (by omega) ⟨v34,h,rfl⟩)
theorem pickZ_ok (c:Cur) (n_:Int) (hp:pickZ_pre c n_)  : DrawS Tryd.prog 17 (fun p=>[p,int n_]) 3 (fun s=>[.list false (s.code.map byteC),int s.pos,.v (.int .u64 s.seed)]) c [] (.c) (fun s' r=>s'=(pickZ c n_).1∧r=int ((pickZ c n_).2)):=(pickZ_walk c n_ _ (pickZ_vc c n_ hp)).mono (by rintro _ _ ⟨y,hz,rfl⟩;rw[← hz];exact⟨rfl,rfl⟩)
theorem e18:Ent Tryd.prog 18:=Ent.of Tryd.func18 (by kernel_rfl) rfl
theorem oneZ_walk (c:Cur) (n_:Int) (Z:(Cur × Bool)→Prop) (h:oneZ_wp c n_ Z):DrawS Tryd.prog 18 (fun p=>[p,int n_]) 3 (fun s=>[.list false (s.code.map byteC),int s.pos,.v (.int .u64 s.seed)]) c [] (.c) (fun s' r=>∃ y:Bool,Z (s',y)∧r=bool y):=by
 unfold oneZ_wp at h
 refine DrawS.of Tryd.func18 rfl Tryd.ntmps18 (fun _=>by simp) fun X H0 n0 K0 ids0 hX hxi sp Q hQ=>?_
 have h00:=sp.1
 have lX:X.1<n0:=h00 X (by simp)
 have neX:∀ m d,n0≤m→(X=(m,d))=False:=fun m d hm=>by simp only[eq_iff_iff,iff_false];rintro rfl;simp at lX;omega
 have hid:∀ i ∈ ids0,H0 i=H0 i:=fun _ _=>rfl
 have hnn:n0≤n0:=Nat.le_refl _
 have hn1:=Nat.le_succ_of_le hnn
 have hn2:=Nat.le_succ_of_le hn1
 replace sp:Sep H0 n0 (K0) (X::ids0):=sp
 refine Runs.cut (fun ρ H n=>(ρ 0 = .ptr X 1 0 0∧ρ 1=int n_)∧H X=some ⟨3,[[.list false (c.code.map byteC),int c.pos,.v (.int .u64 c.seed)]]⟩∧n0≤n∧(∀ i ∈ ids0,H i=H0 i)∧Sep H n (K0) (X::ids0)) (by refine⟨?_,?_,(by omega),hid,sp⟩<;>simp[hX,hnn,hn1,hn2,neX,byteC]) ?_
 rintro ρ H n1 ⟨hh,mX0,hnn,hid,sp⟩
 have hq_n1:=hnn
 have hn1:=Nat.le_succ_of_le hnn
 have hn2:=Nat.le_succ_of_le hn1
 refine zE fun k' hk'=>?_
 simp[hh,mX0,hnn,hn1,hn2,neX,byteC]
 apply hk'
 refine zE fun k' hk'=>?_
 obtain⟨hb2,h⟩:=h
 obtain⟨r3,er3,h⟩:=atm h
 simp[hh,mX0,hnn,hn1,hn2,neX,byteC]
 refine RunK.callDr (xsA:=[.ptr X 1 0 0,int n_]) (X:=X) (A:=[]) (B:=(ids0)) (M:=[]) (K0:=(K0)) Ty_ok (pickZ_ok c n_ hb2) (.cons (Sub.refl _) (.cons (Sub.refl _) .nil)) e17 (by simp[hh,mX0,hnn,hn1,hn2,neX,byteC]) (by simp[hh,mX0,hnn,hn1,hn2,neX,hxi,byteC]) sp (by decide) (by decide) rfl (by simp[hh,mX0,hnn,hn1,hn2,neX,byteC]) ?_
 rintro v4 H5 n6 _ _ ⟨rfl,rfl⟩ hmx sp hle8 hfr7
 rw[← er3] at hmx sp
 have mX0:H5 X=some ⟨3,[[.list false (r3.1.code.map byteC),int r3.1.pos,.v (.int .u64 r3.1.seed)]]⟩:=hmx
 have hid:∀ i ∈ ids0,H5 i=H0 i:=fun i hi=>(hfr7 i (by simp[hi])).trans (hid i hi)
 have hnn:n0≤n6:=by omega
 have hq_n6:=hnn
 replace sp:=Sep.scalar sp
 obtain⟨hv,sp⟩:=sp
 subst hv
 replace sp:Sep H5 n6 (K0) (X::ids0):=sp
 obtain⟨c10,ec10,h⟩:=atm h
 have f11:=ib_eql (k:=.i64) ec10
 simp[hh,mX0,hnn,hn1,hn2,neX,f11,byteC,-intBin]
 apply hk'
 refine Runs.cut (fun ρ H n=>ρ 4=bool c10∧H X=some ⟨3,[[.list false (r3.1.code.map byteC),int r3.1.pos,.v (.int .u64 r3.1.seed)]]⟩∧n0≤n∧(∀ i ∈ ids0,H i=H0 i)∧Sep H n (K0) (X::ids0)) (by refine⟨?_,?_,(by omega),hid,sp⟩<;>simp[hh,mX0,hnn,hn1,hn2,neX,f11,byteC,-intBin]) ?_
 clear hh mX0
 rintro ρ H n12 ⟨hh,mX0,hnn,hid,sp⟩
 have hq_n12:=hnn
 have hn1:=Nat.le_succ_of_le hnn
 have hn2:=Nat.le_succ_of_le hn1
 exact Runs.ret1 (v:=bool c10) Tryd.func18 Tryd.results18 (by simp[hh,mX0,hnn,hn1,hn2,neX,byteC]) (hQ _ _ _ r3.1 _ (by simp[hh,mX0,hnn,hn1,hn2,neX,byteC]) (Sep.sub (Sep.addScalar _ sp) (by simp +contextual)) hid (by omega) ⟨c10,h,rfl⟩)
theorem oneZ_ok (c:Cur) (n_:Int) (hp:oneZ_pre c n_)  : DrawS Tryd.prog 18 (fun p=>[p,int n_]) 3 (fun s=>[.list false (s.code.map byteC),int s.pos,.v (.int .u64 s.seed)]) c [] (.c) (fun s' r=>s'=(oneZ c n_).1∧r=bool ((oneZ c n_).2)):=(oneZ_walk c n_ _ (oneZ_vc c n_ hp)).mono (by rintro _ _ ⟨y,hz,rfl⟩;rw[← hz];exact⟨rfl,rfl⟩)
theorem e41:Ent Tryd.prog 41:=Ent.of Tryd.func41 (by kernel_rfl) rfl
theorem ofZ_walk (c:Cur) (list:List Str) (Z:(Cur × Str)→Prop) (h:ofZ_wp c list Z):DrawS Tryd.prog 41 (fun p=>[p,.list false (list.map strC)]) 3 (fun s=>[.list false (s.code.map byteC),int s.pos,.v (.int .u64 s.seed)]) c [] (.c) (fun s' r=>∃ y:Str,Z (s',y)∧r=str y):=by
 unfold ofZ_wp at h
 refine DrawS.of Tryd.func41 rfl Tryd.ntmps41 (fun _=>by simp) fun X H0 n0 K0 ids0 hX hxi sp Q hQ=>?_
 have h00:=sp.1
 have lX:X.1<n0:=h00 X (by simp)
 have neX:∀ m d,n0≤m→(X=(m,d))=False:=fun m d hm=>by simp only[eq_iff_iff,iff_false];rintro rfl;simp at lX;omega
 have hid:∀ i ∈ ids0,H0 i=H0 i:=fun _ _=>rfl
 have hnn:n0≤n0:=Nat.le_refl _
 have hn1:=Nat.le_succ_of_le hnn
 have hn2:=Nat.le_succ_of_le hn1
 replace sp:Sep H0 n0 (K0) (X::ids0):=sp
 refine Runs.cut (fun ρ H n=>(ρ 0 = .ptr X 1 0 0∧ρ 1 = .list false (list.map strC))∧H X=some ⟨3,[[.list false (c.code.map byteC),int c.pos,.v (.int .u64 c.seed)]]⟩∧n0≤n∧(∀ i ∈ ids0,H i=H0 i)∧Sep H n (K0) (X::ids0)) (by refine⟨?_,?_,(by omega),hid,sp⟩<;>simp[hX,hnn,hn1,hn2,neX,byteC]) ?_
 rintro ρ H n1 ⟨hh,mX0,hnn,hid,sp⟩
 have hq_n1:=hnn
 have hn1:=Nat.le_succ_of_le hnn
 have hn2:=Nat.le_succ_of_le hn1
 refine zE fun k' hk'=>?_
 simp[hh,mX0,hnn,hn1,hn2,neX,byteC]
 apply hk'
 refine zE fun k' hk'=>?_
 obtain⟨len2,elen2,h⟩:=atm h
 have f3:=fun H=>len_list (H:=H) (fr:=false) (f:=strC) kd_27 elen2
 obtain⟨hb4,h⟩:=h
 obtain⟨r5,er5,h⟩:=atm h
 simp[hh,mX0,hnn,hn1,hn2,neX,f3,byteC,-lenF]
 refine RunK.callDr (xsA:=[.ptr X 1 0 0,int len2]) (X:=X) (A:=[]) (B:=(ids0)) (M:=[]) (K0:=(K0)) Ty_ok (pickZ_ok c len2 hb4) (.cons (Sub.refl _) (.cons (Sub.refl _) .nil)) e17 (by simp[hh,mX0,hnn,hn1,hn2,neX,f3,byteC,-lenF]) (by simp[hh,mX0,hnn,hn1,hn2,neX,f3,hxi,byteC,-lenF]) sp (by decide) (by decide) rfl (by simp[hh,mX0,hnn,hn1,hn2,neX,f3,byteC,-lenF]) ?_
 rintro v6 H7 n8 _ _ ⟨rfl,rfl⟩ hmx sp hle10 hfr9
 rw[← er5] at hmx sp
 have mX0:H7 X=some ⟨3,[[.list false (r5.1.code.map byteC),int r5.1.pos,.v (.int .u64 r5.1.seed)]]⟩:=hmx
 have hid:∀ i ∈ ids0,H7 i=H0 i:=fun i hi=>(hfr9 i (by simp[hi])).trans (hid i hi)
 have hnn:n0≤n8:=by omega
 have hq_n8:=hnn
 replace sp:=Sep.scalar sp
 obtain⟨hv,sp⟩:=sp
 subst hv
 replace sp:Sep H7 n8 (K0) (X::ids0):=sp
 obtain⟨hb12,h⟩:=h
 obtain⟨x13,ex13,h⟩:=atm h
 have f14:=fun H=>ix_list (H:=H) (fr:=false) (f:=strC) (k:=.i64) kd_27 (fun _=>rfl) hb12 ex13
 simp[hh,mX0,hnn,hn1,hn2,neX,f3,f14,byteC,-indexAddrF,-lenF]
 apply hk'
 refine Runs.cut (fun ρ H n=>ρ 4=str x13∧H X=some ⟨3,[[.list false (r5.1.code.map byteC),int r5.1.pos,.v (.int .u64 r5.1.seed)]]⟩∧n0≤n∧(∀ i ∈ ids0,H i=H0 i)∧Sep H n (K0) (X::ids0)) (by refine⟨?_,?_,(by omega),hid,sp⟩<;>simp[hh,mX0,hnn,hn1,hn2,neX,f3,f14,byteC,-indexAddrF,-lenF]) ?_
 clear hh mX0
 rintro ρ H n15 ⟨hh,mX0,hnn,hid,sp⟩
 have hq_n15:=hnn
 have hn1:=Nat.le_succ_of_le hnn
 have hn2:=Nat.le_succ_of_le hn1
 exact Runs.ret1 (v:=str x13) Tryd.func41 Tryd.results41 (by simp[hh,mX0,hnn,hn1,hn2,neX,byteC]) (hQ _ _ _ r5.1 _ (by simp[hh,mX0,hnn,hn1,hn2,neX,byteC]) (Sep.sub (Sep.addScalar _ sp) (by simp +contextual)) hid (by omega) ⟨x13,h,rfl⟩)
theorem ofZ_ok (c:Cur) (list:List Str) (hp:ofZ_pre c list)  : DrawS Tryd.prog 41 (fun p=>[p,.list false (list.map strC)]) 3 (fun s=>[.list false (s.code.map byteC),int s.pos,.v (.int .u64 s.seed)]) c [] (.c) (fun s' r=>s'=(ofZ c list).1∧r=str ((ofZ c list).2)):=(ofZ_walk c list _ (ofZ_vc c list hp)).mono (by rintro _ _ ⟨y,hz,rfl⟩;rw[← hz];exact⟨rfl,rfl⟩)
theorem e42:Ent Tryd.prog 42:=Ent.of Tryd.func42 (by kernel_rfl) rfl
theorem amongZ_walk (c:Cur) (list:List Int) (Z:(Cur × Int)→Prop) (h:amongZ_wp c list Z):DrawS Tryd.prog 42 (fun p=>[p,.list false (list.map intC)]) 3 (fun s=>[.list false (s.code.map byteC),int s.pos,.v (.int .u64 s.seed)]) c [] (.c) (fun s' r=>∃ y:Int,Z (s',y)∧r=int y):=by
 unfold amongZ_wp at h
 refine DrawS.of Tryd.func42 rfl Tryd.ntmps42 (fun _=>by simp) fun X H0 n0 K0 ids0 hX hxi sp Q hQ=>?_
 have h00:=sp.1
 have lX:X.1<n0:=h00 X (by simp)
 have neX:∀ m d,n0≤m→(X=(m,d))=False:=fun m d hm=>by simp only[eq_iff_iff,iff_false];rintro rfl;simp at lX;omega
 have hid:∀ i ∈ ids0,H0 i=H0 i:=fun _ _=>rfl
 have hnn:n0≤n0:=Nat.le_refl _
 have hn1:=Nat.le_succ_of_le hnn
 have hn2:=Nat.le_succ_of_le hn1
 replace sp:Sep H0 n0 (K0) (X::ids0):=sp
 refine Runs.cut (fun ρ H n=>(ρ 0 = .ptr X 1 0 0∧ρ 1 = .list false (list.map intC))∧H X=some ⟨3,[[.list false (c.code.map byteC),int c.pos,.v (.int .u64 c.seed)]]⟩∧n0≤n∧(∀ i ∈ ids0,H i=H0 i)∧Sep H n (K0) (X::ids0)) (by refine⟨?_,?_,(by omega),hid,sp⟩<;>simp[hX,hnn,hn1,hn2,neX,byteC]) ?_
 rintro ρ H n1 ⟨hh,mX0,hnn,hid,sp⟩
 have hq_n1:=hnn
 have hn1:=Nat.le_succ_of_le hnn
 have hn2:=Nat.le_succ_of_le hn1
 refine zE fun k' hk'=>?_
 simp[hh,mX0,hnn,hn1,hn2,neX,byteC]
 apply hk'
 refine zE fun k' hk'=>?_
 obtain⟨len2,elen2,h⟩:=atm h
 have f3:=fun H=>len_list (H:=H) (fr:=false) (f:=intC) kd_26 elen2
 obtain⟨hb4,h⟩:=h
 obtain⟨r5,er5,h⟩:=atm h
 simp[hh,mX0,hnn,hn1,hn2,neX,f3,byteC,-lenF]
 refine RunK.callDr (xsA:=[.ptr X 1 0 0,int len2]) (X:=X) (A:=[]) (B:=(ids0)) (M:=[]) (K0:=(K0)) Ty_ok (pickZ_ok c len2 hb4) (.cons (Sub.refl _) (.cons (Sub.refl _) .nil)) e17 (by simp[hh,mX0,hnn,hn1,hn2,neX,f3,byteC,-lenF]) (by simp[hh,mX0,hnn,hn1,hn2,neX,f3,hxi,byteC,-lenF]) sp (by decide) (by decide) rfl (by simp[hh,mX0,hnn,hn1,hn2,neX,f3,byteC,-lenF]) ?_
 rintro v6 H7 n8 _ _ ⟨rfl,rfl⟩ hmx sp hle10 hfr9
 rw[← er5] at hmx sp
 have mX0:H7 X=some ⟨3,[[.list false (r5.1.code.map byteC),int r5.1.pos,.v (.int .u64 r5.1.seed)]]⟩:=hmx
 have hid:∀ i ∈ ids0,H7 i=H0 i:=fun i hi=>(hfr9 i (by simp[hi])).trans (hid i hi)
 have hnn:n0≤n8:=by omega
 have hq_n8:=hnn
 replace sp:=Sep.scalar sp
 obtain⟨hv,sp⟩:=sp
 subst hv
 replace sp:Sep H7 n8 (K0) (X::ids0):=sp
 obtain⟨hb12,h⟩:=h
 obtain⟨x13,ex13,h⟩:=atm h
 have f14:=fun H=>ix_list (H:=H) (fr:=false) (f:=intC) (k:=.i64) kd_26 (fun _=>rfl) hb12 ex13
 simp[hh,mX0,hnn,hn1,hn2,neX,f3,f14,byteC,-indexAddrF,-lenF]
 apply hk'
 refine Runs.cut (fun ρ H n=>ρ 4=int x13∧H X=some ⟨3,[[.list false (r5.1.code.map byteC),int r5.1.pos,.v (.int .u64 r5.1.seed)]]⟩∧n0≤n∧(∀ i ∈ ids0,H i=H0 i)∧Sep H n (K0) (X::ids0)) (by refine⟨?_,?_,(by omega),hid,sp⟩<;>simp[hh,mX0,hnn,hn1,hn2,neX,f3,f14,byteC,-indexAddrF,-lenF]) ?_
 clear hh mX0
 rintro ρ H n15 ⟨hh,mX0,hnn,hid,sp⟩
 have hq_n15:=hnn
 have hn1:=Nat.le_succ_of_le hnn
 have hn2:=Nat.le_succ_of_le hn1
 exact Runs.ret1 (v:=int x13) Tryd.func42 Tryd.results42 (by simp[hh,mX0,hnn,hn1,hn2,neX,byteC]) (hQ _ _ _ r5.1 _ (by simp[hh,mX0,hnn,hn1,hn2,neX,byteC]) (Sep.sub (Sep.addScalar _ sp) (by simp +contextual)) hid (by omega) ⟨x13,h,rfl⟩)
theorem amongZ_ok (c:Cur) (list:List Int) (hp:amongZ_pre c list)  : DrawS Tryd.prog 42 (fun p=>[p,.list false (list.map intC)]) 3 (fun s=>[.list false (s.code.map byteC),int s.pos,.v (.int .u64 s.seed)]) c [] (.c) (fun s' r=>s'=(amongZ c list).1∧r=int ((amongZ c list).2)):=(amongZ_walk c list _ (amongZ_vc c list hp)).mono (by rintro _ _ ⟨y,hz,rfl⟩;rw[← hz];exact⟨rfl,rfl⟩)
end Go.Ab.Vg
/- The abstract machine, part Du: a region that draws the order of its first operations only; the others stand in one line behind all of them. -/
namespace Go.Ab
set_option linter.unusedSectionVars false
def preL (n i:Nat):Array Bool:=(List.replicate i true++List.replicate (n - i) false).toArray
def lineB (ops:Array Oper) (i0:Nat):Bool:=((List.range ops.size).all fun j=>decide (j<i0) || (Region.ready .any ops (preL ops.size j) == [j] && (preL ops.size j).setIfInBounds j true == preL ops.size (j+1))) && (Region.ready .any ops (preL ops.size ops.size)).isEmpty
def splitB (ops:Array Oper) (i0:Nat):Bool:=decide (i0≤ops.size) && ((List.range ops.size).all fun j=>match ops[j]? with
  | none=>true
  | some o=>o.after.all fun e => !(Region.binds .any e) || decide (e.on<j)) &&
 ((List.range i0).all fun x=>((List.range ops.size).all fun j=>decide (j<i0) || (behind ops x).contains j) && (behind ops x).all fun j=>match ops[j]? with
  | none=>true
  | some oj=>j == x || oj.after.any (fun e=>Region.binds .any e && (behind ops x).contains e.on)) && lineB ops i0
section
variable {P:Program} {N:Nat} {ops:Array Oper} {Q:Exit→Act→World→Prop}
theorem wpAny_more:∀ (fuel:Nat) (listed:Array Bool) (a:Act) (w:World),wpAny P .any ops Q fuel listed a w→wpAny P .any ops Q (fuel+1) listed a w
 | 0,_,_,_,⟨h1,h2⟩=>⟨fun _=>h2,fun i hi=>by rw[h1] at hi;cases hi⟩
 | fuel+1,_,_,_,⟨h1,h2⟩=>⟨h1,fun i hi=>wpOp_mono (fun a w h=>wpAny_more fuel _ a w h) (h2 i hi)⟩
theorem wpAny_mores (fuel:Nat) (listed:Array Bool) (a:Act) (w:World) (h:wpAny P .any ops Q fuel listed a w):∀ k,wpAny P .any ops Q (k+fuel) listed a w
 | 0=>by simpa using h
 | k+1=>by rw[Nat.add_right_comm];exact wpAny_more _ _ _ _ (wpAny_mores fuel listed a w h k)
theorem any_line:∀ (B:List Oper) (i:Nat),ops.toList.drop i=B→i+B.length=ops.size→(∀ j,i≤j→j<ops.size→Region.ready .any ops (preL ops.size j)=[j]∧(preL ops.size j).setIfInBounds j true=preL ops.size (j+1))→Region.ready .any ops (preL ops.size ops.size)=[] →
  ∀ a w,wpList P ops Q B a w→wpAny P .any ops Q B.length (preL ops.size i) a w
 | [],i,_,hl,_,hr,a,w,h=>by
  simp only[List.length_nil,Nat.add_zero] at hl
  subst hl
  exact⟨hr,h⟩
 | o::B,i,hd,hl,hL,hr,a,w,h=>by
  simp only[List.length_cons] at hl
  obtain⟨h1,h2⟩:=hL i (Nat.le_refl _) (by omega)
  have ho:ops[i]?=some o:=by
   rw[← Array.getElem?_toList]
   have:=List.getElem?_drop (xs:=ops.toList) (i:=i) (j:=0)
   rw[hd] at this
   simpa using this.symm
  have hd':ops.toList.drop (i+1)=B:=by rw[← List.drop_drop,hd];rfl
  refine⟨fun h0=>(by rw[h1] at h0;cases h0),fun j hj=>?_⟩
  rw[h1] at hj
  simp only[List.mem_singleton] at hj
  subst hj
  rw[h2]
  unfold wpOp
  simp only[ho]
  unfold wpList at h
  have ih:=fun a w=>any_line B (j+1) hd' (by omega) (fun k hk=>hL k (by omega)) hr a w
  split
  ·rename_i hw
   rw[if_pos hw] at h
   exact h.imp (fun h=>Oper.wp_mono ih h) id
  ·rename_i hw
   rw[if_neg hw] at h
   exact ih _ _ h
end
theorem gok_take {ops:List Oper} {i0:Nat} {o:Oper} {ρ:Env} {b:Bool} (h:gok (ops.take i0).toArray o ρ=some b):gok ops.toArray o ρ=some b:=by
 unfold gok at h ⊢
 cases hg:o.guard with
 | none=>simpa[hg] using h
 | some gw=>
  obtain⟨j,w⟩:=gw
  simp only[hg] at h ⊢
  have:(ops.take i0).toArray[j]?=ops.toArray[j]?∨(ops.take i0).toArray[j]?=none:=by
   simp only[List.getElem?_toArray,List.getElem?_take]
   split
   ·exact .inl rfl
   ·exact .inr rfl
  rcases this with q | q
  ·simpa only [guardOf,q] using h
  ·simp only[guardOf,q,Option.bind_none] at h
   cases h
structure SplitOk (ops:Array Oper) (i0:Nat):Prop where
 le:i0≤ops.size
 back:∀ j o,ops[j]?=some o→∀ e ∈ o.after,Region.binds .any e=true→e.on<j
 all:∀ x,x<i0→∀ j,i0≤j→j<ops.size→j ∈ behind ops x
 dep:∀ x,x<i0→∀ j oj,ops[j]?=some oj→j ∈ behind ops x→j ≠ x→∃ e ∈ oj.after,Region.binds .any e=true∧e.on ∈ behind ops x
 line:∀ j,i0≤j→j<ops.size→Region.ready .any ops (preL ops.size j)=[j]∧(preL ops.size j).setIfInBounds j true=preL ops.size (j+1)
 fin:Region.ready .any ops (preL ops.size ops.size)=[]
theorem splitB_ok {ops:Array Oper} {i0:Nat} (h:splitB ops i0=true):SplitOk ops i0:=by
 simp only[splitB,lineB,Bool.and_eq_true,decide_eq_true_eq] at h
 obtain⟨⟨⟨h1,h2⟩,h3⟩,h4,h5⟩:=h
 refine⟨h1,fun j o ho e he hb=>?_,fun x hx j hj hjn=>?_,fun x hx j oj ho hj hne=>?_,fun j hj hjn=>?_,by simpa using h5⟩
 ·have:=List.all_eq_true.1 h2 j (List.mem_range.2 (Array.getElem?_eq_some_iff.1 ho).1)
  simp only[ho] at this
  have:=(Array.all_eq_true_iff_forall_mem.1 this) e he
  simpa[hb] using this
 ·have:=List.all_eq_true.1 h3 x (List.mem_range.2 hx)
  simp only[Bool.and_eq_true] at this
  have:=List.all_eq_true.1 this.1 j (List.mem_range.2 hjn)
  simpa[Nat.not_lt.2 hj] using this
 ·have:=List.all_eq_true.1 h3 x (List.mem_range.2 hx)
  simp only[Bool.and_eq_true] at this
  have:=List.all_eq_true.1 this.2 j hj
  simp only[ho,Bool.or_eq_true,beq_iff_eq] at this
  rcases this with q | q
  ·exact absurd q hne
  ·obtain⟨e,he,hb⟩:=Array.any_eq_true'.1 q
   simp only[Bool.and_eq_true,List.contains_iff_mem] at hb
   exact⟨e,he,hb.1,hb.2⟩
 ·have:=List.all_eq_true.1 h4 j (List.mem_range.2 hjn)
  simpa[Nat.not_lt.2 hj] using this
theorem preL_get {n i j:Nat} (hj:j<n) (hi:i≤n):(preL n i).getD j true=decide (j<i):=by
 simp only[preL,Array.getD_eq_getD_getElem?,List.getElem?_toArray,List.getElem?_append,List.length_replicate,List.getElem?_replicate]
 by_cases h:j<i
 ·simp[h]
 ·simp[h,show j - i<n - i by omega]
section
variable {P:Program} {N:Nat} {ops:List Oper} {i0:Nat} {Stab:Heap→Nat→Prop} {hard:List Nat} {Q:Exit→Act→World→Prop}
theorem AnyC.soundB (hS:SplitOk ops.toArray i0) {R:AS→Prop} (hN:ops.all (fun o=>dok N o.dst)=true) {c0:Ctx} {fb:Nat} (hQ:∀ a c ρ,Keeps c0 c→Good c→RelE N c ρ a→R (ρ,c.H,c.n)→wpAny P .any ops.toArray Q fb (preL ops.length i0) a c.w) :
  ∀ (fuel:Nat) (lA listed:Array Bool) (ρ:Env) (c:Ctx) (a:Act),lA.size=i0→listed.size=ops.length→(∀ j,j<i0→listed.getD j true=lA.getD j true)→(∀ j,i0≤j→j<ops.length→listed.getD j true=false) →
   (∀ j o,ops[j]?=some o→listed.getD j true=true→∀ e ∈ o.after,Region.binds .any e=true→listed.getD e.on true=true)→Keeps c0 c→Good c→RelE N c ρ a→AnyC P N (ops.take i0).toArray Stab hard R fuel lA (ρ,c.H,c.n)→wpAny P .any ops.toArray Q (fuel+fb) listed a c.w:=by
 have hsz:ops.toArray.size=ops.length:=by simp
 have hle:i0≤ops.length:=by simpa using hS.le
 have getop:∀ j,j<i0→(ops.take i0).toArray[j]?=ops.toArray[j]?:=fun j hj=>by simp[List.getElem?_take,hj]
 have hend:∀ (lA listed:Array Bool),lA.size=i0→listed.size=ops.length→(∀ j,j<i0→listed.getD j true=lA.getD j true)→(∀ j,i0≤j→j<ops.length→listed.getD j true=false)→Region.ready .any (ops.take i0).toArray lA=[]→listed=preL ops.length i0:=by
  intro lA listed h1 h2 h3 h4 hr
  have hall:∀ j,j<i0→lA.getD j true=true:=by
   intro j
   induction j using Nat.strongRecOn with
   | _ j ih=>
    intro hj
    cases hl:lA.getD j true with
    | true=>rfl
    | false=>
     have hj':j<ops.length:=by omega
     have:j ∈ Region.ready .any (ops.take i0).toArray lA:=by
      refine mem_ready.2 ⟨hl,ops[j],?_,fun e he hb=>?_⟩
      ·rw[getop j hj];simp
      ·have hlt:=hS.back j ops[j] (by simp) e he hb
       have:=ih e.on hlt (by omega)
       simp only[Array.getD_eq_getD_getElem?] at this ⊢
       rw[Array.getElem?_eq_getElem (show e.on<lA.size by omega)] at this ⊢
       exact this
     rw[hr] at this
     cases this
  refine Array.ext (by simp[preL,h2];omega) fun j hj1 hj2=>?_
  have e1:listed.getD j true=listed[j]:=by simp[Array.getD_eq_getD_getElem?,Array.getElem?_eq_getElem hj1]
  have e2:(preL ops.length i0).getD j true=(preL ops.length i0)[j]:=by simp[Array.getD_eq_getD_getElem?,Array.getElem?_eq_getElem hj2]
  rw[← e1,← e2,preL_get (by omega) hle]
  by_cases hj:j<i0
  ·rw[h3 j hj,hall j hj];simp[hj]
  ·rw[h4 j (by omega) (by omega)];simp[hj]
 intro fuel
 induction fuel with
 | zero=>
  intro lA listed ρ c a h1 h2 h3 h4 _ hk g r h
  rw[hend lA listed h1 h2 h3 h4 h.1,Nat.zero_add]
  exact hQ a c ρ hk g r h.2
 | succ fuel ih=>
  intro lA listed ρ c a h1 h2 h3 h4 h5 hk g r h
  by_cases hr:Region.ready .any (ops.take i0).toArray lA=[]
  ·rw[hend lA listed h1 h2 h3 h4 hr]
   exact wpAny_mores fb _ _ _ (hQ a c ρ hk g r (h.1 hr)) (fuel+1)
  ·obtain⟨x,hx⟩:=List.exists_mem_of_ne_nil _ hr
   obtain⟨hxu,ox,hox,_⟩:=mem_ready.1 hx
   have hxi:x<i0:=by have:=(Array.getElem?_eq_some_iff.1 hox).1;simp at this;omega
   have hxl:listed.getD x true=false:=(h3 x hxi).trans hxu
   have hbeh:∀ y,y<ops.length→y ∈ behind ops.toArray x→listed.getD y true=false:=by
    intro y
    induction y using Nat.strongRecOn with
    | _ y ihy=>
     intro hy hm
     by_cases hyx:y=x
     ·subst hyx;exact hxl
     ·have hoy:ops.toArray[y]?=some ops[y]:=by simp
      obtain⟨e,he,hb,hem⟩:=hS.dep x hxi y _ hoy hm hyx
      have hlt:=hS.back y _ hoy e he hb
      have:=ihy e.on hlt (by omega) hem
      cases hl:listed.getD y true with
      | false=>rfl
      | true=>rw[h5 y ops[y] (by simp) hl e he hb] at this;cases this
   have hready:∀ j,j ∈ Region.ready .any ops.toArray listed→j<i0∧j ∈ Region.ready .any (ops.take i0).toArray lA:=by
    intro j hj
    obtain⟨hju,oj,hoj,hall⟩:=mem_ready.1 hj
    have hjn:j<ops.length:=by simpa using (Array.getElem?_eq_some_iff.1 hoj).1
    by_cases hji:j<i0
    ·refine⟨hji,mem_ready.2 ⟨(h3 j hji).symm.trans hju,oj,by rw[getop j hji];exact hoj,fun e he hb=>?_⟩⟩
     have hlt:=hS.back j oj hoj e he hb
     have q:=hall e he hb
     have q3:=h3 e.on (by omega)
     simp only[Array.getD_eq_getD_getElem?] at q q3 ⊢
     rw[Array.getElem?_eq_getElem (show e.on<listed.size by omega)] at q q3
     rw[Array.getElem?_eq_getElem (show e.on<lA.size by omega)] at q3 ⊢
     simp only[Option.getD_some] at q q3 ⊢
     rw[← q3];exact q
    ·exfalso
     have hm:=hS.all x hxi j (by omega) (by omega)
     obtain⟨e,he,hb,hem⟩:=hS.dep x hxi j oj hoj hm (by omega)
     have hlt:=hS.back j oj hoj e he hb
     have q:=hall e he hb
     have q2:=hbeh e.on (by omega) hem
     simp only[Array.getD_eq_getD_getElem?] at q q2
     rw[Array.getElem?_eq_getElem (show e.on<listed.size by omega)] at q q2
     simp only[Option.getD_some] at q q2
     rw[q] at q2;cases q2
   have hsame:∀ j,j<i0→j ∈ Region.ready .any (ops.take i0).toArray lA→j ∈ Region.ready .any ops.toArray listed:=by
    intro j hji hj
    obtain⟨hju,oj,hoj,hall⟩:=mem_ready.1 hj
    refine mem_ready.2 ⟨(h3 j hji).trans hju,oj,by rw[← getop j hji];exact hoj,fun e he hb=>?_⟩
    have hlt:=hS.back j oj (by rw[← getop j hji];exact hoj) e he hb
    have q:=hall e he hb
    have q3:=h3 e.on (by omega)
    simp only[Array.getD_eq_getD_getElem?] at q q3 ⊢
    rw[Array.getElem?_eq_getElem (show e.on<lA.size by omega)] at q q3
    rw[Array.getElem?_eq_getElem (show e.on<listed.size by omega)] at q3 ⊢
    simp only[Option.getD_some] at q q3 ⊢
    rw[q3];exact q
   rw[Nat.add_right_comm]
   refine⟨fun h0=>(by have:=hsame x hxi hx;rw[h0] at this;cases this),fun i hi=>?_⟩
   obtain⟨hii,hiA⟩:=hready i hi
   obtain⟨hju,oj,hoj,hdeps⟩:=mem_ready.1 hi
   obtain⟨o,ho,hbr⟩:=h.2 i hiA
   have ho':ops.toArray[i]?=some o:=by rw[← getop i hii];exact ho
   have hd:dok N o.dst=true:=List.all_eq_true.1 hN o (by simp only[List.getElem?_toArray] at ho';exact List.mem_of_getElem? ho')
   have hN':ops.toArray.toList.all (fun o=>dok N o.dst)=true:=by simpa using hN
   have g1:(lA.setIfInBounds i true).size=i0:=by simpa using h1
   have g2:(listed.setIfInBounds i true).size=ops.length:=by simpa using h2
   have setget:∀ (A:Array Bool) (j:Nat),(A.setIfInBounds i true).getD j true=if i=j then true else A.getD j true:=fun A j=>by
    by_cases hij:i=j
    ·subst hij
     by_cases hs:i<A.size
     ·simp[Array.getD_eq_getD_getElem?,hs]
     ·simp[Array.getD_eq_getD_getElem?,hs]
    ·rw[getD_set_ne true hij,if_neg hij]
   have g3:∀ j,j<i0→(listed.setIfInBounds i true).getD j true=(lA.setIfInBounds i true).getD j true:=fun j hj=>by rw[setget,setget,h3 j hj]
   have g4:∀ j,i0≤j→j<ops.length→(listed.setIfInBounds i true).getD j true=false:=fun j hj hjn=>by rw[setget,if_neg (by omega)];exact h4 j hj hjn
   have g5:∀ j o,ops[j]?=some o→(listed.setIfInBounds i true).getD j true=true→∀ e ∈ o.after,Region.binds .any e=true→(listed.setIfInBounds i true).getD e.on true=true:=fun j oj2 hoj2 hl e he hb=>by
    rw[setget] at hl ⊢
    by_cases hij:i=j
    ·subst hij
     have:oj2=oj:=by
      have q:ops.toArray[i]?=some oj2:=by simpa using hoj2
      rw[hoj] at q
      exact (Option.some.inj q).symm
     subst this
     have q:=hdeps e he hb
     have hlt:=hS.back i _ hoj e he hb
     have hin:i<ops.length:=by omega
     split
     ·rfl
     ·simp only[Array.getD_eq_getD_getElem?] at q ⊢
      rw[Array.getElem?_eq_getElem (show e.on<listed.size by omega)] at q ⊢
      exact q
    ·rw[if_neg hij] at hl
     split
     ·rfl
     ·exact h5 j oj2 hoj2 hl e he hb
   unfold wpOp
   simp only[ho']
   rcases hbr with ⟨_,hSt,s',⟨v,rfl,⟨hg,hop⟩ | ⟨hg,rfl⟩⟩,hrest⟩ | ⟨_,hg,post,hop,hrest⟩
   ·rw[if_pos (wanted_of_gok r hN' (gok_take hg))]
    refine .inl (hop c.H c.n hSt c a rfl rfl g (r.loc o.op) _ _ ?_)
    rintro v1 x c' ⟨rfl,hH,hn⟩ hrep hgood hkeep
    exact ih _ _ _ c' _ g1 g2 g3 g4 g5 (hk.trans hkeep) hgood ((r.keeps hkeep).put hd hrep) (by rw[hH,hn];exact hrest)
   ·rw[if_neg (by rw[wanted_of_gok r hN' (gok_take hg)];simp)]
    exact ih _ _ _ c _ g1 g2 g3 g4 g5 hk g (r.put hd (.v _)) hrest
   ·rw[if_pos (wanted_of_gok r hN' (gok_take hg))]
    refine .inl (hop c a rfl rfl g (r.loc o.op) _ _ ?_)
    rintro v1 x c' hpost hrep hgood hkeep
    exact ih _ _ _ c' _ g1 g2 g3 g4 g5 (hk.trans hkeep) hgood ((r.keeps hkeep).put hd hrep) (hrest v1 c'.H c'.n hpost).2
end
section
variable {P:Program} {f:FuncId} {N:Nat} {k:List Item} {ρ:Env} {H:Heap} {n:Nat} {Q:AVal→Heap→Nat→Prop} {Ty:Types}
theorem Runs.drawL (hT:TypesOk P Ty) (i0:Nat) (Stab:Heap→Nat→Prop) (hard:List Nat) (t:OrdT) (J:Env→Heap→Nat→Prop) {id:Nat} {ops:List Oper} (hm:P.follows .mixedOrders=true) (hN:ops.all (fun o=>dok N o.dst)=true) (hS:splitB ops.toArray i0=true) (hB:Ab.drawT (ops.take i0).toArray hard t=true)
  (h:RunT P N (ops.take i0).toArray Stab hard (atS J) t (ρ,H,n)) (hR:∀ k',(∀ ρ H n,Runs P f N k ρ H n Q→Runs P f N k' ρ H n Q)→∀ ρ H n,J ρ H n→evalK P f N k' Q Ty ops.toArray (ops.drop i0) ρ H n):Runs P f N (.code (.region id ops.toArray true)::k) ρ H n Q:=by
 intro c a hH hn g r b cs hf hk
 subst hH
 subst hn
 obtain⟨d1,d2⟩:=draw_keeps g
 have hSp:=splitB_ok hS
 have hle:i0≤ops.length:=by simpa using hSp.le
 simp only[Ab.drawT,Bool.and_eq_true,decide_eq_true_eq] at hB
 have hszA:(ops.take i0).toArray.size=i0:=by simp;omega
 have hany:=AnyC.lex (P:=P) (N:=N) (Stab:=Stab) (hard:=hard) (ops:=(ops.take i0).toArray) (ops.take i0).toArray.size t (Array.replicate (ops.take i0).toArray.size false) (ρ,c.H,c.n) hB.2 hB.1.1 hB.1.2 h
 rw[hszA] at hany
 have hNd:(ops.drop i0).all (fun o=>dok N o.dst)=true:=List.all_eq_true.2 fun o ho=>List.all_eq_true.1 hN o (List.mem_of_mem_drop ho)
 have hlen:(ops.drop i0).length=ops.length - i0:=by simp
 have hw:(Code.region id ops.toArray true).wp P (fun e a' w'=>e = .normal∧∃ c' ρ',c'.w=w'∧Keeps c c'∧Good c'∧RelE N c' ρ' a'∧Runs P f N k ρ' c'.H c'.n Q) a c.w:=by
  refine wp_region_any hm ?_
  have:=AnyC.soundB (P:=P) (N:=N) (Stab:=Stab) (hard:=hard) (ops:=ops) (i0:=i0) hSp (c0:=c) hN (fb:=(ops.drop i0).length) (Q:=fun e a' w'=>e = .normal∧∃ c' ρ',c'.w=w'∧Keeps c c'∧Good c'∧RelE N c' ρ' a'∧Runs P f N k ρ' c'.H c'.n Q)
   (R:=atS J) (fun a' c' ρ' hk' hg' hr' hR'=>by
    have hK:=evalK_sound (f:=f) (k:=k) (Q:=Q) (ops:=ops.toArray) hT (by simpa using hN) (ops.drop i0) ρ' c'.H c'.n hNd (hR k (fun _ _ _ h=>h) _ _ _ hR')
    have hL:=hK c' a' rfl rfl hg' hr' (fun e a' w'=>e = .normal∧∃ c' ρ',c'.w=w'∧Keeps c c'∧Good c'∧RelE N c' ρ' a'∧Runs P f N k ρ' c'.H c'.n Q) (fun a2 c2 ρ2 hk2 hg2 hr2 hR2=>⟨rfl,c2,ρ2,rfl,hk'.trans hk2,hg2,hr2,hR2⟩)
    have:=any_line (P:=P) (ops:=ops.toArray) (ops.drop i0) i0 rfl (by simp;omega) hSp.line hSp.fin a' c'.w hL
    simpa using this) i0 (Array.replicate i0 false) (Array.replicate ops.length false) ρ { c with w:={ c.w with drawn:=c.w.drawn+1 } } a (by simp) (by simp) (fun j hj=>by simp[Array.getD_eq_getD_getElem?,hj,show j<ops.length by omega]) (fun j _ hj=>by simp[Array.getD_eq_getD_getElem?,hj])
    (fun j o ho hl=>by have:j<ops.length:=(List.getElem?_eq_some_iff.1 ho).1;simp[Array.getD_eq_getD_getElem?,this] at hl) d1 d2 (r.keeps d1) hany
  have hs:ops.toArray.size=i0+(ops.drop i0).length:=by simp;omega
  rw[hs]
  have hs2:(Array.replicate (i0+(ops.drop i0).length) false)=Array.replicate ops.length false:=by rw[← hs];simp
  rw[hs2]
  exact this
 obtain⟨e,a',w',⟨rfl,c',ρ',rfl,hk',hg',hr',hR⟩,harr⟩:=hw b k cs
 obtain⟨x,v,c'',fr,q,hr,hg,hke,hst,rest⟩:=hR c' a' rfl rfl hg' hr' b cs hf hk
 exact⟨x,v,c'',fr,q,hr,hg,hk'.trans hke,Steps.trans harr hst,rest⟩
theorem Runs.seqL (hT:TypesOk P Ty) (i0:Nat) (Stab:Heap→Nat→Prop) (hard:List Nat) (t:OrdT) (J:Env→Heap→Nat→Prop) {id:Nat} {ops:List Oper} {y:Code} (hm:P.follows .mixedOrders=true) (hN:ops.all (fun o=>dok N o.dst)=true) (hS:splitB ops.toArray i0=true) (hB:Ab.drawT (ops.take i0).toArray hard t=true)
  (h:RunT P N (ops.take i0).toArray Stab hard (atS J) t (ρ,H,n)) (hR:∀ k',(∀ ρ H n,Runs P f N (.code y::k) ρ H n Q→Runs P f N k' ρ H n Q)→∀ ρ H n,J ρ H n→evalK P f N k' Q Ty ops.toArray (ops.drop i0) ρ H n):Runs P f N (.code (.seq (.region id ops.toArray true) y)::k) ρ H n Q:=
 Runs.seq (Runs.drawL hT i0 Stab hard t J hm hN hS hB h hR)
end
end Go.Ab
/- The abstract machine, part Dv: rows of an own array: what their slices hold becomes lists; an append to a slice of a row, and its store. -/
namespace Go.Ab
set_option linter.unusedSectionVars false
def Ctx.told (c:Ctx) (id:Id) (o:Ob):Ctx:={ c with H:=c.H.set id o }
theorem told_ctx {c:Ctx} (g:Good c) {id:Id} {sz:Nat} {els es:List (List AVal)} (hid:c.H id=some ⟨sz,els⟩) (hl:es.length=els.length)
  (hr:∀ cl el,c.w.heap[c.β id]?=some (.cells cl el (0,0))→∀ (i:Nat) (e:List AVal),es[i]?=some e→e.length=sz∧∀ (j:Nat) (a:AVal),e[j]?=some a→∃ x,cl[i * sz+j]?=some x∧Rep c a x) :
  Keeps c (c.told id ⟨sz,es⟩)∧Good (c.told id ⟨sz,es⟩):=by
 have hdom:∀ i o,(c.told id ⟨sz,es⟩).H i=some o→(i=id∧o=⟨sz,es⟩)∨(i ≠ id∧c.H i=some o):=by
  intro i o ho
  simp only[Ctx.told] at ho
  by_cases h:i=id
  ·subst h;rw[Heap.get_set_self] at ho;exact .inl ⟨rfl,(Option.some.inj ho).symm⟩
  ·rw[Heap.get_set_ne _ _ h] at ho;exact .inr ⟨h,ho⟩
 have k2:Keeps c (c.told id ⟨sz,es⟩):=by
  refine⟨Nat.le_refl _,rfl,Nat.le_refl _,rfl,rfl,rfl,fun k hk hm=>⟨rfl,?_⟩,fun i o' ho hi=>?_⟩
  ·rintro⟨i,o,ho,hb⟩
   rcases hdom i o ho with ⟨rfl,rfl⟩ | ⟨_,q⟩
   ·exact hm ⟨i,_,hid,hb⟩
   ·exact hm ⟨i,o,q,hb⟩
  ·rcases hdom i o' ho with ⟨rfl,rfl⟩ | ⟨_,q⟩
   ·exact⟨_,hid,rfl,by simp[hl],fun _=>⟨rfl,fun cl el fz h=>⟨cl,el,fz,h,Nat.le_refl _⟩⟩⟩
   ·exact⟨o',q,rfl,Nat.le_refl _,fun _=>⟨rfl,fun cl el fz h=>⟨cl,el,fz,h,Nat.le_refl _⟩⟩⟩
 refine⟨k2,fun i o ho=>?_,fun i i' o o' ho ho' hb=>?_,g.Bsize,fun i o ho=>?_,g.tabOn k2⟩
 ·rcases hdom i o ho with ⟨rfl,_⟩ | ⟨_,q⟩
  ·exact g.stamp i _ hid
  ·exact g.stamp i o q
 ·have h1:∃ o,c.H i=some o:=by rcases hdom i o ho with ⟨rfl,_⟩ | ⟨_,q⟩<;>exact⟨_,by assumption⟩
  have h2:∃ o,c.H i'=some o:=by rcases hdom i' o' ho' with ⟨rfl,_⟩ | ⟨_,q⟩<;>exact⟨_,by assumption⟩
  obtain⟨_,h1⟩:=h1
  obtain⟨_,h2⟩:=h2
  exact g.inj i i' _ _ h1 h2 hb
 ·rcases hdom i o ho with ⟨rfl,rfl⟩ | ⟨_,q⟩
  ·obtain⟨p1,cl,el,p2,p3,_⟩:=g.obj i _ hid
   refine⟨p1,cl,el,p2,by simpa[hl] using p3,fun k e he=>?_⟩
   obtain⟨q1,q2⟩:=hr cl el p2 k e he
   exact⟨q1,fun j a ha=>by obtain⟨x,hx,hx'⟩:=q2 j a ha;exact⟨x,hx,hx'.keeps k2⟩⟩
  ·obtain⟨p1,cl,el,p2,p3,p4⟩:=g.obj i o q
   exact⟨p1,cl,el,p2,p3,fun k e he=>⟨(p4 k e he).1,fun j a ha=>by obtain⟨x,hx,hx'⟩:=(p4 k e he).2 j a ha;exact⟨x,hx,hx'.keeps k2⟩⟩⟩
theorem Runs.frzIn {P:Program} {f:FuncId} {N:Nat} {k:List Item} {ρ:Env} {H:Heap} {n:Nat} {Q:AVal→Heap→Nat→Prop} {l:List Sh} {v:AVal} {es:List (List AVal)} {K:List OwnE} {ids:List Id} (sp:Sep H n ((.s l,v,.list true es)::K) ids)
  (hF:∀ r ∈ es,∀ a ∈ r,Fresh a) (h:∀ H',Sep H' n ((.s (l.map fun _=>.c),v,.list true es)::K) ids→(∀ i ∈ ids,H' i=H i)→Runs P f N k ρ H' n Q):Runs P f N k ρ H n Q:=by
 obtain⟨i0,S,p1,p2⟩:=sp
 simp only[List.map_cons,Row] at p1
 obtain⟨S1,S2,p3,p4,rfl,p5⟩:=p1
 simp only[Tr] at p3
 rcases p3 with ⟨rfl,he,rfl⟩ | ⟨id,els,es',T,rfl,he,q3,q4,q5,rfl⟩
 ·refine h H ⟨i0,[]++S2,?_,p2⟩ (fun _ _=>rfl)
  simp only[List.map_cons,Row,Tr]
  exact⟨[],S2,.inl ⟨by trivial,he,rfl⟩,p4,rfl,by simp⟩
 ·injection he with _ he
  subst he
  have hlen:=q4.len
  intro c a hH hn g r b cs hf hk
  subst hH hn
  have g1:=g.less T
  have k1:=Keeps.less c T
  have hid1:(c.less T).H id=some ⟨l.length,els⟩:=by simp[Ctx.less,q5,q3]
  obtain⟨k2,g2⟩:=told_ctx g1 hid1 (es:=es) hlen.symm fun cl el hcl i e he=>by
   obtain⟨p1',cl',el',p2',_,p4'⟩:=g.obj id _ q3
   have hcl':c.w.heap[c.β id]?=some (.cells cl el (0,0)):=hcl
   rw[hcl'] at p2'
   injection p2' with p2'
   injection p2' with p2'
   subst p2'
   obtain⟨e1,T1,u1,u2,u3⟩:=q4.get i e he
   obtain⟨r1,r2⟩:=p4' i e1 u1
   obtain⟨t1,t2⟩:=Row.less g (S:=T) u2 u3
   refine⟨by rw[← t1];exact r1,fun j y hy=>?_⟩
   have hj:j<e1.length:=by rw[t1];exact (List.getElem?_eq_some_iff.1 hy).1
   obtain⟨z,hz,hrz⟩:=r2 j e1[j] (List.getElem?_eq_getElem hj)
   exact⟨z,hz,t2 j _ _ z (List.getElem?_eq_getElem hj) hy hrz⟩
  have hold:∀ i,i ∉ id::T→((c.less T).told id ⟨l.length,es⟩).H i=c.H i:=fun i hi=>by
   simp only[List.mem_cons,not_or] at hi
   simp only[Ctx.told,Heap.get_set_ne _ _ hi.1,Ctx.less,hi.2,if_false]
  have hsp:Sep ((c.less T).told id ⟨l.length,es⟩).H c.n ((.s (l.map fun _=>.c),.arr id els.length 0 els.length,.list true es)::K) ids:=by
   refine⟨i0,[id]++S2,?_,fun i hi=>p2 i ?_⟩
   ·simp only[List.map_cons,Row,Tr]
    refine⟨[id],S2,.inr ⟨id,es,es,[],by rw[hlen],rfl,?_,rowsP.fresh (fun e he=>⟨?_,hF e he⟩) (by simp),by simp,rfl⟩,p4.frame fun i hi=>hold i fun hm=>p5 i hm hi,rfl,fun i hi hm=>p5 i (by simp at hi;simp[hi]) hm⟩
    ·simp only[Ctx.told,Heap.get_set_self,List.length_map]
    ·obtain⟨ix,hix,hie⟩:=List.getElem_of_mem he
     obtain⟨e1,T1,u1,u2,_⟩:=q4.get ix e (by rw[List.getElem?_eq_getElem hix,hie])
     rw[List.length_map]
     exact u2.len.2
   ·simp only[List.mem_append,List.mem_cons,List.not_mem_nil,or_false] at hi ⊢
    rcases hi with hi | hi
    ·exact .inl (.inl hi)
    ·exact .inr hi
  obtain⟨x,v,c',fr,q,hr',hg,hke,rest⟩:=h _ hsp (fun i hi=>hold i fun hm=>(p2 i (by simp only[List.mem_append];exact .inl hm)).2 hi) _ a rfl rfl g2 ⟨r.defers,r.size,fun t=>((r.rep t).keeps k1).keeps k2⟩ b cs hf hk
  exact⟨x,v,c',fr,q,hr',hg,(k1.trans k2).trans hke,rest⟩
section
variable {H:Heap} {n:Nat} {K K1 K2:List OwnE} {ids:List Id} {q:Nat} {Ty:Types}
theorem Sep.rowApp {d:Nat} {xv vL:AVal} {add:List (List AVal)} {lp lq li:List Sh} {pre post:List AVal} {es rows els:List (List AVal)} {row:List AVal} {i j:TI} {t:TypeId} {id:Id} {g:Nat}
  (h:Sep H n ((.s (lp++.s li::lq),.arr id g 0 g,.list true rows)::K) ids) (he:rows[q]?=some (pre++.list true es::post)) (hp:pre.length=lp.length) (hid:H id=some ⟨(lp++.s li::lq).length,els⟩) (hrow:els[q]?=some row) (hv:row[lp.length]?=some vL)
  (hk:kd Ty t = .slice j) (hj:j.size=li.length) (hz:j.zero.length=j.size∧j.bytes≤131072) (hx:srcOf H xv=some add) (ho:add.all (fun e=>e.all Ab.one1)=true) (hadd:rowsP (Row H li) add add []) (hne:add ≠ []) (hlen:es.length+add.length≤1073741824) (hi:i.size=1) :
  ∃ v' H' n' H2,appendF Ty (some d) t vL xv H n=some (v',H',n')∧cellsA v'=some [v']∧H' id=H id∧(∀ i ∈ ids,H' i=H i)∧storeF (some i) (.ptr id g q lp.length) (some [v']) H'=some H2 ∧
   Sep H2 n' ((.s (lp++.s li::lq),.arr id g 0 g,.list true (rows.set q (pre++.list true (es++add)::post)))::K) ids∧(∀ i ∈ ids,H2 i=H i)∧n≤n':=by
 obtain⟨id',els',row',W,h1,h2,h3,h4,h5,h6,h7,h8,h9,h10,h11⟩:=h.row he
 injection h1 with e1 e2 _ _
 subst e1
 rw[hid] at h2
 injection h2 with h2
 injection h2 with _ h2
 subst h2
 rw[hrow] at h4
 injection h4 with h4
 subst h4
 have hoff:lp.length<row.length:=by rw[h5];simp
 have hvL:row[lp.length]=vL:=by rw[List.getElem?_eq_getElem hoff] at hv;exact Option.some.inj hv
 have hsplit:row=row.take lp.length++vL::row.drop (lp.length+1):=by
  rw[← hvL,List.getElem_cons_drop,List.take_append_drop]
 have htl:(row.take lp.length).length=lp.length:=by simp;omega
 have h10':Sep H n (zip3 lp (row.take lp.length) pre++(.s li,vL,.list true es)::zip3 lq (row.drop (lp.length+1)) post) W:=by
  rw[hsplit] at h10
  rw[zip3_append htl hp] at h10
  simpa only [zip3] using h10
 obtain⟨v',H',n',a1,a2,a3,a4⟩:=Sep.append (d:=d) (K1:=[]) (K2:=zip3 lp (row.take lp.length) pre++zip3 lq (row.drop (lp.length+1)) post) (by simpa using Sep.front h10') hk hj hz hx ho (fun S hS=>by simp only[List.map_nil,Row] at hS;subst hS;exact hadd) hne hlen
 have hH':H' id=some ⟨(lp++.s li::lq).length,els⟩:=(a3 id h7).trans hid
 have hone:Ab.one1 v'=true:=a2.one1
 have hw:Ob.write ⟨(lp++.s li::lq).length,els⟩ q lp.length [v']=⟨(lp++.s li::lq).length,els.set q (row.take lp.length++v'::row.drop (lp.length+1))⟩:=by
  simp[Ob.write,List.getD,hrow,splice]
 have hl':(row.take lp.length++v'::row.drop (lp.length+1)).length=(lp++.s li::lq).length:=by
  rw[← h5];simp;omega
 have hq:q<els.length:=(List.getElem?_eq_some_iff.1 hrow).1
 refine⟨v',H',n',H'.set id (Ob.write ⟨(lp++.s li::lq).length,els⟩ q lp.length [v']),a1,a2.cells,(a3 id h7).trans rfl,fun i hi=>a3 i (h8 i hi),?_,?_,fun j hj=>(Heap.get_set_ne _ _ (by rintro rfl;exact h9 hj)).trans (a3 j (h8 j hj)),a4⟩
 ·simp only[storeF,live,hH']
  rw[if_pos (show els.length=g by omega)]
  simp only[]
  rw[if_pos ⟨by simp[hi],by omega,by simp,by simp only[List.all_cons,List.all_nil,hone,Bool.and_true]⟩]
 ·refine h11 _ n' _ _ ?_ hl' (by simpa using h6) (fun j hj hne=>(Heap.get_set_ne _ _ hne).trans (a3 j hj)) (by rw[hw,Heap.get_set_self]) a4
  refine Sep.setVar ?_ h7
  rw[zip3_append htl hp]
  simp only[zip3]
  exact Sep.unfront a2
theorem Sep.rowAppF {α:Type} [Inhabited α] {f:α→List AVal} {xs:List α} {x y:α} {ix:Int} {d:Nat} {xv vL:AVal} {add:List (List AVal)} {l lp lq li:List Sh} {pre post:List AVal} {es els:List (List AVal)} {row:List AVal} {i j:TI} {t:TypeId} {id:Id} {g:Nat}
  (h:Sep H n ((.s l,.arr id g 0 g,.list true (xs.map f))::K) ids) (hl:l=lp++.s li::lq) (hb:0≤ix∧ix<xs.length) (hxx:x=at' xs ix) (hq:q=ix.toNat) (hfx:f x=pre++.list true es::post) (hfy:f y=pre++.list true (es++add)::post) (hp:pre.length=lp.length) (hid:H id=some ⟨l.length,els⟩) (hrow:els[q]?=some row) (hv:row[lp.length]?=some vL)
  (hk:kd Ty t = .slice j) (hj:j.size=li.length) (hz:j.zero.length=j.size∧j.bytes≤131072) (hx:srcOf H xv=some add) (ho:add.all (fun e=>e.all Ab.one1)=true) (hadd:rowsP (Row H li) add add []) (hne:add ≠ []) (hlen:es.length+add.length≤1073741824) (hi:i.size=1) :
  ∃ v' H' n' H2,appendF Ty (some d) t vL xv H n=some (v',H',n')∧cellsA v'=some [v']∧H' id=H id∧(∀ i ∈ ids,H' i=H i)∧storeF (some i) (.ptr id g q lp.length) (some [v']) H'=some H2 ∧
   Sep H2 n' ((.s l,.arr id g 0 g,.list true ((xs.set q y).map f))::K) ids∧(∀ i ∈ ids,H2 i=H i)∧n≤n':=by
 subst hl
 have he:(xs.map f)[q]?=some (pre++.list true es::post):=by rw[at_some' hb hxx hq,hfx]
 rw[List.map_set,hfy]
 exact Sep.rowApp h he hp hid hrow hv hk hj hz hx ho hadd hne hlen hi
end
section
variable {P:Program} {f:FuncId} {N:Nat} {k:List Item} {Q:AVal→Heap→Nat→Prop} {Ty:Types} {ops:Array Oper} {L:List Oper} {ρ:Env} {H H' H2:Heap} {n n':Nat} {o:Oper} {v:AVal} {κ:Op→Nat}
theorem bindE_st {i:Option TI} {p:AVal} {cs:Option (List AVal)} (h:storeF i p cs H=some H2) (hc:evalK P f N k Q Ty ops L (ρ.put o.dst .undef) H2 n):bindE P f N k Q Ty ops (match storeF i p cs H with | some H'=>some (AVal.undef,H',n) | none=>none) o L ρ H n:=by
 rw[h];exact (bindE_some (v:=AVal.undef) (H':=H2) (n':=n)).symm ▸ hc
end
section
variable {P:Program} {N:Nat} {ops:Array Oper} {Stab:Heap→Nat→Prop} {hard:List Nat} {R:AS→Prop} {ρ:Env} {H H':Heap} {n n':Nat} {i:Nat} {l:OrdT} {Ty:Types}
theorem RunT.appIs (hT:TypesOk P Ty) {d:Nat} {t:TypeId} {s x:Operand} {ty:TypeId} {pos:String} {af:Array Edge} {gu:Option (Nat × Bool)} {v xv v':AVal}
  (ho:ops.toList[i]?=some ⟨some d,.call ⟨.builtin .append,#[s,x],#[t,t]⟩,ty,pos,af,gu⟩) (hgu:gok ops ⟨some d,.call ⟨.builtin .append,#[s,x],#[t,t]⟩,ty,pos,af,gu⟩ ρ=some true) (hsv:ρ.ev s=v) (hxv:ρ.ev x=xv) (h1:appendF Ty (some d) t v xv H n=some (v',H',n'))
  (hS:lateC ops hard i=false→Stab H' n') (h:RunT P N ops Stab hard R l (ρ.put (some d) v',H',n')):HardT P N ops Stab hard (RunT P N ops Stab hard R l) i (ρ,H,n):=by
 refine RunT.step hT ho hgu ?_ hS h
 show (if t=t then appendF Ty (some d) t (ρ.ev s) (ρ.ev x) H n else none)=_
 rw[if_pos rfl,hsv,hxv,h1]
end
theorem Runs.joinC {P:Program} {f:FuncId} {N:Nat} {k:List Item} {ρ0:Env} {H0:Heap} {n0:Nat} {Q:AVal→Heap→Nat→Prop} {σ:Type} {ways:(σ→Prop)→Prop} {rest:σ→Prop} {c:Code} (h:Ab.joinW ways rest) (S:σ→Env→Heap→Nat→Prop)
  (hw:∀ J:σ→Prop,ways J→(∀ s ρ H n,J s→S s ρ H n→Runs P f N k ρ H n Q)→Runs P f N (.code c::k) ρ0 H0 n0 Q) (hr:∀ s ρ H n,rest s→S s ρ H n→Runs P f N k ρ H n Q):Runs P f N (.code c::k) ρ0 H0 n0 Q:=by
 obtain⟨J,h1,h2⟩:=h
 exact hw J h1 fun s ρ H n hJ hS=>hr s ρ H n (h2 s hJ) hS
def resOne (tmps:Array Value):ResultVar→Sem Value
 | .tmp t=>pure (tmps.getD t undef)
 | .cell a t=>do loadVar t (← asAddr (tmps.getD a undef))
theorem resOne_ok {P:Program} {Ty:Types} (hT:TypesOk P Ty) {N:Nat} {ρ:Env} {c:Ctx} {a:Act} (g:Good c) (r:RelE N c ρ a) {rv:ResultVar} {v:AVal} (h:resA Ty c.H ρ rv=some v):∃ y,(resOne a.tmps rv).run P c.w = .ok y c.w∧Rep c v y:=by
 cases rv with
 | tmp t=>cases h;exact⟨_,rfl,r.rep t⟩
 | cell t ty=>
  simp only[resA] at h
  split at h
  ·rename_i i cs hi hvw
   obtain⟨b,off,hx,hview⟩:=viewOf_ok g (r.rep t) hvw
   obtain⟨y,hrun,hrep⟩:=run_loadVar (hT ty i hi) hview h
   refine⟨y,?_,hrep⟩
   simp[resOne,hx,asAddr,hrun]
  ·cases h
section
variable {P:Program} {Ty:Types} {f:FuncId} {fn:Func} {N:Nat} {k:List Item} {ρ:Env} {H:Heap} {n:Nat} {Q:AVal→Heap→Nat→Prop}
theorem RetOk.mix4 (hT:TypesOk P Ty) {r1 r2 r3 r4:ResultVar} {v1 v2 v3 v4:AVal} (h:fn.results=#[r1,r2,r3,r4]) (h1:resA Ty H ρ r1=some v1) (h2:resA Ty H ρ r2=some v2) (h3:resA Ty H ρ r3=some v3) (h4:resA Ty H ρ r4=some v4):RetOk P N fn ρ H n (.tup [v1,v2,v3,v4]):=by
 intro c a hH hn g r
 subst hH
 obtain⟨y1,e1,q1⟩:=resOne_ok hT g r h1
 obtain⟨y2,e2,q2⟩:=resOne_ok hT g r h2
 obtain⟨y3,e3,q3⟩:=resOne_ok hT g r h3
 obtain⟨y4,e4,q4⟩:=resOne_ok hT g r h4
 have hrun:(results fn a.tmps).run P c.w = .ok (.tuple [y1,y2,y3,y4].toArray) c.w:=by
  have hf:results fn a.tmps=(do let vs ← fn.results.mapM (resOne a.tmps);pure (if h:vs.size=1 then vs[0] else .tuple vs)):=by
   unfold results
   congr 2
  rw[hf,h]
  simp[e1,e2,e3,e4]
 refine⟨.tuple [y1,y2,y3,y4].toArray,hrun,.tup _ _ rfl fun i b x hb hx=>?_⟩
 match i with
 | 0=>simp at hb hx;rw[← hb,← hx];exact q1
 | 1=>simp at hb hx;rw[← hb,← hx];exact q2
 | 2=>simp at hb hx;rw[← hb,← hx];exact q3
 | 3=>simp at hb hx;rw[← hb,← hx];exact q4
 | i+4=>simp at hb
theorem Runs.res4 (hT:TypesOk P Ty) {r1 r2 r3 r4:ResultVar} {v w z y:AVal} (hfn:P.funcs[f]?=some fn) (hr:fn.results=#[r1,r2,r3,r4]) (h1:resA Ty H ρ r1=some v) (h2:resA Ty H ρ r2=some w) (h3:resA Ty H ρ r3=some z) (h4:resA Ty H ρ r4=some y) (hq:Q (.tup [v,w,z,y]) H n):Runs P f N (.code .ret::k) ρ H n Q:=Runs.ret hfn (RetOk.mix4 hT hr h1 h2 h3 h4) hq
end
end Go.Ab
/- The abstract machine, part Sh: function values handed over: what they capture is seen by the callee as cells that are never written again. -/
namespace Go.Ab
section
variable {H:Heap} {n:Nat}
end
section
variable {P:Program} {f:FuncId} {N:Nat} {k:List Item} {Q:AVal→Heap→Nat→Prop} {Ty:Types} {l:List Oper} {ρ:Env} {H:Heap} {n:Nat}
theorem RunK.same1 (hT:TypesOk P Ty) {ops:Array Oper} {o:Oper} {v:AVal} (hl:(o::l).all (fun o=>dok N o.dst)=true) (hg:o.guard=none) (hs:stepF Ty o.dst o.op ρ H n=some (v,H,n)) (h:RunK P f N k Q ops l (ρ.put o.dst v) H n):RunK P f N k Q ops (o::l) ρ H n:=by
 simp only[List.all_cons,Bool.and_eq_true] at hl
 refine RunO.op hg hl.1 ((stepF_ok hT hs).mono ?_)
 rintro _ _ _ ⟨rfl,rfl,rfl⟩
 exact h
theorem RunK.makeS (hT:TypesOk P Ty) {ops:List Oper} {d len:Nat} {t:TypeId} {j:TI} {ps:Array (Nat × Operand)} {ty:TypeId} {pos:String} {af:Array Edge} {l':List Sh} {K:List OwnE} {ids:List Id} {cs:List AVal} (es:List (List AVal)) (h:Sep H n K ids)
  (hN:ops.all (fun o=>dok N o.dst)=true) (hl:(⟨some d,.buildSlice t len ps,ty,pos,af,none⟩::l:List Oper).all (fun o=>dok N o.dst)=true) (hf:∀ t ∈ l',t = .c) (hk:kd Ty t = .slice j) (hj:j.size=l'.length) (h0:len ≠ 0∧len * j.size≤16777216∧j.size ≠ 0∧j.zero.length=j.size)
  (hcs:fillA (fun k=>some (k * j.size,j.size)) ((List.replicate len (j.zero.map AVal.v)).flatten) (ps.toList.map fun p=>(p.1,ρ.ev p.2))=some cs) (hes:chunks j.size len cs=es) (hel:es.length=len) (ho:∀ e ∈ es,e.length=l'.length∧∀ a ∈ e,flat a=true)
  (hc:∀ id H' n',Sep H' n' ((.s l',.arr id len 0 len,.list true es)::K) ids→(∀ i ∈ ids,H' i=H i)→n≤n'→evalK P f N k Q Ty ops.toArray l (ρ.put (some d) (.arr id len 0 len)) H' n'):RunK P f N k Q ops.toArray (⟨some d,.buildSlice t len ps,ty,pos,af,none⟩::l) ρ H n:=by
 subst hes
 have e:ownF Ty (some d) (.buildSlice t len ps) ρ H n=some (.arr (n,d) len 0 len,H.set (n,d) ⟨j.size,chunks j.size len cs⟩,n+1):=by
  simp only[ownF,hk]
  rw[if_pos h0,hcs]
  rfl
 refine RunK.op hT hN hl rfl (ownF_ok (o:=⟨some d,.buildSlice t len ps,ty,pos,af,none⟩) hT e).1 ?_
 rintro _ _ _ ⟨rfl,rfl,rfl⟩
 have h1:=Sep.addNew (d:=d) (l:=l') (els:=chunks j.size len cs) (es:=chunks j.size len cs) h (rowsP.flats ho hf)
 rw[hel,← hj] at h1
 exact hc (n,d) _ _ h1 (fun i hi=>Heap.get_set_ne _ _ (by rintro rfl;have:=h.1 _ hi;simp at this)) (Nat.le_succ n)
end
section
variable {P:Program} {N:Nat} {ops:Array Oper} {Stab:Heap→Nat→Prop} {hard:List Nat} {R:AS→Prop} {ρ:Env} {H:Heap} {n:Nat} {i:Nat} {l:OrdT} {Ty:Types}
end
end Go.Ab
/- The abstract machine, part St: rules, guards, systems. -/
namespace Go.Ab
section
variable {H:Heap} {n:Nat}
end
end Go.Ab
/- The abstract machine, part Sf: variables that are never written again: boxes as immutable cells, slices of arrays in them; loops that are unrolled. -/
namespace Go.Ab
set_option linter.unusedSectionVars false
section
variable {P:Program} {N:Nat} {ρ:Env} {H:Heap} {n:Nat} {Ty:Types} {d:Option Tmp} {ty:TypeId} {pos:String} {af:Array Edge} {gu:Option (Nat × Bool)}
end
section
variable {P:Program} {f:FuncId} {N:Nat} {k:List Item} {Q:AVal→Heap→Nat→Prop} {Ty:Types} {l:List Oper} {ρ:Env} {H:Heap} {n:Nat} {d:Option Tmp} {ty:TypeId} {pos:String} {af:Array Edge}
theorem Runs.seqK (hT:TypesOk P Ty) {id:Nat} {ops:List Oper} {y:Code} (hN:ops.all (fun o=>dok N o.dst)=true) (h:∀ k':List Item,(∀ ρ H n,Runs P f N (.code y::k) ρ H n Q→Runs P f N k' ρ H n Q)→RunK P f N k' Q ops.toArray ops ρ H n) :
  Runs P f N (.code (.seq (.region id ops.toArray false) y)::k) ρ H n Q:=
 Runs.seq (Runs.region (h (.code y::k) fun _ _ _ h=>h))
end
end Go.Ab
