/- Merged texts (10 of 17) of the proof that ends in Icy: Go Wb Wc Y Gp Gq Gr. -/
import Derived.Test.YtkocdlgoncmdbaaGreatDoorAbQic9
/- Contracts of the laws' to.. functions of bigraphs. By program. -/
namespace Go.Ab
open Go.Proofs
set_option linter.unusedSimpArgs false
theorem e88:Ent Tryz.prog 88:=Ent.of Tryz.func88 (by kernel_rfl) rfl
theorem toWire_ok (x:Wire):PureC Tryz.prog 88 [.agg (Wire.cells x)] (fun r=>r = .agg (Wire.cells x)):=by
 refine PureC.of Tryz.func88 rfl Tryz.ntmps88 (by simp) fun Q hQ=>?_
 refine Runs.seqE Ty_ok (by decide) fun k' hk'=>?_
 simp [Wire.cells, encN, encI, encS, encW]   -- R0
 apply hk'
 refine Runs.seqE Ty_ok (by decide) fun k' hk'=>?_
 simp   -- R1
 apply hk'
 refine Runs.seqE Ty_ok (by decide) fun k' hk'=>?_
 simp   -- R2
 apply hk'
 refine Runs.seqE Ty_ok (by decide) fun k' hk'=>?_
 simp   -- R3
 apply hk'
 refine Runs.seqE Ty_ok (by decide) fun k' hk'=>?_
 simp   -- R4
 apply hk'
 exact Runs.ret Tryz.func88 (RetOk.cell (cs:=Wire.cells x) (v:=.agg (Wire.cells x)) Ty_ok Tryz.results88 Ty_107 (by simp[Wire.cells,encN,encI,encS,encW]) (by simp[loadA,Wire.cells])) (hQ _ _ _ _ (.of (Ret.fresh (by simp[Wire.cells,encN,encI,encS,encW,GNode.cells,intC,strC,Wire.cells]))) rfl)
theorem e35:Ent Tryz.prog 35:=Ent.of Tryz.func35 (by kernel_rfl) rfl
theorem toControl_ok (x:Control):PureC Tryz.prog 35 [.agg (Control.cells x)] (fun r=>r = .agg (Control.cells x)):=by
 refine PureC.of Tryz.func35 rfl Tryz.ntmps35 (by simp) fun Q hQ=>?_
 refine Runs.seqE Ty_ok (by decide) fun k' hk'=>?_
 simp [Control.cells, encN, encI, encS, encW]   -- R0
 apply hk'
 refine Runs.seqE Ty_ok (by decide) fun k' hk'=>?_
 simp   -- R1
 apply hk'
 refine Runs.seqE Ty_ok (by decide) fun k' hk'=>?_
 simp   -- R2
 apply hk'
 refine Runs.seqE Ty_ok (by decide) fun k' hk'=>?_
 simp   -- R3
 apply hk'
 refine Runs.seqE Ty_ok (by decide) fun k' hk'=>?_
 simp   -- R4
 apply hk'
 refine Runs.seqE Ty_ok (by decide) fun k' hk'=>?_
 simp   -- R5
 apply hk'
 exact Runs.ret Tryz.func35 (RetOk.cell (cs:=Control.cells x) (v:=.agg (Control.cells x)) Ty_ok Tryz.results35 Ty_68 (by simp[Control.cells,encN,encI,encS,encW]) (by simp[loadA,Control.cells])) (hQ _ _ _ _ (.of (Ret.fresh (by simp[Control.cells,encN,encI,encS,encW,GNode.cells,intC,strC,Wire.cells]))) rfl)
theorem e87:Ent Tryz.prog 87:=Ent.of Tryz.func87 (by kernel_rfl) rfl
theorem toNode_ok (x:GNode) (hl:x.links.length≤1048576):PureC Tryz.prog 87 [.agg (GNode.cells false x)] (fun r=>r = .agg (GNode.cells true x)):=by
 refine PureC.of Tryz.func87 rfl Tryz.ntmps87 (by simp) fun Q hQ=>?_
 refine Runs.seqE Ty_ok (by decide) fun k' hk'=>?_
 simp [GNode.cells, encN, encI, encS, encW]   -- R0
 apply hk'
 refine Runs.seqE Ty_ok (by decide) fun k' hk'=>?_
 simp   -- R1
 apply hk'
 refine Runs.seqE Ty_ok (by decide) fun k' hk'=>?_
 simp   -- R2
 apply hk'
 refine Runs.seqE Ty_ok (by decide) fun k' hk'=>?_
 simp   -- R3
 apply hk'
 refine Runs.seqE Ty_ok (by decide) fun k' hk'=>?_
 simp   -- R4
 refine RunK.callA Ty_ok (toIntS_ok x.links hl) e37 (.cons (ArgOk.encI false x.links) .nil) (by decide) (by decide) rfl (by simp[encN,encI,encS,encW]) ?_
 rintro _ rfl
 simp
 apply hk'
 refine Runs.seqE Ty_ok (by decide) fun k' hk'=>?_
 simp   -- R5
 apply hk'
 exact Runs.ret Tryz.func87 (RetOk.cell (cs:=GNode.cells true x) (v:=.agg (GNode.cells true x)) Ty_ok Tryz.results87 Ty_108 (by simp[GNode.cells,encN,encI,encS,encW]) (by simp[loadA,GNode.cells])) (hQ _ _ _ _ (.of (Ret.fresh (by simp[GNode.cells,encN,encI,encS,encW,GNode.cells,intC,strC,Wire.cells]))) rfl)
theorem e39:Ent Tryz.prog 39:=Ent.of Tryz.func39 (by kernel_rfl) rfl
theorem toWireS_ok (p:List (Wire)) (hp:p.length≤1048576):PureC Tryz.prog 39 [.list false (p.map Wire.cells)] (fun r=>r = .list true (p.map Wire.cells)):=by
 refine PureC.of Tryz.func39 rfl Tryz.ntmps39 (by simp) fun Q hQ=>?_
 refine Runs.seqE Ty_ok (by decide) fun k' hk'=>?_
 simp   -- R0
 apply hk'
 refine Runs.seqE Ty_ok (by decide) fun k' hk'=>?_
 simp [show (p.length : Int) ≤ 1073741824 by omega]   -- R1
 apply hk'
 refine Runs.seq ?_
 refine Runs.seqE Ty_ok (by decide) fun k' hk'=>?_
 simp   -- R2
 apply hk'
 refine Runs.block (Runs.loopUp p.length (fun k ρ H n=>ρ 0 = .list false (p.map Wire.cells)∧ρ 4=int k∧ρ 3 = .arr (0,7) p.length 0 p.length∧H (0,7)=some ⟨2,part Wire.cells [str [],int 0] p k⟩) ?_ ?_)
 ·simp[Wire.cells,part_zero]
 ·rintro k ρ H n hk ⟨h0,h4,h3,hH⟩ IH
  refine Runs.seq ?_
  refine Runs.seqE Ty_ok (by decide) fun k' hk'=>?_
  simp [h0, h4]   -- R3
  apply hk'
  refine Runs.ite rfl (fun hc1=>?_) (fun hc1=>?_)
  ·simp at hc1
   refine Runs.skip ?_
   refine Runs.seq ?_
   refine Runs.block ?_
   refine Runs.evalE Ty_ok (by decide) fun k' hk'=>?_
   simp [h0, h3, h4, hH, hc1, part_len hk, part_get hc1, Wire.cells]   -- R5
   refine RunK.callA Ty_ok (toWire_ok p[k]) e88 (.cons (ArgOk.wireB _) .nil) (by decide) (by decide) rfl (by simp[Wire.cells]) ?_
   rintro _ rfl
   simp[h3,h4,hH,hc1,part_len hk,part_get hc1,Wire.cells]
   apply hk'
   refine Runs.inBlock ?_
   refine Runs.evalE Ty_ok (by decide) fun k' hk'=>?_
   simp [h4, wrap_succ (show k < 4611686018427387904 by omega)]   -- R4
   apply hk'
   refine IH hc1 _ _ _ ?_
   rw[← part_set hc1]
   simp[h0,h3,Wire.cells,part_get' hc1]
  ·simp at hc1
   have hke:k=p.length:=by omega
   subst hke
   rw[part_end] at hH
   refine Runs.exit rfl ?_
   refine Runs.seqE Ty_ok (by decide) fun k' hk'=>?_
   simp [h3]   -- R6
   apply hk'
   exact Runs.ret Tryz.func39 (RetOk.one Tryz.results39) (hQ _ _ _ _ (.of (Ret.arrF (by simp[hH];rfl) (by simp[Wire.cells,intC]))) rfl)
theorem e10:Ent Tryz.prog 10:=Ent.of Tryz.func10 (by kernel_rfl) rfl
theorem toControlS_ok (p:List (Control)) (hp:p.length≤1048576):PureC Tryz.prog 10 [.list false (p.map Control.cells)] (fun r=>r = .list true (p.map Control.cells)):=by
 refine PureC.of Tryz.func10 rfl Tryz.ntmps10 (by simp) fun Q hQ=>?_
 refine Runs.seqE Ty_ok (by decide) fun k' hk'=>?_
 simp   -- R0
 apply hk'
 refine Runs.seqE Ty_ok (by decide) fun k' hk'=>?_
 simp [show (p.length : Int) ≤ 1073741824 by omega]   -- R1
 apply hk'
 refine Runs.seq ?_
 refine Runs.seqE Ty_ok (by decide) fun k' hk'=>?_
 simp   -- R2
 apply hk'
 refine Runs.block (Runs.loopUp p.length (fun k ρ H n=>ρ 0 = .list false (p.map Control.cells)∧ρ 4=int k∧ρ 3 = .arr (0,7) p.length 0 p.length∧H (0,7)=some ⟨3,part Control.cells [str [],int 0,int 0] p k⟩) ?_ ?_)
 ·simp[Control.cells,part_zero]
 ·rintro k ρ H n hk ⟨h0,h4,h3,hH⟩ IH
  refine Runs.seq ?_
  refine Runs.seqE Ty_ok (by decide) fun k' hk'=>?_
  simp [h0, h4]   -- R3
  apply hk'
  refine Runs.ite rfl (fun hc1=>?_) (fun hc1=>?_)
  ·simp at hc1
   refine Runs.skip ?_
   refine Runs.seq ?_
   refine Runs.block ?_
   refine Runs.evalE Ty_ok (by decide) fun k' hk'=>?_
   simp [h0, h3, h4, hH, hc1, part_len hk, part_get hc1, Control.cells]   -- R5
   refine RunK.callA Ty_ok (toControl_ok p[k]) e35 (.cons (ArgOk.ctlB _) .nil) (by decide) (by decide) rfl (by simp[Control.cells]) ?_
   rintro _ rfl
   simp[h3,h4,hH,hc1,part_len hk,part_get hc1,Control.cells]
   apply hk'
   refine Runs.inBlock ?_
   refine Runs.evalE Ty_ok (by decide) fun k' hk'=>?_
   simp [h4, wrap_succ (show k < 4611686018427387904 by omega)]   -- R4
   apply hk'
   refine IH hc1 _ _ _ ?_
   rw[← part_set hc1]
   simp[h0,h3,Control.cells,part_get' hc1]
  ·simp at hc1
   have hke:k=p.length:=by omega
   subst hke
   rw[part_end] at hH
   refine Runs.exit rfl ?_
   refine Runs.seqE Ty_ok (by decide) fun k' hk'=>?_
   simp [h3]   -- R6
   apply hk'
   exact Runs.ret Tryz.func10 (RetOk.one Tryz.results10) (hQ _ _ _ _ (.of (Ret.arrF (by simp[hH];rfl) (by simp[Control.cells,intC]))) rfl)
theorem e36:Ent Tryz.prog 36:=Ent.of Tryz.func36 (by kernel_rfl) rfl
theorem toNodeS_ok (p:List (GNode)) (hp:p.length≤1048576) (hl:∀ x ∈ p,x.links.length≤1048576):PureC Tryz.prog 36 [.list false (p.map (GNode.cells false))] (fun r=>r = .list true (p.map (GNode.cells true))):=by
 refine PureC.of Tryz.func36 rfl Tryz.ntmps36 (by simp) fun Q hQ=>?_
 refine Runs.seqE Ty_ok (by decide) fun k' hk'=>?_
 simp   -- R0
 apply hk'
 refine Runs.seqE Ty_ok (by decide) fun k' hk'=>?_
 simp [show (p.length : Int) ≤ 1073741824 by omega]   -- R1
 apply hk'
 refine Runs.seq ?_
 refine Runs.seqE Ty_ok (by decide) fun k' hk'=>?_
 simp   -- R2
 apply hk'
 refine Runs.block (Runs.loopUp p.length (fun k ρ H n=>ρ 0 = .list false (p.map (GNode.cells false))∧ρ 4=int k∧ρ 3 = .arr (0,7) p.length 0 p.length∧H (0,7)=some ⟨3,part (GNode.cells true) [int 0,int 0,.v (.slice none 0 0)] p k⟩) ?_ ?_)
 ·simp[GNode.cells,part_zero]
 ·rintro k ρ H n hk ⟨h0,h4,h3,hH⟩ IH
  refine Runs.seq ?_
  refine Runs.seqE Ty_ok (by decide) fun k' hk'=>?_
  simp [h0, h4]   -- R3
  apply hk'
  refine Runs.ite rfl (fun hc1=>?_) (fun hc1=>?_)
  ·simp at hc1
   refine Runs.skip ?_
   refine Runs.seq ?_
   refine Runs.block ?_
   refine Runs.evalE Ty_ok (by decide) fun k' hk'=>?_
   simp [h0, h3, h4, hH, hc1, part_len hk, part_get hc1, GNode.cells]   -- R5
   refine RunK.callA Ty_ok (toNode_ok p[k] (hl _ (List.getElem_mem hc1))) e87 (.cons (ArgOk.nodeB false _) .nil) (by decide) (by decide) rfl (by simp[GNode.cells]) ?_
   rintro _ rfl
   simp[h3,h4,hH,hc1,part_len hk,part_get hc1,GNode.cells]
   apply hk'
   refine Runs.inBlock ?_
   refine Runs.evalE Ty_ok (by decide) fun k' hk'=>?_
   simp [h4, wrap_succ (show k < 4611686018427387904 by omega)]   -- R4
   apply hk'
   refine IH hc1 _ _ _ ?_
   rw[← part_set hc1]
   simp[h0,h3,GNode.cells,part_get' hc1]
  ·simp at hc1
   have hke:k=p.length:=by omega
   subst hke
   rw[part_end] at hH
   refine Runs.exit rfl ?_
   refine Runs.seqE Ty_ok (by decide) fun k' hk'=>?_
   simp [h3]   -- R6
   apply hk'
   exact Runs.ret Tryz.func36 (RetOk.one Tryz.results36) (hQ _ _ _ _ (.of (Ret.arrF (by simp[hH];rfl) (by simp[GNode.cells,intC]))) rfl)
theorem e11:Ent Tryz.prog 11:=Ent.of Tryz.func11 (by kernel_rfl) rfl
theorem toBigraph_ok (x:Big) (hb:x.nodes.length≤1048576∧(∀ z ∈ x.nodes,z.links.length≤1048576)∧x.sites.length≤1048576∧x.outer.length≤1048576∧x.inner.length≤1048576):PureC Tryz.prog 11 [.agg (Big.cells false x)] (fun r=>r = .agg (Big.cells true x)):=by
 refine PureC.of Tryz.func11 rfl Tryz.ntmps11 (by simp) fun Q hQ=>?_
 refine Runs.seqE Ty_ok (by decide) fun k' hk'=>?_
 simp [Big.cells, encN, encI, encS, encW]   -- R0
 apply hk'
 refine Runs.seqE Ty_ok (by decide) fun k' hk'=>?_
 simp   -- R1
 apply hk'
 refine Runs.seqE Ty_ok (by decide) fun k' hk'=>?_
 simp   -- R2
 apply hk'
 refine Runs.seqE Ty_ok (by decide) fun k' hk'=>?_
 simp   -- R3
 refine RunK.callA Ty_ok (toNodeS_ok x.nodes hb.1 hb.2.1) e36 (.cons (ArgOk.encN false x.nodes) .nil) (by decide) (by decide) rfl (by simp[encN,encI,encS,encW]) ?_
 rintro _ rfl
 simp
 apply hk'
 refine Runs.seqE Ty_ok (by decide) fun k' hk'=>?_
 simp   -- R4
 refine RunK.callA Ty_ok (toIntS_ok x.sites hb.2.2.1) e37 (.cons (ArgOk.encI false x.sites) .nil) (by decide) (by decide) rfl (by simp[encN,encI,encS,encW]) ?_
 rintro _ rfl
 simp
 apply hk'
 refine Runs.seqE Ty_ok (by decide) fun k' hk'=>?_
 simp   -- R5
 apply hk'
 refine Runs.seqE Ty_ok (by decide) fun k' hk'=>?_
 simp   -- R6
 refine RunK.callA Ty_ok (toStringS_ok x.outer hb.2.2.2.1) e38 (.cons (ArgOk.encS false x.outer) .nil) (by decide) (by decide) rfl (by simp[encN,encI,encS,encW]) ?_
 rintro _ rfl
 simp
 apply hk'
 refine Runs.seqE Ty_ok (by decide) fun k' hk'=>?_
 simp   -- R7
 refine RunK.callA Ty_ok (toWireS_ok x.inner hb.2.2.2.2) e39 (.cons (ArgOk.encW false x.inner) .nil) (by decide) (by decide) rfl (by simp[encN,encI,encS,encW]) ?_
 rintro _ rfl
 simp
 apply hk'
 refine Runs.seqE Ty_ok (by decide) fun k' hk'=>?_
 simp   -- R8
 apply hk'
 exact Runs.ret Tryz.func11 (RetOk.cell (cs:=Big.cells true x) (v:=.agg (Big.cells true x)) Ty_ok Tryz.results11 Ty_37 (by simp[Big.cells,encN,encI,encS,encW]) (by simp[loadA,Big.cells])) (hQ _ _ _ _ (.of (Ret.fresh (by simp[Big.cells,encN,encI,encS,encW,GNode.cells,intC,strC,Wire.cells]))) rfl)
end Go.Ab
/- Contracts of spec.l12Kids, spec.l12Word and spec.l12Around. -/
namespace Go.Ab
open Go.Proofs
set_option linter.unusedSimpArgs false
end Go.Ab
/- Contracts of spec.l12In and spec.ProcessText. -/
namespace Go.Ab
open Go.Proofs
set_option linter.unusedSimpArgs false
end Go.Ab
/- Contracts of laws.szAmbNode, laws.szAmbNodeS and laws.szProcess. -/
namespace Go.Ab
open Go.Proofs
set_option linter.unusedSimpArgs false
def szStr (s:Str) (left:Int):Int:=if left - s.length<0 then -1 else left - s.length
def Small (p:Proc):Prop:=p.length≤9223372036854775807∧∀ x ∈ p,x.name.length≤9223372036854775807
end Go.Ab
/- Contracts of the laws' sz.. functions of bigraphs. By program. -/
namespace Go.Ab
open Go.Proofs
set_option linter.unusedSimpArgs false
def szL {α:Type} (f:α→Int→Int):List α→Int→Int
 | [],left=>left
 | x::r,left=>if f x left<0 then -1 else szL f r (f x left)
def szS {α:Type} (f:α→Int→Int) (l:List α) (left:Int):Int:=if left - l.length<0 then -1 else szL f l (left - l.length)
def szI (l:List Int) (left:Int):Int:=if left - l.length<0 then -1 else left - l.length
def szC (x:Control) (left:Int):Int:=szStr x.name left
def szW (x:Wire) (left:Int):Int:=szStr x.name left
def szN (x:GNode) (left:Int):Int:=szI x.links left
class SzF {α:Type} (f:α→Int→Int):Prop where
 le:∀ x left,0≤left→f x left≤left
theorem f_le {α:Type} (f:α→Int→Int) [SzF f] (x:α) (left:Int) (h:0≤left):f x left≤left:=SzF.le x left h
instance:SzF szStr:=⟨fun x left h=>by unfold szStr;split<;>omega⟩
instance:SzF szI:=⟨fun x left h=>by unfold szI;split<;>omega⟩
instance:SzF szC:=⟨fun x left h=>by unfold szC szStr;split<;>omega⟩
instance:SzF szW:=⟨fun x left h=>by unfold szW szStr;split<;>omega⟩
instance:SzF szN:=⟨fun x left h=>by unfold szN szI;split<;>omega⟩
theorem e27:Ent Tryz.prog 27:=Ent.of Tryz.func27 (by kernel_rfl) rfl
theorem szControl_ok (x:Control) (left:Int) (h0:0≤left) (h1:left≤1048576) (hn:x.name.length≤9223372036854775807):PureC Tryz.prog 27 [.agg x.cells,int left] (fun r=>r=int (szC x left)):=by
 refine PureC.of Tryz.func27 rfl Tryz.ntmps27 (by simp) fun Q hQ=>?_
 refine Runs.seqE Ty_ok (by decide) fun k' hk'=>?_
 simp [Control.cells]   -- R0
 apply hk'
 refine Runs.seqE Ty_ok (by decide) fun k' hk'=>?_
 simp[show -9223372036854775808≤left - (x.name.length:Int) by omega,show left - (x.name.length:Int)≤9223372036854775807 by omega]
 apply hk'
 refine Runs.seq ?_
 refine Runs.seqE Ty_ok (by decide) fun k' hk'=>?_
 simp   -- R2
 apply hk'
 refine Runs.ite rfl (fun hc1=>?_) (fun hc1=>?_)
 ·simp only[decide_eq_true_eq] at hc1
  refine Runs.seqE Ty_ok (by decide) fun k' hk'=>?_
  simp   -- R3
  apply hk'
  refine Runs.ret Tryz.func27 (RetOk.one Tryz.results27) (hQ _ _ _ _ (.v _ _ _) ?_)
  rw[szC,szStr,if_pos hc1]
 ·simp only[decide_eq_false_iff_not] at hc1
  refine Runs.skip ?_
  refine Runs.seqE Ty_ok (by decide) fun k' hk'=>?_
  simp   -- R4
  apply hk'
  refine Runs.ret Tryz.func27 (RetOk.one Tryz.results27) (hQ _ _ _ _ (.v _ _ _) ?_)
  rw[szC,szStr,if_neg hc1]
theorem e74:Ent Tryz.prog 74:=Ent.of Tryz.func74 (by kernel_rfl) rfl
theorem szWire_ok (x:Wire) (left:Int) (h0:0≤left) (h1:left≤1048576) (hn:x.name.length≤9223372036854775807):PureC Tryz.prog 74 [.agg x.cells,int left] (fun r=>r=int (szW x left)):=by
 refine PureC.of Tryz.func74 rfl Tryz.ntmps74 (by simp) fun Q hQ=>?_
 refine Runs.seqE Ty_ok (by decide) fun k' hk'=>?_
 simp [Wire.cells]   -- R0
 apply hk'
 refine Runs.seqE Ty_ok (by decide) fun k' hk'=>?_
 simp[show -9223372036854775808≤left - (x.name.length:Int) by omega,show left - (x.name.length:Int)≤9223372036854775807 by omega]
 apply hk'
 refine Runs.seq ?_
 refine Runs.seqE Ty_ok (by decide) fun k' hk'=>?_
 simp   -- R2
 apply hk'
 refine Runs.ite rfl (fun hc1=>?_) (fun hc1=>?_)
 ·simp only[decide_eq_true_eq] at hc1
  refine Runs.seqE Ty_ok (by decide) fun k' hk'=>?_
  simp   -- R3
  apply hk'
  refine Runs.ret Tryz.func74 (RetOk.one Tryz.results74) (hQ _ _ _ _ (.v _ _ _) ?_)
  rw[szW,szStr,if_pos hc1]
 ·simp only[decide_eq_false_iff_not] at hc1
  refine Runs.skip ?_
  refine Runs.seqE Ty_ok (by decide) fun k' hk'=>?_
  simp   -- R4
  apply hk'
  refine Runs.ret Tryz.func74 (RetOk.one Tryz.results74) (hQ _ _ _ _ (.v _ _ _) ?_)
  rw[szW,szStr,if_neg hc1]
theorem e29:Ent Tryz.prog 29:=Ent.of Tryz.func29 (by kernel_rfl) rfl
theorem szIntS_ok (x:List Int) (left:Int) (h0:0≤left) (h1:left≤1048576) (hn:x.length≤9223372036854775807):PureC Tryz.prog 29 [encI false x,int left] (fun r=>r=int (szI x left)):=by
 refine PureC.of Tryz.func29 rfl Tryz.ntmps29 (by simp) fun Q hQ=>?_
 refine Runs.seqE Ty_ok (by decide) fun k' hk'=>?_
 simp [encI]   -- R0
 apply hk'
 refine Runs.seqE Ty_ok (by decide) fun k' hk'=>?_
 simp[show -9223372036854775808≤left - (x.length:Int) by omega,show left - (x.length:Int)≤9223372036854775807 by omega]
 apply hk'
 refine Runs.seq ?_
 refine Runs.seqE Ty_ok (by decide) fun k' hk'=>?_
 simp   -- R2
 apply hk'
 refine Runs.ite rfl (fun hc1=>?_) (fun hc1=>?_)
 ·simp only[decide_eq_true_eq] at hc1
  refine Runs.seqE Ty_ok (by decide) fun k' hk'=>?_
  simp   -- R3
  apply hk'
  refine Runs.ret Tryz.func29 (RetOk.one Tryz.results29) (hQ _ _ _ _ (.v _ _ _) ?_)
  rw[szI,if_pos hc1]
 ·simp only[decide_eq_false_iff_not] at hc1
  refine Runs.skip ?_
  refine Runs.seqE Ty_ok (by decide) fun k' hk'=>?_
  simp   -- R4
  apply hk'
  refine Runs.ret Tryz.func29 (RetOk.one Tryz.results29) (hQ _ _ _ _ (.v _ _ _) ?_)
  rw[szI,if_neg hc1]
theorem e73:Ent Tryz.prog 73:=Ent.of Tryz.func73 (by kernel_rfl) rfl
theorem szNode_ok (x:GNode) (left:Int) (h0:0≤left) (h1:left≤1048576) (hn:x.links.length≤9223372036854775807):PureC Tryz.prog 73 [.agg (x.cells false),int left] (fun r=>r=int (szN x left)):=by
 refine PureC.of Tryz.func73 rfl Tryz.ntmps73 (by simp) fun Q hQ=>?_
 refine Runs.seqE Ty_ok (by decide) fun k' hk'=>?_
 simp [GNode.cells]   -- R0
 apply hk'
 refine Runs.seqE Ty_ok (by decide) fun k' hk'=>?_
 simp
 refine RunK.callA Ty_ok (szIntS_ok x.links left h0 h1 hn) e29 (.cons (ArgOk.encI false x.links) (.cons (.v _ _ _) .nil)) (by decide) (by decide) rfl (by simp[encI]) ?_
 rintro _ rfl
 simp
 apply hk'
 refine Runs.seq ?_
 refine Runs.seqE Ty_ok (by decide) fun k' hk'=>?_
 simp   -- R2
 apply hk'
 refine Runs.ite rfl (fun hc1=>?_) (fun hc1=>?_)
 ·simp only[decide_eq_true_eq] at hc1
  refine Runs.seqE Ty_ok (by decide) fun k' hk'=>?_
  simp   -- R3
  apply hk'
  refine Runs.ret Tryz.func73 (RetOk.one Tryz.results73) (hQ _ _ _ _ (.v _ _ _) ?_)
  simp only[Env.put]
  have:szI x.links left = -1:=by
   unfold szI at hc1 ⊢
   split<;>rename_i h
   ·rfl
   ·rw[if_neg h] at hc1;omega
  simp[szN,this]
 ·simp only[decide_eq_false_iff_not] at hc1
  refine Runs.skip ?_
  refine Runs.seqE Ty_ok (by decide) fun k' hk'=>?_
  simp   -- R4
  apply hk'
  refine Runs.ret Tryz.func73 (RetOk.one Tryz.results73) (hQ _ _ _ _ (.v _ _ _) ?_)
  rfl
theorem e7:Ent Tryz.prog 7:=Ent.of Tryz.func7 (by kernel_rfl) rfl
theorem szControlS_ok (p:List (Control)) (left:Int) (h0:0≤left) (h1:left≤1048576) (hp1:p.length≤9223372036854775807) (hp2:∀ x ∈ p,x.name.length≤9223372036854775807):PureC Tryz.prog 7 [.list false (p.map Control.cells),int left] (fun r=>r=int (szS szC p left)):=by
 refine PureC.of Tryz.func7 rfl Tryz.ntmps7 (by simp) fun Q hQ=>?_
 refine Runs.seqE Ty_ok (by decide) fun k' hk'=>?_
 simp   -- R0
 apply hk'
 refine Runs.seqE Ty_ok (by decide) fun k' hk'=>?_
 simp [show -9223372036854775808 ≤ left - p.length by omega, show left - p.length ≤ 9223372036854775807 by omega]   -- R1
 apply hk'
 refine Runs.seq ?_
 refine Runs.seqE Ty_ok (by decide) fun k' hk'=>?_
 simp   -- R2
 apply hk'
 refine Runs.ite rfl (fun hc1=>?_) (fun hc1=>?_)
 ·simp only[decide_eq_true_eq] at hc1
  refine Runs.seqE Ty_ok (by decide) fun k' hk'=>?_
  simp   -- R3
  apply hk'
  refine Runs.ret Tryz.func7 (RetOk.one Tryz.results7) (hQ _ _ _ _ (.v _ _ _) ?_)
  rw[szS,if_pos hc1]
 ·simp only[decide_eq_false_iff_not] at hc1
  refine Runs.skip ?_
  refine Runs.seq ?_
  refine Runs.seqE Ty_ok (by decide) fun k' hk'=>?_
  simp   -- R4
  apply hk'
  refine Runs.block (Runs.loopUp p.length (fun k ρ H n=>ρ 0 = .list false (p.map Control.cells)∧ρ 5=int k∧∃ cur:Int,ρ 1=int cur∧0≤cur∧cur≤left∧szL szC (p.drop k) cur=szS szC p left) ?_ ?_)
  ·refine⟨by simp,by simp,left - p.length,by simp,by omega,by omega,?_⟩
   rw[szS,if_neg hc1,List.drop_zero]
  ·rintro k ρ H n hk ⟨h0,h5,cur,h1',hcur,hcl,hsz⟩ IH
   refine Runs.seq ?_
   refine Runs.seqE Ty_ok (by decide) fun k' hk'=>?_
   simp [h0, h5]   -- R5
   apply hk'
   refine Runs.ite rfl (fun hc2=>?_) (fun hc2=>?_)
   ·simp at hc2
    have hel:=hp2 _ (List.getElem_mem hc2)
    refine Runs.skip ?_
    refine Runs.seq ?_
    refine Runs.block ?_
    refine Runs.seqE Ty_ok (by decide) fun k' hk'=>?_
    simp [h0, h5, h1', hc2, Control.cells]   -- R7
    refine RunK.callA Ty_ok (szControl_ok p[k] cur hcur (by omega) hel) e27 (.cons (ArgOk.ctlB _) (.cons (.v _ _ _) .nil)) (by decide) (by decide) rfl (by simp[Control.cells,h1']) ?_
    rintro _ rfl
    simp
    apply hk'
    rw[List.drop_eq_getElem_cons hc2,szL] at hsz
    refine Runs.seqE Ty_ok (by decide) fun k' hk'=>?_
    simp   -- R8
    apply hk'
    refine Runs.ite rfl (fun hc3=>?_) (fun hc3=>?_)
    ·simp only[decide_eq_true_eq] at hc3
     refine Runs.seqE Ty_ok (by decide) fun k' hk'=>?_
     simp   -- R9
     apply hk'
     refine Runs.ret Tryz.func7 (RetOk.one Tryz.results7) (hQ _ _ _ _ (.v _ _ _) ?_)
     rw[← hsz]
     rw[if_pos hc3]
    ·simp only[decide_eq_false_iff_not] at hc3
     refine Runs.skip ?_
     refine Runs.inBlock ?_
     refine Runs.evalE Ty_ok (by decide) fun k' hk'=>?_
     simp [h5, wrap_succ (show k < 4611686018427387904 by omega)]   -- R6
     apply hk'
     refine IH hc2 _ _ _ ?_
     have hle:=f_le szC p[k] cur hcur
     rw[if_neg hc3] at hsz
     exact⟨by simp[h0,Control.cells],by simp,szC p[k] cur,by simp,by omega,by omega,hsz⟩
   ·simp at hc2
    have hke:k=p.length:=by omega
    subst hke
    rw[List.drop_length,szL] at hsz
    refine Runs.exit rfl ?_
    refine Runs.seqE Ty_ok (by decide) fun k' hk'=>?_
    simp [h1']   -- R10
    apply hk'
    exact Runs.ret Tryz.func7 (RetOk.one Tryz.results7) (hQ _ _ _ _ (.v _ _ _) (by rw[hsz]))
theorem e31:Ent Tryz.prog 31:=Ent.of Tryz.func31 (by kernel_rfl) rfl
theorem szWireS_ok (p:List (Wire)) (left:Int) (h0:0≤left) (h1:left≤1048576) (hp1:p.length≤9223372036854775807) (hp2:∀ x ∈ p,x.name.length≤9223372036854775807):PureC Tryz.prog 31 [.list false (p.map Wire.cells),int left] (fun r=>r=int (szS szW p left)):=by
 refine PureC.of Tryz.func31 rfl Tryz.ntmps31 (by simp) fun Q hQ=>?_
 refine Runs.seqE Ty_ok (by decide) fun k' hk'=>?_
 simp   -- R0
 apply hk'
 refine Runs.seqE Ty_ok (by decide) fun k' hk'=>?_
 simp [show -9223372036854775808 ≤ left - p.length by omega, show left - p.length ≤ 9223372036854775807 by omega]   -- R1
 apply hk'
 refine Runs.seq ?_
 refine Runs.seqE Ty_ok (by decide) fun k' hk'=>?_
 simp   -- R2
 apply hk'
 refine Runs.ite rfl (fun hc1=>?_) (fun hc1=>?_)
 ·simp only[decide_eq_true_eq] at hc1
  refine Runs.seqE Ty_ok (by decide) fun k' hk'=>?_
  simp   -- R3
  apply hk'
  refine Runs.ret Tryz.func31 (RetOk.one Tryz.results31) (hQ _ _ _ _ (.v _ _ _) ?_)
  rw[szS,if_pos hc1]
 ·simp only[decide_eq_false_iff_not] at hc1
  refine Runs.skip ?_
  refine Runs.seq ?_
  refine Runs.seqE Ty_ok (by decide) fun k' hk'=>?_
  simp   -- R4
  apply hk'
  refine Runs.block (Runs.loopUp p.length (fun k ρ H n=>ρ 0 = .list false (p.map Wire.cells)∧ρ 5=int k∧∃ cur:Int,ρ 1=int cur∧0≤cur∧cur≤left∧szL szW (p.drop k) cur=szS szW p left) ?_ ?_)
  ·refine⟨by simp,by simp,left - p.length,by simp,by omega,by omega,?_⟩
   rw[szS,if_neg hc1,List.drop_zero]
  ·rintro k ρ H n hk ⟨h0,h5,cur,h1',hcur,hcl,hsz⟩ IH
   refine Runs.seq ?_
   refine Runs.seqE Ty_ok (by decide) fun k' hk'=>?_
   simp [h0, h5]   -- R5
   apply hk'
   refine Runs.ite rfl (fun hc2=>?_) (fun hc2=>?_)
   ·simp at hc2
    have hel:=hp2 _ (List.getElem_mem hc2)
    refine Runs.skip ?_
    refine Runs.seq ?_
    refine Runs.block ?_
    refine Runs.seqE Ty_ok (by decide) fun k' hk'=>?_
    simp [h0, h5, h1', hc2, Wire.cells]   -- R7
    refine RunK.callA Ty_ok (szWire_ok p[k] cur hcur (by omega) hel) e74 (.cons (ArgOk.wireB _) (.cons (.v _ _ _) .nil)) (by decide) (by decide) rfl (by simp[Wire.cells,h1']) ?_
    rintro _ rfl
    simp
    apply hk'
    rw[List.drop_eq_getElem_cons hc2,szL] at hsz
    refine Runs.seqE Ty_ok (by decide) fun k' hk'=>?_
    simp   -- R8
    apply hk'
    refine Runs.ite rfl (fun hc3=>?_) (fun hc3=>?_)
    ·simp only[decide_eq_true_eq] at hc3
     refine Runs.seqE Ty_ok (by decide) fun k' hk'=>?_
     simp   -- R9
     apply hk'
     refine Runs.ret Tryz.func31 (RetOk.one Tryz.results31) (hQ _ _ _ _ (.v _ _ _) ?_)
     rw[← hsz]
     rw[if_pos hc3]
    ·simp only[decide_eq_false_iff_not] at hc3
     refine Runs.skip ?_
     refine Runs.inBlock ?_
     refine Runs.evalE Ty_ok (by decide) fun k' hk'=>?_
     simp [h5, wrap_succ (show k < 4611686018427387904 by omega)]   -- R6
     apply hk'
     refine IH hc2 _ _ _ ?_
     have hle:=f_le szW p[k] cur hcur
     rw[if_neg hc3] at hsz
     exact⟨by simp[h0,Wire.cells],by simp,szW p[k] cur,by simp,by omega,by omega,hsz⟩
   ·simp at hc2
    have hke:k=p.length:=by omega
    subst hke
    rw[List.drop_length,szL] at hsz
    refine Runs.exit rfl ?_
    refine Runs.seqE Ty_ok (by decide) fun k' hk'=>?_
    simp [h1']   -- R10
    apply hk'
    exact Runs.ret Tryz.func31 (RetOk.one Tryz.results31) (hQ _ _ _ _ (.v _ _ _) (by rw[hsz]))
theorem e28:Ent Tryz.prog 28:=Ent.of Tryz.func28 (by kernel_rfl) rfl
theorem szNodeS_ok (p:List (GNode)) (left:Int) (h0:0≤left) (h1:left≤1048576) (hp1:p.length≤9223372036854775807) (hp2:∀ x ∈ p,x.links.length≤9223372036854775807):PureC Tryz.prog 28 [.list false (p.map (GNode.cells false)),int left] (fun r=>r=int (szS szN p left)):=by
 refine PureC.of Tryz.func28 rfl Tryz.ntmps28 (by simp) fun Q hQ=>?_
 refine Runs.seqE Ty_ok (by decide) fun k' hk'=>?_
 simp   -- R0
 apply hk'
 refine Runs.seqE Ty_ok (by decide) fun k' hk'=>?_
 simp [show -9223372036854775808 ≤ left - p.length by omega, show left - p.length ≤ 9223372036854775807 by omega]   -- R1
 apply hk'
 refine Runs.seq ?_
 refine Runs.seqE Ty_ok (by decide) fun k' hk'=>?_
 simp   -- R2
 apply hk'
 refine Runs.ite rfl (fun hc1=>?_) (fun hc1=>?_)
 ·simp only[decide_eq_true_eq] at hc1
  refine Runs.seqE Ty_ok (by decide) fun k' hk'=>?_
  simp   -- R3
  apply hk'
  refine Runs.ret Tryz.func28 (RetOk.one Tryz.results28) (hQ _ _ _ _ (.v _ _ _) ?_)
  rw[szS,if_pos hc1]
 ·simp only[decide_eq_false_iff_not] at hc1
  refine Runs.skip ?_
  refine Runs.seq ?_
  refine Runs.seqE Ty_ok (by decide) fun k' hk'=>?_
  simp   -- R4
  apply hk'
  refine Runs.block (Runs.loopUp p.length (fun k ρ H n=>ρ 0 = .list false (p.map (GNode.cells false))∧ρ 5=int k∧∃ cur:Int,ρ 1=int cur∧0≤cur∧cur≤left∧szL szN (p.drop k) cur=szS szN p left) ?_ ?_)
  ·refine⟨by simp,by simp,left - p.length,by simp,by omega,by omega,?_⟩
   rw[szS,if_neg hc1,List.drop_zero]
  ·rintro k ρ H n hk ⟨h0,h5,cur,h1',hcur,hcl,hsz⟩ IH
   refine Runs.seq ?_
   refine Runs.seqE Ty_ok (by decide) fun k' hk'=>?_
   simp [h0, h5]   -- R5
   apply hk'
   refine Runs.ite rfl (fun hc2=>?_) (fun hc2=>?_)
   ·simp at hc2
    have hel:=hp2 _ (List.getElem_mem hc2)
    refine Runs.skip ?_
    refine Runs.seq ?_
    refine Runs.block ?_
    refine Runs.seqE Ty_ok (by decide) fun k' hk'=>?_
    simp [h0, h5, h1', hc2, GNode.cells]   -- R7
    refine RunK.callA Ty_ok (szNode_ok p[k] cur hcur (by omega) hel) e73 (.cons (ArgOk.nodeB false _) (.cons (.v _ _ _) .nil)) (by decide) (by decide) rfl (by simp[GNode.cells,h1']) ?_
    rintro _ rfl
    simp
    apply hk'
    rw[List.drop_eq_getElem_cons hc2,szL] at hsz
    refine Runs.seqE Ty_ok (by decide) fun k' hk'=>?_
    simp   -- R8
    apply hk'
    refine Runs.ite rfl (fun hc3=>?_) (fun hc3=>?_)
    ·simp only[decide_eq_true_eq] at hc3
     refine Runs.seqE Ty_ok (by decide) fun k' hk'=>?_
     simp   -- R9
     apply hk'
     refine Runs.ret Tryz.func28 (RetOk.one Tryz.results28) (hQ _ _ _ _ (.v _ _ _) ?_)
     rw[← hsz]
     rw[if_pos hc3]
    ·simp only[decide_eq_false_iff_not] at hc3
     refine Runs.skip ?_
     refine Runs.inBlock ?_
     refine Runs.evalE Ty_ok (by decide) fun k' hk'=>?_
     simp [h5, wrap_succ (show k < 4611686018427387904 by omega)]   -- R6
     apply hk'
     refine IH hc2 _ _ _ ?_
     have hle:=f_le szN p[k] cur hcur
     rw[if_neg hc3] at hsz
     exact⟨by simp[h0,GNode.cells],by simp,szN p[k] cur,by simp,by omega,by omega,hsz⟩
   ·simp at hc2
    have hke:k=p.length:=by omega
    subst hke
    rw[List.drop_length,szL] at hsz
    refine Runs.exit rfl ?_
    refine Runs.seqE Ty_ok (by decide) fun k' hk'=>?_
    simp [h1']   -- R10
    apply hk'
    exact Runs.ret Tryz.func28 (RetOk.one Tryz.results28) (hQ _ _ _ _ (.v _ _ _) (by rw[hsz]))
theorem e30:Ent Tryz.prog 30:=Ent.of Tryz.func30 (by kernel_rfl) rfl
theorem szStringS_ok (p:List (Str)) (left:Int) (h0:0≤left) (h1:left≤1048576) (hp1:p.length≤9223372036854775807) (hp2:∀ x ∈ p,x.length≤9223372036854775807):PureC Tryz.prog 30 [.list false (p.map strC),int left] (fun r=>r=int (szS szStr p left)):=by
 refine PureC.of Tryz.func30 rfl Tryz.ntmps30 (by simp) fun Q hQ=>?_
 refine Runs.seqE Ty_ok (by decide) fun k' hk'=>?_
 simp   -- R0
 apply hk'
 refine Runs.seqE Ty_ok (by decide) fun k' hk'=>?_
 simp [show -9223372036854775808 ≤ left - p.length by omega, show left - p.length ≤ 9223372036854775807 by omega]   -- R1
 apply hk'
 refine Runs.seq ?_
 refine Runs.seqE Ty_ok (by decide) fun k' hk'=>?_
 simp   -- R2
 apply hk'
 refine Runs.ite rfl (fun hc1=>?_) (fun hc1=>?_)
 ·simp only[decide_eq_true_eq] at hc1
  refine Runs.seqE Ty_ok (by decide) fun k' hk'=>?_
  simp   -- R3
  apply hk'
  refine Runs.ret Tryz.func30 (RetOk.one Tryz.results30) (hQ _ _ _ _ (.v _ _ _) ?_)
  rw[szS,if_pos hc1]
 ·simp only[decide_eq_false_iff_not] at hc1
  refine Runs.skip ?_
  refine Runs.seq ?_
  refine Runs.seqE Ty_ok (by decide) fun k' hk'=>?_
  simp   -- R4
  apply hk'
  refine Runs.block (Runs.loopUp p.length (fun k ρ H n=>ρ 0 = .list false (p.map strC)∧ρ 5=int k∧∃ cur:Int,ρ 1=int cur∧0≤cur∧cur≤left∧szL szStr (p.drop k) cur=szS szStr p left) ?_ ?_)
  ·refine⟨by simp,by simp,left - p.length,by simp,by omega,by omega,?_⟩
   rw[szS,if_neg hc1,List.drop_zero]
  ·rintro k ρ H n hk ⟨h0,h5,cur,h1',hcur,hcl,hsz⟩ IH
   refine Runs.seq ?_
   refine Runs.seqE Ty_ok (by decide) fun k' hk'=>?_
   simp [h0, h5]   -- R5
   apply hk'
   refine Runs.ite rfl (fun hc2=>?_) (fun hc2=>?_)
   ·simp at hc2
    have hel:=hp2 _ (List.getElem_mem hc2)
    refine Runs.skip ?_
    refine Runs.seq ?_
    refine Runs.block ?_
    refine Runs.seqE Ty_ok (by decide) fun k' hk'=>?_
    simp [h0, h5, h1', hc2, strC, show -9223372036854775808 ≤ cur - (p[k].length : Int) by omega, show cur - (p[k].length : Int) ≤ 9223372036854775807 by omega]   -- R7
    apply hk'
    rw[List.drop_eq_getElem_cons hc2,szL] at hsz
    refine Runs.seqE Ty_ok (by decide) fun k' hk'=>?_
    simp   -- R8
    apply hk'
    refine Runs.ite rfl (fun hc3=>?_) (fun hc3=>?_)
    ·simp only[decide_eq_true_eq] at hc3
     refine Runs.seqE Ty_ok (by decide) fun k' hk'=>?_
     simp   -- R9
     apply hk'
     refine Runs.ret Tryz.func30 (RetOk.one Tryz.results30) (hQ _ _ _ _ (.v _ _ _) ?_)
     rw[← hsz]
     rw[if_pos (by unfold szStr;rw[if_pos hc3];omega)]
    ·simp only[decide_eq_false_iff_not] at hc3
     refine Runs.skip ?_
     refine Runs.inBlock ?_
     refine Runs.evalE Ty_ok (by decide) fun k' hk'=>?_
     simp [h5, wrap_succ (show k < 4611686018427387904 by omega)]   -- R6
     apply hk'
     refine IH hc2 _ _ _ ?_
     have hse:szStr p[k] cur=cur - p[k].length:=by unfold szStr;rw[if_neg hc3]
     rw[if_neg (by rw[hse];exact hc3),hse] at hsz
     exact⟨by simp[h0,strC],by simp,cur - p[k].length,by simp,by omega,by omega,hsz⟩
   ·simp at hc2
    have hke:k=p.length:=by omega
    subst hke
    rw[List.drop_length,szL] at hsz
    refine Runs.exit rfl ?_
    refine Runs.seqE Ty_ok (by decide) fun k' hk'=>?_
    simp [h1']   -- R10
    apply hk'
    exact Runs.ret Tryz.func30 (RetOk.one Tryz.results30) (hQ _ _ _ _ (.v _ _ _) (by rw[hsz]))
end Go.Ab
/- Contract of laws.szBigraph; what the sizes bound. -/
namespace Go.Ab
open Go.Proofs
set_option linter.unusedSimpArgs false
theorem e8:Ent Tryz.prog 8:=Ent.of Tryz.func8 (by kernel_rfl) rfl
def szB (b:Big) (left:Int):Int:=
 if szS szN b.nodes left<0 then -1 else if szI b.sites (szS szN b.nodes left)<0 then -1 else
 if szS szStr b.outer (szI b.sites (szS szN b.nodes left))<0 then -1 else
 if szS szW b.inner (szS szStr b.outer (szI b.sites (szS szN b.nodes left)))<0 then -1 else szS szW b.inner (szS szStr b.outer (szI b.sites (szS szN b.nodes left)))
structure HugeB (b:Big):Prop where
 nodes:b.nodes.length≤9223372036854775807
 links:∀ x ∈ b.nodes,x.links.length≤9223372036854775807
 sites:b.sites.length≤9223372036854775807
 outer:b.outer.length≤9223372036854775807
 names:∀ x ∈ b.outer,x.length≤9223372036854775807
 inner:b.inner.length≤9223372036854775807
 wnames:∀ x ∈ b.inner,x.name.length≤9223372036854775807
 parents:∀ x ∈ b.nodes,I64 x.parent
 sites64:∀ p ∈ b.sites,I64 p
theorem szL_le {α:Type} (f:α→Int→Int) [SzF f]:∀ (l:List α) (left:Int),0≤left→szL f l left≤left
 | [],_,_=>Int.le_refl _
 | x::r,left,h=>by
  rw[szL]
  have:=f_le f x left h
  split
  ·omega
  ·have:=szL_le f r (f x left) (by omega)
   omega
theorem szS_le {α:Type} (f:α→Int→Int) [SzF f] (l:List α) (left:Int) (h:0≤left):szS f l left≤left:=by
 unfold szS
 split
 ·omega
 ·have:=szL_le f l (left - l.length) (by omega)
  omega
theorem szL_mem {α:Type} (f:α→Int→Int) [SzF f]:∀ (l:List α) (left:Int),0≤left→0≤szL f l left→∀ x ∈ l,∃ c,0≤c∧c≤left∧0≤f x c
 | [],_,_,_,x,hx=>by cases hx
 | y::r,left,h,h2,x,hx=>by
  rw[szL] at h2
  have hle:=f_le f y left h
  split at h2
  ·omega
  ·rcases List.mem_cons.1 hx with rfl | hx
   ·exact⟨left,h,Int.le_refl _,by omega⟩
   ·obtain⟨c,h3,h4,h5⟩:=szL_mem f r (f y left) (by omega) h2 x hx
    exact⟨c,h3,by omega,h5⟩
theorem szS_mem {α:Type} (f:α→Int→Int) [SzF f] (l:List α) (left:Int) (h:0≤left) (h2:0≤szS f l left):(l.length:Int)≤left∧∀ x ∈ l,∃ c,0≤c∧c≤left∧0≤f x c:=by
 unfold szS at h2
 split at h2
 ·omega
 ·refine⟨by omega,fun x hx=>?_⟩
  obtain⟨c,h3,h4,h5⟩:=szL_mem f l _ (by omega) h2 x hx
  exact⟨c,h3,by omega,h5⟩
theorem szStr_len {s:Str} {c:Int} (h:0≤szStr s c):(s.length:Int)≤c:=by
 unfold szStr at h
 split at h<;>omega
theorem szI_len {s:List Int} {c:Int} (h:0≤szI s c):(s.length:Int)≤c:=by
 unfold szI at h
 split at h<;>omega
theorem szBigraph_ok (b:Big) (left:Int) (h0:0≤left) (h1:left≤1048576) (hb:HugeB b):PureC Tryz.prog 8 [encB false b,int left] (fun r=>r=int (szB b left)):=by
 have le1:=szS_le szN b.nodes left h0
 refine PureC.of Tryz.func8 rfl Tryz.ntmps8 (by simp) fun Q hQ=>?_
 refine Runs.seqE Ty_ok (by decide) fun k' hk'=>?_
 simp [encB, Big.cells, encN, encI, encS, encW]   -- R0
 apply hk'
 refine Runs.seqE Ty_ok (by decide) fun k' hk'=>?_
 simp
 refine RunK.callA Ty_ok (szNodeS_ok b.nodes left h0 h1 hb.nodes hb.links) e28 (.cons (ArgOk.encN false b.nodes) (.cons (.v _ _ _) .nil)) (by decide) (by decide) rfl (by simp[encN,encI,encS,encW]) ?_
 rintro _ rfl
 simp
 apply hk'
 refine Runs.seq ?_
 refine Runs.seqE Ty_ok (by decide) fun k' hk'=>?_
 simp
 apply hk'
 refine Runs.ite rfl (fun hc=>?_) (fun hd0=>?_)
 ·simp only[decide_eq_true_eq] at hc
  refine Runs.seqE Ty_ok (by decide) fun k' hk'=>?_
  simp
  apply hk'
  exact Runs.ret Tryz.func8 (RetOk.one Tryz.results8) (hQ _ _ _ _ (.v _ _ _) (by rw[szB,if_pos hc]))
 simp only[decide_eq_false_iff_not] at hd0
 have le2:=f_le szI b.sites (szS szN b.nodes left) (by omega)
 refine Runs.skip ?_
 refine Runs.seqE Ty_ok (by decide) fun k' hk'=>?_
 simp
 refine RunK.callA Ty_ok (szIntS_ok b.sites (szS szN b.nodes left) (by omega) (by omega) hb.sites) e29 (.cons (ArgOk.encI false b.sites) (.cons (.v _ _ _) .nil)) (by decide) (by decide) rfl (by simp[encN,encI,encS,encW]) ?_
 rintro _ rfl
 simp
 apply hk'
 refine Runs.seq ?_
 refine Runs.seqE Ty_ok (by decide) fun k' hk'=>?_
 simp
 apply hk'
 refine Runs.ite rfl (fun hc=>?_) (fun hd1=>?_)
 ·simp only[decide_eq_true_eq] at hc
  refine Runs.seqE Ty_ok (by decide) fun k' hk'=>?_
  simp
  apply hk'
  exact Runs.ret Tryz.func8 (RetOk.one Tryz.results8) (hQ _ _ _ _ (.v _ _ _) (by rw[szB,if_neg hd0,if_pos hc]))
 simp only[decide_eq_false_iff_not] at hd1
 have le3:=szS_le szStr b.outer (szI b.sites (szS szN b.nodes left)) (by omega)
 refine Runs.skip ?_
 refine Runs.seqE Ty_ok (by decide) fun k' hk'=>?_
 simp
 refine RunK.callA Ty_ok (szStringS_ok b.outer (szI b.sites (szS szN b.nodes left)) (by omega) (by omega) hb.outer hb.names) e30 (.cons (ArgOk.encS false b.outer) (.cons (.v _ _ _) .nil)) (by decide) (by decide) rfl (by simp[encN,encI,encS,encW]) ?_
 rintro _ rfl
 simp
 apply hk'
 refine Runs.seq ?_
 refine Runs.seqE Ty_ok (by decide) fun k' hk'=>?_
 simp
 apply hk'
 refine Runs.ite rfl (fun hc=>?_) (fun hd2=>?_)
 ·simp only[decide_eq_true_eq] at hc
  refine Runs.seqE Ty_ok (by decide) fun k' hk'=>?_
  simp
  apply hk'
  exact Runs.ret Tryz.func8 (RetOk.one Tryz.results8) (hQ _ _ _ _ (.v _ _ _) (by rw[szB,if_neg hd0,if_neg hd1,if_pos hc]))
 simp only[decide_eq_false_iff_not] at hd2
 refine Runs.skip ?_
 refine Runs.seqE Ty_ok (by decide) fun k' hk'=>?_
 simp
 refine RunK.callA Ty_ok (szWireS_ok b.inner (szS szStr b.outer (szI b.sites (szS szN b.nodes left))) (by omega) (by omega) hb.inner hb.wnames) e31 (.cons (ArgOk.encW false b.inner) (.cons (.v _ _ _) .nil)) (by decide) (by decide) rfl (by simp[encN,encI,encS,encW]) ?_
 rintro _ rfl
 simp
 apply hk'
 refine Runs.seq ?_
 refine Runs.seqE Ty_ok (by decide) fun k' hk'=>?_
 simp
 apply hk'
 refine Runs.ite rfl (fun hc=>?_) (fun hd3=>?_)
 ·simp only[decide_eq_true_eq] at hc
  refine Runs.seqE Ty_ok (by decide) fun k' hk'=>?_
  simp
  apply hk'
  exact Runs.ret Tryz.func8 (RetOk.one Tryz.results8) (hQ _ _ _ _ (.v _ _ _) (by rw[szB,if_neg hd0,if_neg hd1,if_neg hd2,if_pos hc]))
 simp only[decide_eq_false_iff_not] at hd3
 refine Runs.skip ?_
 refine Runs.seqE Ty_ok (by decide) fun k' hk'=>?_
 simp
 apply hk'
 exact Runs.ret Tryz.func8 (RetOk.one Tryz.results8) (hQ _ _ _ _ (.v _ _ _) (by rw[szB,if_neg hd0,if_neg hd1,if_neg hd2,if_neg hd3]))
theorem smallB {sig:Sig} {b:Big} {left:Int} (h0:0≤left) (h1:left≤1048576) (hs:0≤szS szC sig left) (hb:0≤szB b (szS szC sig left)) (hh:HugeB b):SmallB sig b:=by
 have hle:=szS_le szC sig left h0
 obtain⟨a1,a2⟩:=szS_mem szC sig left h0 hs
 generalize szS szC sig left=l0 at *
 unfold szB at hb
 split at hb
 ·omega
 split at hb
 ·omega
 split at hb
 ·omega
 split at hb
 ·omega
 rename_i n1 n2 n3 n4
 have le1:=szS_le szN b.nodes l0 hs
 obtain⟨b1,b2⟩:=szS_mem szN b.nodes l0 hs (by omega)
 generalize szS szN b.nodes l0=l1 at *
 have le2:=f_le szI b.sites l1 (by omega)
 have c1:=szI_len (s:=b.sites) (c:=l1) (by omega)
 generalize szI b.sites l1=l2 at *
 have le3:=szS_le szStr b.outer l2 (by omega)
 obtain⟨d1,d2⟩:=szS_mem szStr b.outer l2 (by omega) (by omega)
 generalize szS szStr b.outer l2=l3 at *
 obtain⟨f1,f2⟩:=szS_mem szW b.inner l3 (by omega) (by omega)
 refine⟨by omega,fun c hc=>?_,by omega,by omega,by omega,by omega,fun s hs=>?_,fun w hw=>?_,fun x hx=>?_,hh.parents,hh.sites64⟩
 ·obtain⟨q,_,q2,q3⟩:=a2 c hc
  have:=szStr_len q3
  omega
 ·obtain⟨q,_,q2,q3⟩:=d2 s hs
  have:=szStr_len q3
  omega
 ·obtain⟨q,_,q2,q3⟩:=f2 w hw
  have:=szStr_len q3
  omega
 ·obtain⟨q,_,q2,q3⟩:=b2 x hx
  have:=szI_len q3
  omega
end Go.Ab
/- The contract of laws.FnExactCommonPlace: it answers true. -/
namespace Go.Ab
open Go.Proofs
set_option linter.unusedSimpArgs false
structure HugeS (sig:Sig):Prop where
 len:sig.length≤9223372036854775807
 names:∀ c ∈ sig,c.name.length≤9223372036854775807
end Go.Ab
