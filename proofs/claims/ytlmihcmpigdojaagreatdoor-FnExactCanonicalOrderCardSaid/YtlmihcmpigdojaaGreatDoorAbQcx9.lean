/- Merged texts (9 of 14) of the proof that ends in Cxy: Mb Mc Uj Uk Lm Nm Gm Gn Go Wb Wc Y Gp Gq Gr. -/
import Derived.Test.YtlmihcmpigdojaaGreatDoorAbQcx8
import Derived.Laws.BytesString
/- Matches: pure conditions of the functions of program and reference. -/
namespace Go.Ab.Vg
set_option linter.unusedSimpArgs false
set_option linter.unusedVariables false
def hasI (l:List Int) (x:Int):Bool:=l.any fun y=>x == y
def underF (b:Big) (nodes:List Int):Nat→Int→Bool
 | 0,_=>false
 | m+1,p=>if p<0 then false else if p ∈ nodes then true else underF b nodes m (at' b.nodes p).parent
def underB (b:Big) (nodes:List Int) (p:Int):Bool:=underF b nodes (p+1).toNat p
def imgAt (agent:Big) (nodes:List Int) (p:Int × Int):Int:=at' (at' agent.nodes (at' nodes p.1)).links p.2
def firstOf (agent:Big) (nodes:List Int) (l:List (Int × Int)):Int:=match l with | [] => -1 | p::_=>imgAt agent nodes p
abbrev firstL (redex agent:Big) (nodes:List Int) (l:Int):Int:=firstOf agent nodes (portsB redex l)
def LinkOk (redex agent:Big) (nodes:List Int) (l:Int):Prop:=(∀ p ∈ portsB redex l,imgAt agent nodes p=firstL redex agent nodes l)∧(l<redex.edges→firstL redex agent nodes l<agent.edges∧(portsB agent (firstL redex agent nodes l)).length=(portsB redex l).length)
def LinksP (redex agent:Big) (nodes:List Int):Prop:=∀ l:Int,0≤l→l<redex.edges+redex.outer.length→LinkOk redex agent nodes l
def parentImg (redex:Big) (m:Match) (k:Int):Int:=if 0≤(at' redex.nodes k).parent then at' m.nodes (at' redex.nodes k).parent else at' m.roots (-1 - (at' redex.nodes k).parent)
def ImgOk (redex agent:Big) (m:Match) (k:Int):Prop:=
 (at' agent.nodes (at' m.nodes k)).control=(at' redex.nodes k).control∧(at' agent.nodes (at' m.nodes k)).parent=parentImg redex m k∧((holesB redex k).length=0→∀ c ∈ kidsB agent (at' m.nodes k),c ∈ m.nodes)
def NodesOk (redex agent:Big) (nodes:List Int):Prop:=nodes.length=redex.nodes.length∧∀ i:Nat,i<nodes.length→isNodeB agent (at' nodes (i:Int))=true∧at' nodes (i:Int) ∉ nodes.take i
def RootsOk (redex agent:Big) (m:Match):Prop:=(m.roots.length:Int)=redex.roots∧∀ p ∈ m.roots,-agent.roots≤p∧p<agent.nodes.length∧underB agent m.nodes p=false
def MatchP (redex agent:Big) (m:Match):Prop:=NodesOk redex agent m.nodes∧RootsOk redex agent m∧(∀ k:Nat,k<redex.nodes.length→ImgOk redex agent m (k:Int))∧LinksP redex agent m.nodes
open Classical in
noncomputable def matchB (redex agent:Big) (m:Match):Bool:=decide (MatchP redex agent m)
end Go.Ab.Vg
/- Matches: pure conditions of the reference's functions. -/
namespace Go.Ab.Vg
set_option linter.unusedSimpArgs false
set_option linter.unusedVariables false
end Go.Ab.Vg
/- The conversion of bytes to a string; laws.markText. -/
namespace Go.Ab
set_option linter.unusedSimpArgs false
theorem bytes_fold:∀ (ns:List Int) (s:Array UInt8),ns.foldl (fun r n=>r.push (UInt8.ofNat n.toNat)) (ByteArray.mk s)=ByteArray.mk (s++(ns.map fun n=>UInt8.ofNat n.toNat).toArray)
 | [],s=>by simp
 | n::ns,s=>by
  have h:(ByteArray.mk s).push (UInt8.ofNat n.toNat)=ByteArray.mk (s.push (UInt8.ofNat n.toNat)):=rfl
  rw[List.foldl_cons,h,bytes_fold ns]
  congr 1
  simp
theorem step_convertBytes {P:Program} {N:Nat} {Ty:Types} (hT:TypesOk P Ty) {ρ:Env} {H:Heap} {n:Nat} {d:Option Tmp} {ty:TypeId} {pos:String} {af:Array Edge} {gu:Option (Nat × Bool)} {s t:TypeId} {x:Operand} {j:TI} {els:List (List AVal)} {ns:List Int}
  (hs:kd Ty s = .slice j) (hj:j.desc = .int .u8) (ht:kd Ty t = .string) (hx:srcOf H (ρ.ev x)=some els) (hn:els=ns.map fun n=>[.v (.int .u8 n)]) :
  OpSem P N ⟨d,.convert s t x,ty,pos,af,gu⟩ ρ H n fun v1 H1 n1=>v1=str (ns.map fun n=>UInt8.ofNat n.toNat)∧H1=H∧n1=n:=by
 refine OpSem.of_value fun c a hH hn' g r=>?_
 subst hH hn'
 obtain⟨i1,e,hi1,hd1,he⟩:=kd_slice hs
 obtain⟨i2,hi2,hd2⟩:=kd_string ht
 have d1:=(hT s i1 hi1).1
 rw[hd1] at d1
 have d2:=(hT t i2 hi2).1
 rw[hd2] at d2
 have d3:=(hT e j he).1
 rw[hj] at d3
 have hsrc:=srcOf_ok (sz:=1) g (r.ev x) hx (by subst hn;simp)
 refine⟨_,.string ⟨(ns.map fun n=>UInt8.ofNat n.toNat).toArray⟩,c,?_,⟨rfl,rfl,rfl⟩,.v _,g,Keeps.refl c⟩
 rcases hsrc with ⟨h1,h2⟩ | ⟨ad,cap,news,h1,h2,h3,h4⟩
 ·have h0:ns=[]:=by rw[h2] at hn;simpa using hn.symm
  subst h0
  have:=run_convert_bytes_string (P:=P) c.w s t e none 0 0 d1 d3 d2
  simp[execOp,h1,this,Conv.bytesToString,Sem.run_pure]
  rfl
 ·have hnews:news=ns.map (Value.int .u8):=by
   apply List.ext_getElem?
   intro q
   rcases Nat.lt_or_ge q ns.length with hq | hq
   ·have hel:els[q]?=some [.v (.int .u8 ns[q])]:=by rw[hn];simp[hq]
    obtain⟨_,h5⟩:=h4 q _ hel
    obtain⟨u,hu,hr⟩:=h5 0 _ rfl
    simp only[Nat.mul_one,Nat.add_zero] at hu
    rw[hu,hr.v_inv]
    simp[hq]
   ·rw[List.getElem?_eq_none (by rw[h2,hn];simpa using hq),List.getElem?_eq_none (by simpa using hq)]
  have hl:=run_loadCells_list (P:=P) c.w ad news h3
  have hlen:news.length=els.length:=by rw[h2,Nat.mul_one]
  rw[hlen,hnews] at hl
  have h5:=run_bytesToString c.w ad els.length cap ns hl
  have h6:=run_convert_bytes_string (P:=P) c.w s t e (some ad) els.length cap d1 d3 d2
  have h7:=bytes_fold ns #[]
  have h8:(ByteArray.empty:ByteArray)=ByteArray.mk #[]:=rfl
  simp[execOp,h1,h6,h5,h8,h7]
end Go.Ab
/- Contract of laws.markText. -/
namespace Go.Ab
open Go.Proofs
set_option linter.unusedSimpArgs false
def digs (k:Nat) (out:Str):Str:=if k=0 then out else digs (k / 10) (UInt8.ofNat (48+k % 10)::out)
 termination_by k
 decreasing_by omega
def markTextL (k:Nat):Str:=if k=0 then [109,48] else 109::digs k []
theorem wrap_u8 {a:Int} (h:0≤a) (h2:a<256):IntKind.u8.wrap a=a:=by
 unfold IntKind.wrap
 simp[IntKind.min,IntKind.max,IntKind.bits,IntKind.signed]
 omega
theorem e49:Ent Tryz.prog 49:=Ent.of Tryz.func49 (by kernel_rfl) rfl
set_option maxRecDepth 20000 in
theorem markText_ok (k:Nat) (hk:k≤1152921504606846976):PureC Tryz.prog 49 [int k] (fun r=>r=str (markTextL k)):=by
 refine PureC.of Tryz.func49 rfl Tryz.ntmps49 (by simp) fun Q hQ=>?_
 refine Runs.seqE Ty_ok (by decide) fun k' hk'=>?_
 simp   -- R0
 apply hk'
 refine Runs.seq ?_
 refine Runs.seqE Ty_ok (by decide) fun k' hk'=>?_
 simp   -- R1
 apply hk'
 refine Runs.ite rfl (fun hc1 => ?_) (fun hc1 => ?_)   -- t5
 ·simp at hc1
  refine Runs.seqE Ty_ok (by decide) fun k' hk'=>?_
  simp   -- R2
  apply hk'
  refine Runs.ret Tryz.func49 (RetOk.one Tryz.results49) (hQ _ _ _ _ (.v _ _ _) ?_)
  simp[markTextL,hc1]
 ·simp at hc1
  refine Runs.skip ?_
  refine Runs.seqE Ty_ok (by decide) fun k' hk'=>?_
  simp   -- R3
  apply hk'
  refine Runs.seq ?_
  refine Runs.block (Runs.loopM (fun m ρ H n=>ρ 0=int m∧∃ out:Str,ρ 3=str out∧out.length+m≤k∧digs m out=digs k []) k ?_ ?_)
  ·simp
  ·rintro m ρ H n ⟨h0,out,h3,hlen,hd⟩ IH
   refine Runs.seq ?_
   refine Runs.seqE Ty_ok (by decide) fun k' hk'=>?_
   simp [h0]   -- R4
   apply hk'
   refine Runs.ite rfl (fun hc2 => ?_) (fun hc2 => ?_)   -- t7
   ·simp at hc2
    refine Runs.skip ?_
    refine Runs.block ?_
    refine Runs.seqE Ty_ok (by decide) fun k' hk'=>?_
    obtain⟨g,hg⟩:∃ g:Nat,g=48+m % 10:=⟨_,rfl⟩
    obtain⟨q,hq'⟩:∃ q:Nat,q=m / 10:=⟨_,rfl⟩
    have hq:((m:Int).tdiv 10)=(q:Int):=by rw[Int.tdiv_eq_ediv_of_nonneg (by omega)];omega
    have hw:IntKind.i64.wrap (48+((m:Int).tmod 10))=(g:Int):=by
     rw[Int.tmod_eq_emod_of_nonneg (by omega),wrap64]<;>omega
    have hw2:IntKind.i64.wrap (q:Int)=(q:Int):=by rw[wrap64]<;>omega
    have hw3:IntKind.u8.wrap (g:Int)=(g:Int):=wrap_u8 (by omega) (by omega)
    simp [h0, h3, hw, hw3]   -- R5
    refine RunK.op Ty_ok (by decide) (by decide) rfl (step_convertBytes (ns:=[(g:Int)]) (els:=[[.v (.int .u8 g)]]) Ty_ok kd_113 (by kernel_rfl) kd_9 (by simp[srcOf]) rfl) ?_
    rintro v H' n' ⟨rfl,rfl,rfl⟩
    simp[h3,show 1+out.length<4611686018427387904 by omega]
    apply hk'
    refine Runs.evalE Ty_ok (by decide) fun k' hk'=>?_
    simp [h0, hq, hw2]   -- R6
    apply hk'
    refine Runs.inBlock ?_
    refine IH q _ _ _ (by omega) ⟨by simp,UInt8.ofNat g::out,by simp,by simp;omega,?_⟩
    rw[← hd,hg,hq']
    conv=>rhs;rw[digs,if_neg (by omega)]
   ·simp at hc2
    subst hc2
    rw[digs,if_pos rfl] at hd
    refine Runs.exit rfl ?_
    refine Runs.seqE Ty_ok (by decide) fun k' hk'=>?_
    simp [h3, show 1 + out.length < 4611686018427387904 by omega]   -- R7
    apply hk'
    refine Runs.ret Tryz.func49 (RetOk.one Tryz.results49) (hQ _ _ _ _ (.v _ _ _) ?_)
    simp[markTextL,hc1,hd,show ¬ k=0 by omega]
end Go.Ab
/- The laws' own functions on bigraphs' types: copies, marks, and whether marks are held. -/
namespace Go.Ab.Vg
set_option linter.unusedSimpArgs false
set_option linter.unusedVariables false
theorem list_fill {α:Type} [Inhabited α] {a:List α} {k:Nat} (hk:k<a.length):(a.take k++List.replicate (a.length - k) default).set k a[k]=a.take (k+1)++List.replicate (a.length - (k+1)) default:=by
 rw[List.set_append_right _ _ (by simp;omega)]
 rw[List.take_succ_eq_append_getElem hk,List.append_assoc]
 congr 1
 have h1:a.length - k=(a.length - (k+1))+1:=by omega
 have h2:k - (a.take k).length=0:=by simp;omega
 rw[h1,h2,List.replicate_succ]
 rfl
abbrev filled {α:Type} [Inhabited α] (a:List α) (k:Nat):List α:=a.take k++List.replicate (a.length - k) default
theorem filled_len {α:Type} [Inhabited α] {a:List α} {k:Nat} (hk:k≤a.length):(filled a k).length=a.length:=by simp[filled];omega
theorem filled_set {α:Type} [Inhabited α] {a:List α} {k:Nat} (hk:k<a.length):(filled a k).set k (at' a (k:Int))=filled a (k+1):=by rw[at_lt hk];exact list_fill hk
theorem filled_end {α:Type} [Inhabited α] (a:List α):filled a a.length=a:=by simp[filled]
theorem filled_zero {α:Type} [Inhabited α] (a:List α):filled a 0=List.replicate a.length default:=by simp[filled]
abbrev toIntS (a:List Int):=a
abbrev toIntS_pre (a:List Int):Prop:=a.length≤1048576
def toIntS_wp (a:List Int) (Z:(List Int)→Prop):Prop:=
 ∀ len2:Int,len2=(a.length:Int)→(0≤len2∧len2≤1073741824)∧∀ l5:List Int,l5=List.replicate len2.toNat default→loopW (σ:=Int × (List Int)) (fun (i16,l17) K21=>∀ len22:Int,len22=(a.length:Int)→∀ c24:Bool,c24=decide (i16<len22)→((c24=true→(0≤i16∧i16<a.length)∧∀ x27:Int,x27=at' a i16→(0≤i16∧i16<l17.length)∧∀ x34:Int,x34=at' l17 i16→∀ l37:List Int,l37=l17.set i16.toNat x27→(I64 (i16+1))∧∀ v44:Int,v44=i16+1→K21 (v44,l37))∧(c24=false→Z l17))) (0,l5)
theorem toIntS_vc (a:List Int) (h:toIntS_pre a):toIntS_wp a (fun y=>y=toIntS a):=by
 unfold toIntS_wp
 simp only[toIntS_pre] at h
 simp only[forall_eq,Int.toNat_natCast]
 refine⟨by omega,loopW.upL a.length (fun k out=>out=filled a k) _ (filled_zero a).symm ?_⟩
 rintro k out K hk rfl IH
 have hl:=filled_len hk
 simp only[decide_eq_true_eq,decide_eq_false_iff_not,I64,Int.toNat_natCast]
 refine⟨fun h1=>⟨by omega,by omega,by omega,IH (by omega) _ (filled_set (by omega))⟩,fun h1=>?_⟩
 rw[show k=a.length by omega]
 exact filled_end a
abbrev toStringS (a:List Str):=a
abbrev toStringS_pre (a:List Str):Prop:=a.length≤1048576
def toStringS_wp (a:List Str) (Z:(List Str)→Prop):Prop:=
 ∀ len2:Int,len2=(a.length:Int)→(0≤len2∧len2≤1073741824)∧∀ l5:List Str,l5=List.replicate len2.toNat default→loopW (σ:=Int × (List Str)) (fun (i16,l17) K21=>∀ len22:Int,len22=(a.length:Int)→∀ c24:Bool,c24=decide (i16<len22)→((c24=true→(0≤i16∧i16<a.length)∧∀ x27:Str,x27=at' a i16→(0≤i16∧i16<l17.length)∧∀ x34:Str,x34=at' l17 i16→∀ l37:List Str,l37=l17.set i16.toNat x27→(I64 (i16+1))∧∀ v44:Int,v44=i16+1→K21 (v44,l37))∧(c24=false→Z l17))) (0,l5)
theorem toStringS_vc (a:List Str) (h:toStringS_pre a):toStringS_wp a (fun y=>y=toStringS a):=by
 unfold toStringS_wp
 simp only[toStringS_pre] at h
 simp only[forall_eq,Int.toNat_natCast]
 refine⟨by omega,loopW.upL a.length (fun k out=>out=filled a k) _ (filled_zero a).symm ?_⟩
 rintro k out K hk rfl IH
 have hl:=filled_len hk
 simp only[decide_eq_true_eq,decide_eq_false_iff_not,I64,Int.toNat_natCast]
 refine⟨fun h1=>⟨by omega,by omega,by omega,IH (by omega) _ (filled_set (by omega))⟩,fun h1=>?_⟩
 rw[show k=a.length by omega]
 exact filled_end a
abbrev toControl (a:Control):=a
def toControl_wp (a:Control) (Z:Control→Prop):Prop:=
 Z a
theorem toControl_vc (a:Control):toControl_wp a (fun y=>y=toControl a):=rfl
abbrev toControlS (a:List Control):=a
abbrev toControlS_pre (a:List Control):Prop:=a.length≤1048576
def toControlS_wp (a:List Control) (Z:(List Control)→Prop):Prop:=
 ∀ len2:Int,len2=(a.length:Int)→(0≤len2∧len2≤1073741824)∧∀ l5:List Control,l5=List.replicate len2.toNat default→loopW (σ:=Int × (List Control)) (fun (i16,l17) K21=>∀ len22:Int,len22=(a.length:Int)→∀ c24:Bool,c24=decide (i16<len22)→((c24=true→(0≤i16∧i16<a.length)∧∀ x27:Control,x27=at' a i16→∀ r29:Control,r29=toControl x27→(0≤i16∧i16<l17.length)∧∀ x35:Control,x35=at' l17 i16→∀ l38:List Control,l38=l17.set i16.toNat r29→(I64 (i16+1))∧∀ v45:Int,v45=i16+1→K21 (v45,l38))∧(c24=false→Z l17))) (0,l5)
theorem toControlS_vc (a:List Control) (h:toControlS_pre a):toControlS_wp a (fun y=>y=toControlS a):=by
 unfold toControlS_wp
 simp only[toControlS_pre] at h
 simp only[forall_eq,Int.toNat_natCast]
 refine⟨by omega,loopW.upL a.length (fun k out=>out=filled a k) _ (filled_zero a).symm ?_⟩
 rintro k out K hk rfl IH
 have hl:=filled_len hk
 simp only[decide_eq_true_eq,decide_eq_false_iff_not,I64,Int.toNat_natCast]
 refine⟨fun h1=>⟨by omega,by omega,by omega,IH (by omega) _ (filled_set (by omega))⟩,fun h1=>?_⟩
 rw[show k=a.length by omega]
 exact filled_end a
abbrev toWire (a:Wire):=a
def toWire_wp (a:Wire) (Z:Wire→Prop):Prop:=
 Z a
theorem toWire_vc (a:Wire):toWire_wp a (fun y=>y=toWire a):=rfl
abbrev toWireS (a:List Wire):=a
abbrev toWireS_pre (a:List Wire):Prop:=a.length≤1048576
def toWireS_wp (a:List Wire) (Z:(List Wire)→Prop):Prop:=
 ∀ len2:Int,len2=(a.length:Int)→(0≤len2∧len2≤1073741824)∧∀ l5:List Wire,l5=List.replicate len2.toNat default→loopW (σ:=Int × (List Wire)) (fun (i16,l17) K21=>∀ len22:Int,len22=(a.length:Int)→∀ c24:Bool,c24=decide (i16<len22)→((c24=true→(0≤i16∧i16<a.length)∧∀ x27:Wire,x27=at' a i16→∀ r29:Wire,r29=toWire x27→(0≤i16∧i16<l17.length)∧∀ x35:Wire,x35=at' l17 i16→∀ l38:List Wire,l38=l17.set i16.toNat r29→(I64 (i16+1))∧∀ v45:Int,v45=i16+1→K21 (v45,l38))∧(c24=false→Z l17))) (0,l5)
theorem toWireS_vc (a:List Wire) (h:toWireS_pre a):toWireS_wp a (fun y=>y=toWireS a):=by
 unfold toWireS_wp
 simp only[toWireS_pre] at h
 simp only[forall_eq,Int.toNat_natCast]
 refine⟨by omega,loopW.upL a.length (fun k out=>out=filled a k) _ (filled_zero a).symm ?_⟩
 rintro k out K hk rfl IH
 have hl:=filled_len hk
 simp only[decide_eq_true_eq,decide_eq_false_iff_not,I64,Int.toNat_natCast]
 refine⟨fun h1=>⟨by omega,by omega,by omega,IH (by omega) _ (filled_set (by omega))⟩,fun h1=>?_⟩
 rw[show k=a.length by omega]
 exact filled_end a
abbrev toNode (a:GNode):=a
abbrev toNode_pre (a:GNode):Prop:=a.links.length≤1048576
def toNode_wp (a:GNode) (Z:GNode→Prop):Prop:=
 (toIntS_pre a.links)∧∀ r10:List Int,r10=toIntS a.links→Z (GNode.mk a.control a.parent r10)
theorem toNode_vc (a:GNode) (h:toNode_pre a):toNode_wp a (fun y=>y=toNode a):=by
 unfold toNode_wp
 exact⟨h,by rintro _ rfl;rfl⟩
abbrev toNodeS (a:List GNode):=a
abbrev toNodeS_pre (a:List GNode):Prop:=a.length≤1048576∧∀ x ∈ a,x.links.length≤1048576
def toNodeS_wp (a:List GNode) (Z:(List GNode)→Prop):Prop:=
 ∀ len2:Int,len2=(a.length:Int)→(0≤len2∧len2≤1073741824)∧∀ l5:List GNode,l5=List.replicate len2.toNat default→loopW (σ:=Int × (List GNode)) (fun (i16,l17) K21=>∀ len22:Int,len22=(a.length:Int)→∀ c24:Bool,c24=decide (i16<len22)→((c24=true→(0≤i16∧i16<a.length)∧∀ x27:GNode,x27=at' a i16→(toNode_pre x27)∧∀ r30:GNode,r30=toNode x27→(0≤i16∧i16<l17.length)∧∀ x44:GNode,x44=at' l17 i16→∀ l63:List GNode,l63=l17.set i16.toNat r30→(I64 (i16+1))∧∀ v70:Int,v70=i16+1→K21 (v70,l63))∧(c24=false→Z l17))) (0,l5)
theorem toNodeS_vc (a:List GNode) (h:toNodeS_pre a):toNodeS_wp a (fun y=>y=toNodeS a):=by
 unfold toNodeS_wp
 obtain⟨h,h'⟩:=h
 simp only[forall_eq,Int.toNat_natCast]
 refine⟨by omega,loopW.upL a.length (fun k out=>out=filled a k) _ (filled_zero a).symm ?_⟩
 rintro k out K hk rfl IH
 have hl:=filled_len hk
 simp only[decide_eq_true_eq,decide_eq_false_iff_not,I64,Int.toNat_natCast]
 refine⟨fun h1=>⟨by omega,?_,by omega,by omega,IH (by omega) _ (filled_set (by omega))⟩,fun h1=>?_⟩
 ·rw[at_lt (show k<a.length by omega)]
  exact h' _ (List.getElem_mem _)
 ·rw[show k=a.length by omega]
  exact filled_end a
abbrev toBigraph (a:Big):=a
abbrev toBigraph_pre (a:Big):Prop:=(a.nodes.length≤1048576∧∀ x ∈ a.nodes,x.links.length≤1048576)∧a.sites.length≤1048576∧a.outer.length≤1048576∧a.inner.length≤1048576
def toBigraph_wp (a:Big) (Z:Big→Prop):Prop:=
 (toNodeS_pre a.nodes)∧∀ r9:List GNode,r9=toNodeS a.nodes→(toIntS_pre a.sites)∧∀ r21:List Int,r21=toIntS a.sites→(toStringS_pre a.outer)∧∀ r37:List Str,r37=toStringS a.outer→(toWireS_pre a.inner)∧∀ r51:List Wire,r51=toWireS a.inner→Z (Big.mk a.roots r9 r21 a.edges r37 r51)
theorem toBigraph_vc (a:Big) (h:toBigraph_pre a):toBigraph_wp a (fun y=>y=toBigraph a):=by
 unfold toBigraph_wp
 simp only[forall_eq]
 exact⟨h.1,h.2.1,h.2.2.1,h.2.2.2,trivial⟩
def markPre {α:Type} (g:α→Int→α) (c:Int) (l:List α) (k:Int) (i:Nat):List α:=l.mapIdx fun j x=>if j<i then g x (k+c * j) else x
def markL {α:Type} (g:α→Int→α) (c:Int) (l:List α) (k:Int):List α × Int:=(markPre g c l k l.length,k+c * l.length)
section
variable {α:Type} (g:α→Int→α) (c:Int) (l:List α) (k:Int)
theorem markPre_zero:markPre g c l k 0=l:=by
 apply List.ext_getElem
 ·simp[markPre]
 ·intro j h1 h2
  simp[markPre]
theorem markPre_len (i:Nat):(markPre g c l k i).length=l.length:=by simp[markPre]
theorem markPre_set {i:Nat} (hi:i<l.length):(markPre g c l k i).set i (g l[i] (k+c * i))=markPre g c l k (i+1):=by
 apply List.ext_getElem
 ·simp[markPre]
 ·intro j h1 h2
  simp only[List.getElem_set,markPre,List.getElem_mapIdx]
  by_cases hj:i=j
  ·subst hj
   simp
  ·rw[if_neg hj]
   by_cases h3:j<i
   ·rw[if_pos h3,if_pos (by omega)]
   ·rw[if_neg h3,if_neg (by omega)]
end
def markTxt (k:Int):Str:=markTextL k.toNat
abbrev markTxt_pre (k:Int):Prop:=0≤k∧k≤1152921504606846976
abbrev MarkOk (c n k:Int):Prop:=0≤k∧n≤1048576∧k+c * n≤1152921504606846976
abbrev markIntS (l:List Int) (k:Int):=markL (fun _ k=>k) 1 l k
abbrev markIntS_pre (l:List Int) (k:Int):Prop:=MarkOk 1 l.length k
def markIntS_wp (a:List Int) (k_:Int) (Z:((List Int) × Int)→Prop):Prop:=
 loopW (σ:=Int × Int × (List Int)) (fun (k10,i11,l12) K15=>∀ len16:Int,len16=(l12.length:Int)→∀ c18:Bool,c18=decide (i11<len16)→((c18=true→(0≤i11∧i11<l12.length)∧∀ x25:Int,x25=at' l12 i11→∀ l28:List Int,l28=l12.set i11.toNat k10→(I64 (k10+1))∧∀ v34:Int,v34=k10+1→(I64 (i11+1))∧∀ v37:Int,v37=i11+1→K15 (v34,v37,l28))∧(c18=false→Z (l12,k10)))) (k_,0,a)
theorem markIntS_vc (l:List Int) (k:Int) (h:markIntS_pre l k):markIntS_wp l k (fun y=>y=markIntS l k):=by
 unfold markIntS_wp
 obtain⟨h1,h2,h3⟩:=h
 refine loopW.up l.length (fun s=>s.2.1) (fun i t=>(k+1 * i,(i:Int),t)) (fun _ _=>rfl) (fun i out=>out=markPre (fun _ k=>k) 1 l k i) l (by simp) (markPre_zero _ _ _ _).symm ?_
 rintro i out K hk rfl IH
 have hl:=markPre_len (fun _ k=>k) 1 l k i
 simp only[forall_eq,decide_eq_true_eq,decide_eq_false_iff_not,I64,Int.toNat_natCast]
 refine⟨fun h4=>⟨by omega,by omega,by omega,?_⟩,fun h4=>?_⟩
 ·have hi:i<l.length:=by omega
  have:=IH hi _ rfl
  rw[← markPre_set _ _ _ _ hi] at this
  rw[show k+1 * (((i+1:Nat)):Int)=k+1 * i+1 by omega] at this
  simpa using this
 ·rw[show i=l.length by omega]
  rfl
abbrev markStringS (l:List Str) (k:Int):=markL (fun _ k=>markTxt k) 1 l k
abbrev markStringS_pre (l:List Str) (k:Int):Prop:=MarkOk 1 l.length k
def markStringS_wp (a:List Str) (k_:Int) (Z:((List Str) × Int)→Prop):Prop:=
 loopW (σ:=Int × Int × (List Str)) (fun (k10,i11,l12) K15=>∀ len16:Int,len16=(l12.length:Int)→∀ c18:Bool,c18=decide (i11<len16)→((c18=true→(markTxt_pre k10)∧∀ r21:Str,r21=markTxt k10→(0≤i11∧i11<l12.length)∧∀ x27:Str,x27=at' l12 i11→∀ l30:List Str,l30=l12.set i11.toNat r21→(I64 (k10+1))∧∀ v36:Int,v36=k10+1→(I64 (i11+1))∧∀ v39:Int,v39=i11+1→K15 (v36,v39,l30))∧(c18=false→Z (l12,k10)))) (k_,0,a)
theorem markStringS_vc (l:List Str) (k:Int) (h:markStringS_pre l k):markStringS_wp l k (fun y=>y=markStringS l k):=by
 unfold markStringS_wp
 obtain⟨h1,h2,h3⟩:=h
 refine loopW.up l.length (fun s=>s.2.1) (fun i t=>(k+1 * i,(i:Int),t)) (fun _ _=>rfl) (fun i out=>out=markPre (fun _ k=>markTxt k) 1 l k i) l (by simp) (markPre_zero _ _ _ _).symm ?_
 rintro i out K hk rfl IH
 have hl:=markPre_len (fun _ k=>markTxt k) 1 l k i
 simp only[forall_eq,decide_eq_true_eq,decide_eq_false_iff_not,I64,Int.toNat_natCast]
 refine⟨fun h4=>⟨by simp only[markTxt_pre];omega,by omega,by omega,by omega,?_⟩,fun h4=>?_⟩
 ·have hi:i<l.length:=by omega
  have:=IH hi _ rfl
  rw[← markPre_set _ _ _ _ hi] at this
  rw[show k+1 * (((i+1:Nat)):Int)=k+1 * i+1 by omega] at this
  simpa using this
 ·rw[show i=l.length by omega]
  rfl
theorem at_set {α:Type} [Inhabited α] {l:List α} {i:Nat} {x:α} (hi:i<l.length):at' (l.set i x) (i:Int)=x:=by
 rw[at_lt (by simpa using hi)]
 simp
abbrev markWireS (l:List Wire) (k:Int):=markL (fun _ k=>(⟨markTxt k,k+1⟩:Wire)) 2 l k
abbrev markWireS_pre (l:List Wire) (k:Int):Prop:=MarkOk 2 l.length k
def markWireS_wp (a:List Wire) (k_:Int) (Z:((List Wire) × Int)→Prop):Prop:=
 loopW (σ:=Int × Int × (List Wire)) (fun (k10,i11,l12) K15=>∀ len16:Int,len16=(l12.length:Int)→∀ c18:Bool,c18=decide (i11<len16)→((c18=true→(markTxt_pre k10)∧∀ r21:Str,r21=markTxt k10→(0≤i11∧i11<l12.length)∧∀ x27:Wire,x27=at' l12 i11→∀ l30:List Wire,l30=l12.set i11.toNat (Wire.mk r21 x27.link)→(I64 (k10+1))∧∀ v36:Int,v36=k10+1→(0≤i11∧i11<l30.length)∧∀ x44:Wire,x44=at' l30 i11→∀ l47:List Wire,l47=l30.set i11.toNat (Wire.mk x44.name v36)→(I64 (v36+1))∧∀ v53:Int,v53=v36+1→(I64 (i11+1))∧∀ v56:Int,v56=i11+1→K15 (v53,v56,l47))∧(c18=false→Z (l12,k10)))) (k_,0,a)
theorem markWireS_vc (l:List Wire) (k:Int) (h:markWireS_pre l k):markWireS_wp l k (fun y=>y=markWireS l k):=by
 unfold markWireS_wp
 obtain⟨h1,h2,h3⟩:=h
 refine loopW.up l.length (fun s=>s.2.1) (fun i t=>(k+2 * i,(i:Int),t)) (fun _ _=>rfl) (fun i out=>out=markPre (fun _ k=>(⟨markTxt k,k+1⟩:Wire)) 2 l k i) l (by simp) (markPre_zero _ _ _ _).symm ?_
 rintro i out K hk rfl IH
 have hl:=markPre_len (fun _ k=>(⟨markTxt k,k+1⟩:Wire)) 2 l k i
 simp only[forall_eq,decide_eq_true_eq,decide_eq_false_iff_not,I64,Int.toNat_natCast,List.length_set]
 refine⟨fun h4=>⟨by simp only[markTxt_pre];omega,by omega,by omega,by omega,by omega,by omega,?_⟩,fun h4=>?_⟩
 ·have hi:i<l.length:=by omega
  rw[at_set (by rw[hl];exact hi),List.set_set]
  have:=IH hi _ rfl
  rw[← markPre_set _ _ _ _ hi] at this
  rw[show k+2 * (((i+1:Nat)):Int)=k+2 * i+1+1 by omega] at this
  simpa using this
 ·rw[show i=l.length by omega]
  rfl
abbrev markControlS (l:List Control) (k:Int):=markL (fun _ k=>(⟨markTxt k,k+1,k+1+1⟩:Control)) 3 l k
abbrev markControlS_pre (l:List Control) (k:Int):Prop:=MarkOk 3 l.length k
def markControlS_wp (a:List Control) (k_:Int) (Z:((List Control) × Int)→Prop):Prop:=
 loopW (σ:=Int × Int × (List Control)) (fun (k10,i11,l12) K15=>∀ len16:Int,len16=(l12.length:Int)→∀ c18:Bool,c18=decide (i11<len16)→((c18=true→(markTxt_pre k10)∧∀ r21:Str,r21=markTxt k10→(0≤i11∧i11<l12.length)∧∀ x27:Control,x27=at' l12 i11→∀ l30:List Control,l30=l12.set i11.toNat (Control.mk r21 x27.ports x27.kind)→(I64 (k10+1))∧∀ v36:Int,v36=k10+1→(0≤i11∧i11<l30.length)∧∀ x44:Control,x44=at' l30 i11→∀ l47:List Control,l47=l30.set i11.toNat (Control.mk x44.name v36 x44.kind)→(I64 (v36+1))∧∀ v53:Int,v53=v36+1→(0≤i11∧i11<l47.length)∧∀ x61:Control,x61=at' l47 i11→∀ l64:List Control,l64=l47.set i11.toNat (Control.mk x61.name x61.ports v53)→(I64 (v53+1))∧∀ v70:Int,v70=v53+1→(I64 (i11+1))∧∀ v73:Int,v73=i11+1→K15 (v70,v73,l64))∧(c18=false→Z (l12,k10)))) (k_,0,a)
theorem markControlS_vc (l:List Control) (k:Int) (h:markControlS_pre l k):markControlS_wp l k (fun y=>y=markControlS l k):=by
 unfold markControlS_wp
 obtain⟨h1,h2,h3⟩:=h
 refine loopW.up l.length (fun s=>s.2.1) (fun i t=>(k+3 * i,(i:Int),t)) (fun _ _=>rfl) (fun i out=>out=markPre (fun _ k=>(⟨markTxt k,k+1,k+1+1⟩:Control)) 3 l k i) l (by simp) (markPre_zero _ _ _ _).symm ?_
 rintro i out K hk rfl IH
 have hl:=markPre_len (fun _ k=>(⟨markTxt k,k+1,k+1+1⟩:Control)) 3 l k i
 simp only[forall_eq,decide_eq_true_eq,decide_eq_false_iff_not,I64,Int.toNat_natCast,List.length_set]
 refine⟨fun h4=>⟨by simp only[markTxt_pre];omega,by omega,by omega,by omega,by omega,by omega,by omega,by omega,?_⟩,fun h4=>?_⟩
 ·have hi:i<l.length:=by omega
  rw[at_set (by rw[hl];exact hi),List.set_set,at_set (by simp only[List.length_set,hl];exact hi),List.set_set]
  have:=IH hi _ rfl
  rw[← markPre_set _ _ _ _ hi] at this
  rw[show k+3 * (((i+1:Nat)):Int)=k+3 * i+1+1+1 by omega] at this
  simpa using this
 ·rw[show i=l.length by omega]
  rfl
def heldIntS (l:List Int) (k:Int):Int:=if (List.range l.length).all (fun i=>decide (at' l (i:Int)=k+i)) then k+l.length else -1
abbrev heldIntS_pre (l:List Int) (k:Int):Prop:=MarkOk 1 l.length k
def heldIntS_wp (a:List Int) (k_:Int) (Z:Int→Prop):Prop:=
 loopW (σ:=Int × Int) (fun (k5,i6) K9=>∀ len10:Int,len10=(a.length:Int)→∀ c12:Bool,c12=decide (i6<len10)→((c12=true→(0≤i6∧i6<a.length)∧∀ x15:Int,x15=at' a i6→∀ c17:Bool,c17=decide (x15 ≠ k5)→((c17=true→Z (-1))∧(c17=false→(I64 (k5+1))∧∀ v20:Int,v20=k5+1→(I64 (i6+1))∧∀ v23:Int,v23=i6+1→K9 (v20,v23))))∧(c12=false→Z k5))) (k_,0)
theorem heldIntS_vc (l:List Int) (k:Int) (h:heldIntS_pre l k):heldIntS_wp l k (fun y=>y=heldIntS l k):=by
 unfold heldIntS_wp
 obtain⟨h1,h2,h3⟩:=h
 refine loopW.up (τ:=Unit) l.length (fun s=>s.2) (fun i _=>(k+i,(i:Int))) (fun _ _=>rfl) (fun i _=>∀ j<i,at' l (j:Int)=k+j) () (by simp) (by simp) ?_
 rintro i _ K hk hI IH
 simp only[forall_eq,decide_eq_true_eq,decide_eq_false_iff_not,I64]
 refine⟨fun h4=>⟨by omega,fun h5=>?_,fun h5=>⟨by omega,by omega,?_⟩⟩,fun h4=>?_⟩
 ·rw[heldIntS,if_neg]
  rw[List.all_eq_true]
  intro h6
  exact h5 (by simpa using h6 i (List.mem_range.2 (by omega)))
 ·have:=IH (by omega) () (fun j hj=>by
   rcases Nat.lt_or_ge j i with h6 | h6
   ·exact hI j h6
   ·rw[show j=i by omega];omega)
  simpa[show k+((i:Int)+1)=k+i+1 by omega] using this
 ·have hi:i=l.length:=by omega
  rw[heldIntS,if_pos,hi]
  rw[List.all_eq_true]
  intro j hj
  simpa using hI j (by have:=List.mem_range.1 hj;omega)
theorem held_mark (l:List Int) (k:Int):heldIntS (markIntS l k).1 k=(markIntS l k).2:=by
 have hl:(markIntS l k).1.length=l.length:=by simp[markIntS,markL,markPre_len]
 rw[heldIntS,if_pos,hl]
 ·simp[markIntS,markL]
 ·rw[List.all_eq_true]
  intro j hj
  have hj:=List.mem_range.1 hj
  rw[at_lt hj]
  rw[hl] at hj
  simp[markIntS,markL,markPre,hj]
theorem marked_len {α:Type} (g:α→Int→α) (c:Int) (l:List α) (k:Int):(markL g c l k).1.length=l.length:=by simp[markL,markPre_len]
end Go.Ab.Vg
/- Marks on nodes and bigraphs, told. -/
namespace Go.Ab.Vg
set_option linter.unusedSimpArgs false
set_option linter.unusedVariables false
section
variable {α:Type} (m:α→Int→α × Int)
def markSeq:List α→Int→List α × Int
 | [],k=>([],k)
 | x::l,k=>((m x k).1::(markSeq l (m x k).2).1,(markSeq l (m x k).2).2)
theorem markSeq_append (l1 l2:List α) (k:Int):markSeq m (l1++l2) k=((markSeq m l1 k).1++(markSeq m l2 (markSeq m l1 k).2).1,(markSeq m l2 (markSeq m l1 k).2).2):=by
 induction l1 generalizing k with
 | nil=>rfl
 | cons x l ih=>simp[markSeq,ih]
theorem markSeq_len (l:List α) (k:Int):(markSeq m l k).1.length=l.length:=by
 induction l generalizing k with
 | nil=>rfl
 | cons x l ih=>simp[markSeq,ih]
def markTo (l:List α) (k:Int) (i:Nat):List α:=(markSeq m (l.take i) k).1++l.drop i
def markAt (l:List α) (k:Int) (i:Nat):Int:=(markSeq m (l.take i) k).2
theorem markTo_zero (l:List α) (k:Int):markTo m l k 0=l:=by simp[markTo,markSeq]
theorem markTo_end (l:List α) (k:Int):markTo m l k l.length=(markSeq m l k).1:=by simp[markTo]
theorem markAt_end (l:List α) (k:Int):markAt m l k l.length=(markSeq m l k).2:=by simp[markAt]
theorem markTo_len (l:List α) (k:Int) (i:Nat):(markTo m l k i).length=l.length:=by
 simp only[markTo,List.length_append,markSeq_len,List.length_take,List.length_drop];omega
theorem markTo_get [Inhabited α] {l:List α} {k:Int} {i:Nat} (hi:i<l.length):at' (markTo m l k i) (i:Int)=l[i]:=by
 rw[at_lt (by rw[markTo_len];exact hi)]
 have hl:(markSeq m (l.take i) k).1.length=i:=by rw[markSeq_len];simp;omega
 simp only[markTo]
 rw[List.getElem_append_right (by omega)]
 simp[hl]
theorem markTo_set {l:List α} {k:Int} {i:Nat} (hi:i<l.length):(markTo m l k i).set i (m l[i] (markAt m l k i)).1=markTo m l k (i+1):=by
 have hl:(markSeq m (l.take i) k).1.length=i:=by rw[markSeq_len];simp;omega
 simp only[markTo,markAt]
 rw[List.set_append_right _ _ (by omega),hl,Nat.sub_self,List.take_succ_eq_append_getElem hi,markSeq_append,List.drop_eq_getElem_cons hi]
 simp only[List.set_cons_zero,markSeq,List.append_assoc,List.cons_append,List.nil_append]
theorem markAt_succ {l:List α} {k:Int} {i:Nat} (hi:i<l.length):markAt m l k (i+1)=(m l[i] (markAt m l k i)).2:=by
 simp only[markAt]
 rw[List.take_succ_eq_append_getElem hi,markSeq_append]
 simp[markSeq]
theorem markAt_size {sz:α→Nat} (hm:∀ x k,(m x k).2=k+sz x) (l:List α) (k:Int) (i:Nat):markAt m l k i=k+((l.take i).map sz).sum:=by
 have:∀ (l:List α) (k:Int),(markSeq m l k).2=k+(l.map sz).sum:=by
  intro l
  induction l with
  | nil=>intro k;simp[markSeq]
  | cons x l ih=>intro k;simp only[markSeq,ih,hm,List.map_cons,List.sum_cons];omega
 exact this _ _
theorem sum_take_le {f:α→Nat} (l:List α) (i:Nat):((l.take i).map f).sum≤(l.map f).sum:=by
 have:l.map f=(l.take i).map f++(l.drop i).map f:=by rw[← List.map_append,List.take_append_drop]
 rw[this,List.sum_append];omega
end
def nodeMark (x:GNode) (k:Int):GNode × Int:=(GNode.mk k (k+1) (markIntS x.links (k+2)).1,(markIntS x.links (k+2)).2)
def nodeSize (x:GNode):Nat:=x.links.length+2
theorem nodeMark_size (x:GNode) (k:Int):(nodeMark x k).2=k+nodeSize x:=by simp[nodeMark,nodeSize,markIntS,markL];omega
abbrev markNodeS (l:List GNode) (k:Int):=markSeq nodeMark l k
abbrev markNodeS_pre (l:List GNode) (k:Int):Prop:=0≤k∧l.length≤1048576∧(∀ x ∈ l,x.links.length≤1048576)∧k+(l.map nodeSize).sum≤1152921504606846976
def markNodeS_wp (a:List GNode) (k_:Int) (Z:((List GNode) × Int)→Prop):Prop:=
 loopW (σ:=Int × Int × (List GNode)) (fun (k10,i11,l12) K15=>∀ len16:Int,len16=(l12.length:Int)→∀ c18:Bool,c18=decide (i11<len16)→((c18=true→(0≤i11∧i11<l12.length)∧∀ x21:GNode,x21=at' l12 i11→∀ l40:List GNode,l40=l12.set i11.toNat (GNode.mk k10 x21.parent x21.links)→(I64 (k10+1))∧∀ v46:Int,v46=k10+1→(0≤i11∧i11<l40.length)∧∀ x49:GNode,x49=at' l40 i11→∀ l69:List GNode,l69=l40.set i11.toNat (GNode.mk x49.control v46 x49.links)→(I64 (v46+1))∧∀ v75:Int,v75=v46+1→(0≤i11∧i11<l69.length)∧∀ x78:GNode,x78=at' l69 i11→(markIntS_pre x78.links v75)∧∀ r99:(List Int) × Int,r99=markIntS x78.links v75→∀ l105:List GNode,l105=l69.set i11.toNat (GNode.mk x78.control x78.parent r99.1)→(I64 (i11+1))∧∀ v109:Int,v109=i11+1→K15 (r99.2,v109,l105))∧(c18=false→Z (l12,k10)))) (k_,0,a)
theorem markNodeS_vc (l:List GNode) (k:Int) (h:markNodeS_pre l k):markNodeS_wp l k (fun y=>y=markNodeS l k):=by
 unfold markNodeS_wp
 obtain⟨h0,h1,h2,h3⟩:=h
 refine loopW.up l.length (fun s=>s.2.1) (fun i t=>(markAt nodeMark l k i,(i:Int),t)) (fun _ _=>rfl) (fun i out=>out=markTo nodeMark l k i) l (by simp[markAt,markSeq]) (markTo_zero _ _ _).symm ?_
 rintro i out K hk rfl IH
 have hl:=markTo_len nodeMark l k i
 have hs:=markAt_size nodeMark nodeMark_size l k i
 have hs2:=sum_take_le (f:=nodeSize) l i
 simp only[forall_eq,decide_eq_true_eq,decide_eq_false_iff_not,I64,Int.toNat_natCast,List.length_set]
 refine⟨fun h4=>?_,fun h4=>?_⟩
 ·have hi:i<l.length:=by omega
  have hs3:=markAt_size nodeMark nodeMark_size l k (i+1)
  have hs4:=sum_take_le (f:=nodeSize) l (i+1)
  have hs5:=markAt_succ nodeMark (k:=k) hi
  rw[nodeMark_size] at hs5
  have hz:nodeSize l[i]=l[i].links.length+2:=rfl
  have hn:=h2 _ (List.getElem_mem hi)
  simp only[markTo_get nodeMark hi,List.set_set,at_set (show i<(markTo nodeMark l k i).length by omega)]
  refine⟨by omega,by omega,by omega,by omega,by omega,⟨by omega,by omega,by omega⟩,by omega,?_⟩
  have:=IH hi _ rfl
  rw[← markTo_set _ hi,markAt_succ _ hi] at this
  have e2:markAt nodeMark l k i+1+1=markAt nodeMark l k i+2:=by omega
  rw[e2]
  simpa[nodeMark] using this
 ·rw[show i=l.length by omega,markTo_end,markAt_end]
def markBig (b:Big) (k:Int):Big × Int:=
 let n:=markNodeS b.nodes k
 let s:=markIntS b.sites n.2
 let o:=markStringS b.outer s.2
 let i:=markWireS b.inner o.2
 (Big.mk b.roots n.1 s.1 b.edges o.1 i.1,i.2)
def bigSize (b:Big):Nat:=(b.nodes.map nodeSize).sum+b.sites.length+b.outer.length+2 * b.inner.length
abbrev markBig_pre (b:Big) (k:Int):Prop:=0≤k∧b.nodes.length≤1048576∧(∀ x ∈ b.nodes,x.links.length≤1048576)∧b.sites.length≤1048576∧b.outer.length≤1048576∧b.inner.length≤1048576∧k+bigSize b≤1152921504606846976
def markBig_wp (a:Big) (k_:Int) (Z:(Big × Int)→Prop):Prop:=
 (markNodeS_pre a.nodes k_)∧∀ r13:(List GNode) × Int,r13=markNodeS a.nodes k_→(markIntS_pre a.sites r13.2)∧∀ r22:(List Int) × Int,r22=markIntS a.sites r13.2→(markStringS_pre a.outer r22.2)∧∀ r31:(List Str) × Int,r31=markStringS a.outer r22.2→(markWireS_pre a.inner r31.2)∧∀ r40:(List Wire) × Int,r40=markWireS a.inner r31.2→Z ((Big.mk a.roots r13.1 r22.1 a.edges r31.1 r40.1),r40.2)
theorem markNodeS_size (l:List GNode) (k:Int):(markNodeS l k).2=k+(l.map nodeSize).sum:=by
 have:=markAt_size nodeMark nodeMark_size l k l.length
 rwa [markAt_end,List.take_length] at this
theorem markBig_vc (b:Big) (k:Int) (h:markBig_pre b k):markBig_wp b k (fun y=>y=markBig b k):=by
 unfold markBig_wp
 obtain⟨h0,h1,h2,h3,h4,h5,h6⟩:=h
 have hb:bigSize b=(b.nodes.map nodeSize).sum+b.sites.length+b.outer.length+2 * b.inner.length:=rfl
 have hn:=markNodeS_size b.nodes k
 simp only[forall_eq]
 refine⟨⟨h0,h1,h2,by omega⟩,⟨by omega,by omega,by omega⟩,⟨?_,by omega,?_⟩,⟨?_,by omega,?_⟩,rfl⟩
 all_goals simp only[markL,hn];omega
end Go.Ab.Vg
/- Contracts of the laws' eq.. functions of bigraphs. By program. -/
namespace Go.Ab
open Go.Proofs
set_option linter.unusedSimpArgs false
theorem ArgOk.nodeB {H:Heap} {n:Nat} (t:Bool) (x:GNode):ArgOk H n (.agg (x.cells t)) (.agg (x.cells false)):=ArgOk.imm' (.agg _ (imm_node t x)) (by rw[old_agg,old_node])
theorem ArgOk.wireB {H:Heap} {n:Nat} (x:Wire):ArgOk H n (.agg x.cells) (.agg x.cells):=ArgOk.aggF (by simp[Wire.cells])
theorem ArgOk.ctlB {H:Heap} {n:Nat} (x:Control):ArgOk H n (.agg x.cells) (.agg x.cells):=ArgOk.aggF (by simp[Control.cells])
theorem e14:Ent Tryz.prog 14:=Ent.of Tryz.func14 (by kernel_rfl) rfl
theorem eqIntS_ok (p q:List (Int)) (hp:p.length≤1048576):PureC Tryz.prog 14 [.list false (p.map intC),.list false (q.map intC)] (fun r=>r=bool (decide (p=q))):=by
 refine PureC.of Tryz.func14 rfl Tryz.ntmps14 (by simp) fun Q hQ=>?_
 refine Runs.seqE Ty_ok (by decide) fun k' hk'=>?_
 simp   -- R0
 apply hk'
 refine Runs.seq ?_
 refine Runs.seqE Ty_ok (by decide) fun k' hk'=>?_
 simp   -- R1
 apply hk'
 refine Runs.ite rfl (fun hc1=>?_) (fun hc1=>?_)
 ·simp at hc1
  refine Runs.seqE Ty_ok (by decide) fun k' hk'=>?_
  simp   -- R2
  apply hk'
  refine Runs.ret Tryz.func14 (RetOk.one Tryz.results14) (hQ _ _ _ _ (.v _ _ _) ?_)
  have:p ≠ q:=by intro h;subst h;omega
  simp[this]
 ·simp at hc1
  have hlen:p.length=q.length:=by omega
  refine Runs.skip ?_
  refine Runs.seq ?_
  refine Runs.seqE Ty_ok (by decide) fun k' hk'=>?_
  simp   -- R3
  apply hk'
  refine Runs.block (Runs.loopUp p.length (fun k ρ H n=>ρ 0 = .list false (p.map intC)∧ρ 1 = .list false (q.map intC)∧ρ 5=int k∧p.take k=q.take k) ?_ ?_)
  ·simp
  ·rintro k ρ H n hk ⟨h0,h1,h5,heq⟩ IH
   refine Runs.seq ?_
   refine Runs.seqE Ty_ok (by decide) fun k' hk'=>?_
   simp [h0, h5]   -- R4
   apply hk'
   refine Runs.ite rfl (fun hc2=>?_) (fun hc2=>?_)
   ·simp at hc2
    have hq2:k<q.length:=by omega
    refine Runs.skip ?_
    refine Runs.seq ?_
    refine Runs.block ?_
    refine Runs.seqD Ty_ok kindOp_ok draws (by decide) (by kernel_rfl) fun k' hk'=>?_
    simp [h0, h1, h5, hc2, hq2, intC]   -- R6
    apply hk'
    refine Runs.ite rfl (fun hc3=>?_) (fun hc3=>?_)
    ·simp at hc3
     refine Runs.seqE Ty_ok (by decide) fun k' hk'=>?_
     simp   -- R7
     apply hk'
     refine Runs.ret Tryz.func14 (RetOk.one Tryz.results14) (hQ _ _ _ _ (.v _ _ _) ?_)
     have:p ≠ q:=by intro h;subst h;exact hc3 rfl
     simp[this]
    ·simp at hc3
     refine Runs.skip ?_
     refine Runs.inBlock ?_
     refine Runs.evalE Ty_ok (by decide) fun k' hk'=>?_
     simp [h5, wrap_succ (show k < 4611686018427387904 by omega)]   -- R5
     apply hk'
     refine IH hc2 _ _ _ ?_
     refine⟨by simp[h0,intC],by simp[h1,intC],by simp,?_⟩
     rw[List.take_succ_eq_append_getElem hc2,List.take_succ_eq_append_getElem hq2,heq,hc3]
   ·simp at hc2
    refine Runs.exit rfl ?_
    refine Runs.seqE Ty_ok (by decide) fun k' hk'=>?_
    simp   -- R8
    apply hk'
    refine Runs.ret Tryz.func14 (RetOk.one Tryz.results14) (hQ _ _ _ _ (.v _ _ _) ?_)
    rw[List.take_of_length_le hc2,List.take_of_length_le (by omega)] at heq
    simp[heq]
theorem e47:Ent Tryz.prog 47:=Ent.of Tryz.func47 (by kernel_rfl) rfl
theorem eqStringS_ok (p q:List (Str)) (hp:p.length≤1048576):PureC Tryz.prog 47 [.list false (p.map strC),.list false (q.map strC)] (fun r=>r=bool (decide (p=q))):=by
 refine PureC.of Tryz.func47 rfl Tryz.ntmps47 (by simp) fun Q hQ=>?_
 refine Runs.seqE Ty_ok (by decide) fun k' hk'=>?_
 simp   -- R0
 apply hk'
 refine Runs.seq ?_
 refine Runs.seqE Ty_ok (by decide) fun k' hk'=>?_
 simp   -- R1
 apply hk'
 refine Runs.ite rfl (fun hc1=>?_) (fun hc1=>?_)
 ·simp at hc1
  refine Runs.seqE Ty_ok (by decide) fun k' hk'=>?_
  simp   -- R2
  apply hk'
  refine Runs.ret Tryz.func47 (RetOk.one Tryz.results47) (hQ _ _ _ _ (.v _ _ _) ?_)
  have:p ≠ q:=by intro h;subst h;omega
  simp[this]
 ·simp at hc1
  have hlen:p.length=q.length:=by omega
  refine Runs.skip ?_
  refine Runs.seq ?_
  refine Runs.seqE Ty_ok (by decide) fun k' hk'=>?_
  simp   -- R3
  apply hk'
  refine Runs.block (Runs.loopUp p.length (fun k ρ H n=>ρ 0 = .list false (p.map strC)∧ρ 1 = .list false (q.map strC)∧ρ 5=int k∧p.take k=q.take k) ?_ ?_)
  ·simp
  ·rintro k ρ H n hk ⟨h0,h1,h5,heq⟩ IH
   refine Runs.seq ?_
   refine Runs.seqE Ty_ok (by decide) fun k' hk'=>?_
   simp [h0, h5]   -- R4
   apply hk'
   refine Runs.ite rfl (fun hc2=>?_) (fun hc2=>?_)
   ·simp at hc2
    have hq2:k<q.length:=by omega
    refine Runs.skip ?_
    refine Runs.seq ?_
    refine Runs.block ?_
    refine Runs.seqD Ty_ok kindOp_ok draws (by decide) (by kernel_rfl) fun k' hk'=>?_
    simp [h0, h1, h5, hc2, hq2, strC]   -- R6
    apply hk'
    refine Runs.ite rfl (fun hc3=>?_) (fun hc3=>?_)
    ·simp at hc3
     refine Runs.seqE Ty_ok (by decide) fun k' hk'=>?_
     simp   -- R7
     apply hk'
     refine Runs.ret Tryz.func47 (RetOk.one Tryz.results47) (hQ _ _ _ _ (.v _ _ _) ?_)
     have:p ≠ q:=by intro h;subst h;exact hc3 rfl
     simp[this]
    ·simp at hc3
     refine Runs.skip ?_
     refine Runs.inBlock ?_
     refine Runs.evalE Ty_ok (by decide) fun k' hk'=>?_
     simp [h5, wrap_succ (show k < 4611686018427387904 by omega)]   -- R5
     apply hk'
     refine IH hc2 _ _ _ ?_
     refine⟨by simp[h0,strC],by simp[h1,strC],by simp,?_⟩
     rw[List.take_succ_eq_append_getElem hc2,List.take_succ_eq_append_getElem hq2,heq,hc3]
   ·simp at hc2
    refine Runs.exit rfl ?_
    refine Runs.seqE Ty_ok (by decide) fun k' hk'=>?_
    simp   -- R8
    apply hk'
    refine Runs.ret Tryz.func47 (RetOk.one Tryz.results47) (hQ _ _ _ _ (.v _ _ _) ?_)
    rw[List.take_of_length_le hc2,List.take_of_length_le (by omega)] at heq
    simp[heq]
theorem e96:Ent Tryz.prog 96:=Ent.of Tryz.func96 (by kernel_rfl) rfl
theorem eqWire_ok (x y:Wire):PureC Tryz.prog 96 [.agg (Wire.cells x),.agg (Wire.cells y)] (fun r=>r=bool (decide (x=y))):=by
 obtain⟨x0,x1⟩:=x
 obtain⟨y0,y1⟩:=y
 refine PureC.of Tryz.func96 rfl Tryz.ntmps96 (by simp) fun Q hQ=>?_
 refine Runs.seqE Ty_ok (by decide) fun k' hk'=>?_
 simp [Wire.cells, encN, encI, encS, encW]   -- R0
 apply hk'
 refine Runs.seq ?_
 refine Runs.seqE Ty_ok (by decide) fun k' hk'=>?_
 simp
 apply hk'
 refine Runs.ite rfl (fun hc=>?_) (fun hd0=>?_)
 ·simp at hc
  refine Runs.seqE Ty_ok (by decide) fun k' hk'=>?_
  simp
  apply hk'
  exact Runs.ret Tryz.func96 (RetOk.one Tryz.results96) (hQ _ _ _ _ (.v _ _ _) (by simp[hc]))
 simp at hd0
 refine Runs.skip ?_
 refine Runs.seq ?_
 refine Runs.seqE Ty_ok (by decide) fun k' hk'=>?_
 simp
 apply hk'
 refine Runs.ite rfl (fun hc=>?_) (fun hd1=>?_)
 ·simp at hc
  refine Runs.seqE Ty_ok (by decide) fun k' hk'=>?_
  simp
  apply hk'
  exact Runs.ret Tryz.func96 (RetOk.one Tryz.results96) (hQ _ _ _ _ (.v _ _ _) (by simp[hc]))
 simp at hd1
 refine Runs.skip ?_
 refine Runs.seqE Ty_ok (by decide) fun k' hk'=>?_
 simp
 apply hk'
 exact Runs.ret Tryz.func96 (RetOk.one Tryz.results96) (hQ _ _ _ _ (.v _ _ _) (by simp[hd0,hd1]))
theorem e48:Ent Tryz.prog 48:=Ent.of Tryz.func48 (by kernel_rfl) rfl
theorem eqWireS_ok (p q:List (Wire)) (hp:p.length≤1048576):PureC Tryz.prog 48 [.list false (p.map Wire.cells),.list false (q.map Wire.cells)] (fun r=>r=bool (decide (p=q))):=by
 refine PureC.of Tryz.func48 rfl Tryz.ntmps48 (by simp) fun Q hQ=>?_
 refine Runs.seqE Ty_ok (by decide) fun k' hk'=>?_
 simp   -- R0
 apply hk'
 refine Runs.seq ?_
 refine Runs.seqE Ty_ok (by decide) fun k' hk'=>?_
 simp   -- R1
 apply hk'
 refine Runs.ite rfl (fun hc1=>?_) (fun hc1=>?_)
 ·simp at hc1
  refine Runs.seqE Ty_ok (by decide) fun k' hk'=>?_
  simp   -- R2
  apply hk'
  refine Runs.ret Tryz.func48 (RetOk.one Tryz.results48) (hQ _ _ _ _ (.v _ _ _) ?_)
  have:p ≠ q:=by intro h;subst h;omega
  simp[this]
 ·simp at hc1
  have hlen:p.length=q.length:=by omega
  refine Runs.skip ?_
  refine Runs.seq ?_
  refine Runs.seqE Ty_ok (by decide) fun k' hk'=>?_
  simp   -- R3
  apply hk'
  refine Runs.block (Runs.loopUp p.length (fun k ρ H n=>ρ 0 = .list false (p.map Wire.cells)∧ρ 1 = .list false (q.map Wire.cells)∧ρ 5=int k∧p.take k=q.take k) ?_ ?_)
  ·simp
  ·rintro k ρ H n hk ⟨h0,h1,h5,heq⟩ IH
   refine Runs.seq ?_
   refine Runs.seqE Ty_ok (by decide) fun k' hk'=>?_
   simp [h0, h5]   -- R4
   apply hk'
   refine Runs.ite rfl (fun hc2=>?_) (fun hc2=>?_)
   ·simp at hc2
    have hq2:k<q.length:=by omega
    refine Runs.skip ?_
    refine Runs.seq ?_
    refine Runs.block ?_
    refine Runs.seqD Ty_ok kindOp_ok draws (by decide) (by kernel_rfl) fun k' hk'=>?_
    simp [h0, h1, h5, hc2, hq2, Wire.cells]   -- R6
    refine RunDK.callA Ty_ok kindOp_ok (eqWire_ok p[k] q[k]) e96 (.cons (ArgOk.wireB p[k]) (.cons (ArgOk.wireB q[k]) .nil)) (by decide) rfl (by simp[Wire.cells]) ?_
    simp
    apply hk'
    refine Runs.ite rfl (fun hc3=>?_) (fun hc3=>?_)
    ·simp at hc3
     refine Runs.seqE Ty_ok (by decide) fun k' hk'=>?_
     simp   -- R7
     apply hk'
     refine Runs.ret Tryz.func48 (RetOk.one Tryz.results48) (hQ _ _ _ _ (.v _ _ _) ?_)
     have:p ≠ q:=by intro h;subst h;exact hc3 rfl
     simp[this]
    ·simp at hc3
     refine Runs.skip ?_
     refine Runs.inBlock ?_
     refine Runs.evalE Ty_ok (by decide) fun k' hk'=>?_
     simp [h5, wrap_succ (show k < 4611686018427387904 by omega)]   -- R5
     apply hk'
     refine IH hc2 _ _ _ ?_
     refine⟨by simp[h0,Wire.cells],by simp[h1,Wire.cells],by simp,?_⟩
     rw[List.take_succ_eq_append_getElem hc2,List.take_succ_eq_append_getElem hq2,heq,hc3]
   ·simp at hc2
    refine Runs.exit rfl ?_
    refine Runs.seqE Ty_ok (by decide) fun k' hk'=>?_
    simp   -- R8
    apply hk'
    refine Runs.ret Tryz.func48 (RetOk.one Tryz.results48) (hQ _ _ _ _ (.v _ _ _) ?_)
    rw[List.take_of_length_le hc2,List.take_of_length_le (by omega)] at heq
    simp[heq]
theorem e45:Ent Tryz.prog 45:=Ent.of Tryz.func45 (by kernel_rfl) rfl
theorem eqControl_ok (x y:Control):PureC Tryz.prog 45 [.agg (Control.cells x),.agg (Control.cells y)] (fun r=>r=bool (decide (x=y))):=by
 obtain⟨x0,x1,x2⟩:=x
 obtain⟨y0,y1,y2⟩:=y
 refine PureC.of Tryz.func45 rfl Tryz.ntmps45 (by simp) fun Q hQ=>?_
 refine Runs.seqE Ty_ok (by decide) fun k' hk'=>?_
 simp [Control.cells, encN, encI, encS, encW]   -- R0
 apply hk'
 refine Runs.seq ?_
 refine Runs.seqE Ty_ok (by decide) fun k' hk'=>?_
 simp
 apply hk'
 refine Runs.ite rfl (fun hc=>?_) (fun hd0=>?_)
 ·simp at hc
  refine Runs.seqE Ty_ok (by decide) fun k' hk'=>?_
  simp
  apply hk'
  exact Runs.ret Tryz.func45 (RetOk.one Tryz.results45) (hQ _ _ _ _ (.v _ _ _) (by simp[hc]))
 simp at hd0
 refine Runs.skip ?_
 refine Runs.seq ?_
 refine Runs.seqE Ty_ok (by decide) fun k' hk'=>?_
 simp
 apply hk'
 refine Runs.ite rfl (fun hc=>?_) (fun hd1=>?_)
 ·simp at hc
  refine Runs.seqE Ty_ok (by decide) fun k' hk'=>?_
  simp
  apply hk'
  exact Runs.ret Tryz.func45 (RetOk.one Tryz.results45) (hQ _ _ _ _ (.v _ _ _) (by simp[hc]))
 simp at hd1
 refine Runs.skip ?_
 refine Runs.seq ?_
 refine Runs.seqE Ty_ok (by decide) fun k' hk'=>?_
 simp
 apply hk'
 refine Runs.ite rfl (fun hc=>?_) (fun hd2=>?_)
 ·simp at hc
  refine Runs.seqE Ty_ok (by decide) fun k' hk'=>?_
  simp
  apply hk'
  exact Runs.ret Tryz.func45 (RetOk.one Tryz.results45) (hQ _ _ _ _ (.v _ _ _) (by simp[hc]))
 simp at hd2
 refine Runs.skip ?_
 refine Runs.seqE Ty_ok (by decide) fun k' hk'=>?_
 simp
 apply hk'
 exact Runs.ret Tryz.func45 (RetOk.one Tryz.results45) (hQ _ _ _ _ (.v _ _ _) (by simp[hd0,hd1,hd2]))
theorem e15:Ent Tryz.prog 15:=Ent.of Tryz.func15 (by kernel_rfl) rfl
theorem eqControlS_ok (p q:List (Control)) (hp:p.length≤1048576):PureC Tryz.prog 15 [.list false (p.map Control.cells),.list false (q.map Control.cells)] (fun r=>r=bool (decide (p=q))):=by
 refine PureC.of Tryz.func15 rfl Tryz.ntmps15 (by simp) fun Q hQ=>?_
 refine Runs.seqE Ty_ok (by decide) fun k' hk'=>?_
 simp   -- R0
 apply hk'
 refine Runs.seq ?_
 refine Runs.seqE Ty_ok (by decide) fun k' hk'=>?_
 simp   -- R1
 apply hk'
 refine Runs.ite rfl (fun hc1=>?_) (fun hc1=>?_)
 ·simp at hc1
  refine Runs.seqE Ty_ok (by decide) fun k' hk'=>?_
  simp   -- R2
  apply hk'
  refine Runs.ret Tryz.func15 (RetOk.one Tryz.results15) (hQ _ _ _ _ (.v _ _ _) ?_)
  have:p ≠ q:=by intro h;subst h;omega
  simp[this]
 ·simp at hc1
  have hlen:p.length=q.length:=by omega
  refine Runs.skip ?_
  refine Runs.seq ?_
  refine Runs.seqE Ty_ok (by decide) fun k' hk'=>?_
  simp   -- R3
  apply hk'
  refine Runs.block (Runs.loopUp p.length (fun k ρ H n=>ρ 0 = .list false (p.map Control.cells)∧ρ 1 = .list false (q.map Control.cells)∧ρ 5=int k∧p.take k=q.take k) ?_ ?_)
  ·simp
  ·rintro k ρ H n hk ⟨h0,h1,h5,heq⟩ IH
   refine Runs.seq ?_
   refine Runs.seqE Ty_ok (by decide) fun k' hk'=>?_
   simp [h0, h5]   -- R4
   apply hk'
   refine Runs.ite rfl (fun hc2=>?_) (fun hc2=>?_)
   ·simp at hc2
    have hq2:k<q.length:=by omega
    refine Runs.skip ?_
    refine Runs.seq ?_
    refine Runs.block ?_
    refine Runs.seqD Ty_ok kindOp_ok draws (by decide) (by kernel_rfl) fun k' hk'=>?_
    simp [h0, h1, h5, hc2, hq2, Control.cells]   -- R6
    refine RunDK.callA Ty_ok kindOp_ok (eqControl_ok p[k] q[k]) e45 (.cons (ArgOk.ctlB p[k]) (.cons (ArgOk.ctlB q[k]) .nil)) (by decide) rfl (by simp[Control.cells]) ?_
    simp
    apply hk'
    refine Runs.ite rfl (fun hc3=>?_) (fun hc3=>?_)
    ·simp at hc3
     refine Runs.seqE Ty_ok (by decide) fun k' hk'=>?_
     simp   -- R7
     apply hk'
     refine Runs.ret Tryz.func15 (RetOk.one Tryz.results15) (hQ _ _ _ _ (.v _ _ _) ?_)
     have:p ≠ q:=by intro h;subst h;exact hc3 rfl
     simp[this]
    ·simp at hc3
     refine Runs.skip ?_
     refine Runs.inBlock ?_
     refine Runs.evalE Ty_ok (by decide) fun k' hk'=>?_
     simp [h5, wrap_succ (show k < 4611686018427387904 by omega)]   -- R5
     apply hk'
     refine IH hc2 _ _ _ ?_
     refine⟨by simp[h0,Control.cells],by simp[h1,Control.cells],by simp,?_⟩
     rw[List.take_succ_eq_append_getElem hc2,List.take_succ_eq_append_getElem hq2,heq,hc3]
   ·simp at hc2
    refine Runs.exit rfl ?_
    refine Runs.seqE Ty_ok (by decide) fun k' hk'=>?_
    simp   -- R8
    apply hk'
    refine Runs.ret Tryz.func15 (RetOk.one Tryz.results15) (hQ _ _ _ _ (.v _ _ _) ?_)
    rw[List.take_of_length_le hc2,List.take_of_length_le (by omega)] at heq
    simp[heq]
theorem e95:Ent Tryz.prog 95:=Ent.of Tryz.func95 (by kernel_rfl) rfl
theorem eqNode_ok (x y:GNode) (hl:x.links.length≤1048576):PureC Tryz.prog 95 [.agg (GNode.cells false x),.agg (GNode.cells false y)] (fun r=>r=bool (decide (x=y))):=by
 obtain⟨x0,x1,x2⟩:=x
 obtain⟨y0,y1,y2⟩:=y
 refine PureC.of Tryz.func95 rfl Tryz.ntmps95 (by simp) fun Q hQ=>?_
 refine Runs.seqE Ty_ok (by decide) fun k' hk'=>?_
 simp [GNode.cells, encN, encI, encS, encW]   -- R0
 apply hk'
 refine Runs.seq ?_
 refine Runs.seqE Ty_ok (by decide) fun k' hk'=>?_
 simp
 apply hk'
 refine Runs.ite rfl (fun hc=>?_) (fun hd0=>?_)
 ·simp at hc
  refine Runs.seqE Ty_ok (by decide) fun k' hk'=>?_
  simp
  apply hk'
  exact Runs.ret Tryz.func95 (RetOk.one Tryz.results95) (hQ _ _ _ _ (.v _ _ _) (by simp[hc]))
 simp at hd0
 refine Runs.skip ?_
 refine Runs.seq ?_
 refine Runs.seqE Ty_ok (by decide) fun k' hk'=>?_
 simp
 apply hk'
 refine Runs.ite rfl (fun hc=>?_) (fun hd1=>?_)
 ·simp at hc
  refine Runs.seqE Ty_ok (by decide) fun k' hk'=>?_
  simp
  apply hk'
  exact Runs.ret Tryz.func95 (RetOk.one Tryz.results95) (hQ _ _ _ _ (.v _ _ _) (by simp[hc]))
 simp at hd1
 refine Runs.skip ?_
 refine Runs.seq ?_
 refine Runs.seqE Ty_ok (by decide) fun k' hk'=>?_
 simp
 refine RunK.callA Ty_ok (eqIntS_ok x2 y2 hl) e14 (.cons (ArgOk.encI false x2) (.cons (ArgOk.encI false y2) .nil)) (by decide) (by decide) rfl (by simp[encN,encI,encS,encW]) ?_
 rintro _ rfl
 simp
 apply hk'
 refine Runs.ite rfl (fun hc=>?_) (fun hd2=>?_)
 ·simp at hc
  refine Runs.seqE Ty_ok (by decide) fun k' hk'=>?_
  simp
  apply hk'
  exact Runs.ret Tryz.func95 (RetOk.one Tryz.results95) (hQ _ _ _ _ (.v _ _ _) (by simp[hc]))
 simp at hd2
 refine Runs.skip ?_
 refine Runs.seqE Ty_ok (by decide) fun k' hk'=>?_
 simp
 apply hk'
 exact Runs.ret Tryz.func95 (RetOk.one Tryz.results95) (hQ _ _ _ _ (.v _ _ _) (by simp[hd0,hd1,hd2]))
theorem e46:Ent Tryz.prog 46:=Ent.of Tryz.func46 (by kernel_rfl) rfl
theorem eqNodeS_ok (p q:List (GNode)) (hp:p.length≤1048576) (hl:∀ x ∈ p,x.links.length≤1048576):PureC Tryz.prog 46 [.list false (p.map (GNode.cells false)),.list false (q.map (GNode.cells false))] (fun r=>r=bool (decide (p=q))):=by
 refine PureC.of Tryz.func46 rfl Tryz.ntmps46 (by simp) fun Q hQ=>?_
 refine Runs.seqE Ty_ok (by decide) fun k' hk'=>?_
 simp   -- R0
 apply hk'
 refine Runs.seq ?_
 refine Runs.seqE Ty_ok (by decide) fun k' hk'=>?_
 simp   -- R1
 apply hk'
 refine Runs.ite rfl (fun hc1=>?_) (fun hc1=>?_)
 ·simp at hc1
  refine Runs.seqE Ty_ok (by decide) fun k' hk'=>?_
  simp   -- R2
  apply hk'
  refine Runs.ret Tryz.func46 (RetOk.one Tryz.results46) (hQ _ _ _ _ (.v _ _ _) ?_)
  have:p ≠ q:=by intro h;subst h;omega
  simp[this]
 ·simp at hc1
  have hlen:p.length=q.length:=by omega
  refine Runs.skip ?_
  refine Runs.seq ?_
  refine Runs.seqE Ty_ok (by decide) fun k' hk'=>?_
  simp   -- R3
  apply hk'
  refine Runs.block (Runs.loopUp p.length (fun k ρ H n=>ρ 0 = .list false (p.map (GNode.cells false))∧ρ 1 = .list false (q.map (GNode.cells false))∧ρ 5=int k∧p.take k=q.take k) ?_ ?_)
  ·simp
  ·rintro k ρ H n hk ⟨h0,h1,h5,heq⟩ IH
   refine Runs.seq ?_
   refine Runs.seqE Ty_ok (by decide) fun k' hk'=>?_
   simp [h0, h5]   -- R4
   apply hk'
   refine Runs.ite rfl (fun hc2=>?_) (fun hc2=>?_)
   ·simp at hc2
    have hq2:k<q.length:=by omega
    refine Runs.skip ?_
    refine Runs.seq ?_
    refine Runs.block ?_
    refine Runs.seqD Ty_ok kindOp_ok draws (by decide) (by kernel_rfl) fun k' hk'=>?_
    simp [h0, h1, h5, hc2, hq2, GNode.cells]   -- R6
    refine RunDK.callA Ty_ok kindOp_ok (eqNode_ok p[k] q[k] (hl _ (List.getElem_mem hc2))) e95 (.cons (ArgOk.nodeB false p[k]) (.cons (ArgOk.nodeB false q[k]) .nil)) (by decide) rfl (by simp[GNode.cells]) ?_
    simp
    apply hk'
    refine Runs.ite rfl (fun hc3=>?_) (fun hc3=>?_)
    ·simp at hc3
     refine Runs.seqE Ty_ok (by decide) fun k' hk'=>?_
     simp   -- R7
     apply hk'
     refine Runs.ret Tryz.func46 (RetOk.one Tryz.results46) (hQ _ _ _ _ (.v _ _ _) ?_)
     have:p ≠ q:=by intro h;subst h;exact hc3 rfl
     simp[this]
    ·simp at hc3
     refine Runs.skip ?_
     refine Runs.inBlock ?_
     refine Runs.evalE Ty_ok (by decide) fun k' hk'=>?_
     simp [h5, wrap_succ (show k < 4611686018427387904 by omega)]   -- R5
     apply hk'
     refine IH hc2 _ _ _ ?_
     refine⟨by simp[h0,GNode.cells],by simp[h1,GNode.cells],by simp,?_⟩
     rw[List.take_succ_eq_append_getElem hc2,List.take_succ_eq_append_getElem hq2,heq,hc3]
   ·simp at hc2
    refine Runs.exit rfl ?_
    refine Runs.seqE Ty_ok (by decide) fun k' hk'=>?_
    simp   -- R8
    apply hk'
    refine Runs.ret Tryz.func46 (RetOk.one Tryz.results46) (hQ _ _ _ _ (.v _ _ _) ?_)
    rw[List.take_of_length_le hc2,List.take_of_length_le (by omega)] at heq
    simp[heq]
theorem e16:Ent Tryz.prog 16:=Ent.of Tryz.func16 (by kernel_rfl) rfl
theorem eqBigraph_ok (x y:Big) (hb:x.nodes.length≤1048576∧(∀ z ∈ x.nodes,z.links.length≤1048576)∧x.sites.length≤1048576∧x.outer.length≤1048576∧x.inner.length≤1048576):PureC Tryz.prog 16 [.agg (Big.cells false x),.agg (Big.cells false y)] (fun r=>r=bool (decide (x=y))):=by
 obtain⟨x0,x1,x2,x3,x4,x5⟩:=x
 obtain⟨y0,y1,y2,y3,y4,y5⟩:=y
 refine PureC.of Tryz.func16 rfl Tryz.ntmps16 (by simp) fun Q hQ=>?_
 refine Runs.seqE Ty_ok (by decide) fun k' hk'=>?_
 simp [Big.cells, encN, encI, encS, encW]   -- R0
 apply hk'
 refine Runs.seq ?_
 refine Runs.seqE Ty_ok (by decide) fun k' hk'=>?_
 simp
 apply hk'
 refine Runs.ite rfl (fun hc=>?_) (fun hd0=>?_)
 ·simp at hc
  refine Runs.seqE Ty_ok (by decide) fun k' hk'=>?_
  simp
  apply hk'
  exact Runs.ret Tryz.func16 (RetOk.one Tryz.results16) (hQ _ _ _ _ (.v _ _ _) (by simp[hc]))
 simp at hd0
 refine Runs.skip ?_
 refine Runs.seq ?_
 refine Runs.seqE Ty_ok (by decide) fun k' hk'=>?_
 simp
 refine RunK.callA Ty_ok (eqNodeS_ok x1 y1 hb.1 hb.2.1) e46 (.cons (ArgOk.encN false x1) (.cons (ArgOk.encN false y1) .nil)) (by decide) (by decide) rfl (by simp[encN,encI,encS,encW]) ?_
 rintro _ rfl
 simp
 apply hk'
 refine Runs.ite rfl (fun hc=>?_) (fun hd1=>?_)
 ·simp at hc
  refine Runs.seqE Ty_ok (by decide) fun k' hk'=>?_
  simp
  apply hk'
  exact Runs.ret Tryz.func16 (RetOk.one Tryz.results16) (hQ _ _ _ _ (.v _ _ _) (by simp[hc]))
 simp at hd1
 refine Runs.skip ?_
 refine Runs.seq ?_
 refine Runs.seqE Ty_ok (by decide) fun k' hk'=>?_
 simp
 refine RunK.callA Ty_ok (eqIntS_ok x2 y2 hb.2.2.1) e14 (.cons (ArgOk.encI false x2) (.cons (ArgOk.encI false y2) .nil)) (by decide) (by decide) rfl (by simp[encN,encI,encS,encW]) ?_
 rintro _ rfl
 simp
 apply hk'
 refine Runs.ite rfl (fun hc=>?_) (fun hd2=>?_)
 ·simp at hc
  refine Runs.seqE Ty_ok (by decide) fun k' hk'=>?_
  simp
  apply hk'
  exact Runs.ret Tryz.func16 (RetOk.one Tryz.results16) (hQ _ _ _ _ (.v _ _ _) (by simp[hc]))
 simp at hd2
 refine Runs.skip ?_
 refine Runs.seq ?_
 refine Runs.seqE Ty_ok (by decide) fun k' hk'=>?_
 simp
 apply hk'
 refine Runs.ite rfl (fun hc=>?_) (fun hd3=>?_)
 ·simp at hc
  refine Runs.seqE Ty_ok (by decide) fun k' hk'=>?_
  simp
  apply hk'
  exact Runs.ret Tryz.func16 (RetOk.one Tryz.results16) (hQ _ _ _ _ (.v _ _ _) (by simp[hc]))
 simp at hd3
 refine Runs.skip ?_
 refine Runs.seq ?_
 refine Runs.seqE Ty_ok (by decide) fun k' hk'=>?_
 simp
 refine RunK.callA Ty_ok (eqStringS_ok x4 y4 hb.2.2.2.1) e47 (.cons (ArgOk.encS false x4) (.cons (ArgOk.encS false y4) .nil)) (by decide) (by decide) rfl (by simp[encN,encI,encS,encW]) ?_
 rintro _ rfl
 simp
 apply hk'
 refine Runs.ite rfl (fun hc=>?_) (fun hd4=>?_)
 ·simp at hc
  refine Runs.seqE Ty_ok (by decide) fun k' hk'=>?_
  simp
  apply hk'
  exact Runs.ret Tryz.func16 (RetOk.one Tryz.results16) (hQ _ _ _ _ (.v _ _ _) (by simp[hc]))
 simp at hd4
 refine Runs.skip ?_
 refine Runs.seq ?_
 refine Runs.seqE Ty_ok (by decide) fun k' hk'=>?_
 simp
 refine RunK.callA Ty_ok (eqWireS_ok x5 y5 hb.2.2.2.2) e48 (.cons (ArgOk.encW false x5) (.cons (ArgOk.encW false y5) .nil)) (by decide) (by decide) rfl (by simp[encN,encI,encS,encW]) ?_
 rintro _ rfl
 simp
 apply hk'
 refine Runs.ite rfl (fun hc=>?_) (fun hd5=>?_)
 ·simp at hc
  refine Runs.seqE Ty_ok (by decide) fun k' hk'=>?_
  simp
  apply hk'
  exact Runs.ret Tryz.func16 (RetOk.one Tryz.results16) (hQ _ _ _ _ (.v _ _ _) (by simp[hc]))
 simp at hd5
 refine Runs.skip ?_
 refine Runs.seqE Ty_ok (by decide) fun k' hk'=>?_
 simp
 apply hk'
 exact Runs.ret Tryz.func16 (RetOk.one Tryz.results16) (hQ _ _ _ _ (.v _ _ _) (by simp[hd0,hd1,hd2,hd3,hd4,hd5]))
end Go.Ab
/- Contracts of the laws' to.. functions of bigraphs' slices. By program. -/
namespace Go.Ab
open Go.Proofs
set_option linter.unusedSimpArgs false
theorem e40:Ent Tryz.prog 40:=Ent.of Tryz.func40 (by kernel_rfl) rfl
theorem toIntS_ok (p:List (Int)) (hp:p.length≤1048576):PureC Tryz.prog 40 [.list false (p.map intC)] (fun r=>r = .list true (p.map intC)):=by
 refine PureC.of Tryz.func40 rfl Tryz.ntmps40 (by simp) fun Q hQ=>?_
 refine Runs.seqE Ty_ok (by decide) fun k' hk'=>?_
 simp   -- R0
 apply hk'
 refine Runs.seqE Ty_ok (by decide) fun k' hk'=>?_
 simp [show (p.length : Int) ≤ 1073741824 by omega]   -- R1
 apply hk'
 refine Runs.seq ?_
 refine Runs.seqE Ty_ok (by decide) fun k' hk'=>?_
 simp   -- R2
 apply hk'
 refine Runs.block (Runs.loopUp p.length (fun k ρ H n=>ρ 0 = .list false (p.map intC)∧ρ 4=int k∧ρ 3 = .arr (0,7) p.length 0 p.length∧H (0,7)=some ⟨1,part intC [int 0] p k⟩) ?_ ?_)
 ·simp[intC,part_zero]
 ·rintro k ρ H n hk ⟨h0,h4,h3,hH⟩ IH
  refine Runs.seq ?_
  refine Runs.seqE Ty_ok (by decide) fun k' hk'=>?_
  simp [h0, h4]   -- R3
  apply hk'
  refine Runs.ite rfl (fun hc1=>?_) (fun hc1=>?_)
  ·simp at hc1
   refine Runs.skip ?_
   refine Runs.seq ?_
   refine Runs.block ?_
   refine Runs.evalE Ty_ok (by decide) fun k' hk'=>?_
   simp [h0, h3, h4, hH, hc1, part_len hk, part_get hc1, intC]   -- R5
   apply hk'
   refine Runs.inBlock ?_
   refine Runs.evalE Ty_ok (by decide) fun k' hk'=>?_
   simp [h4, wrap_succ (show k < 4611686018427387904 by omega)]   -- R4
   apply hk'
   refine IH hc1 _ _ _ ?_
   rw[← part_set hc1]
   simp[h0,h3,intC,part_get' hc1]
  ·simp at hc1
   have hke:k=p.length:=by omega
   subst hke
   rw[part_end] at hH
   refine Runs.exit rfl ?_
   refine Runs.seqE Ty_ok (by decide) fun k' hk'=>?_
   simp [h3]   -- R6
   apply hk'
   exact Runs.ret Tryz.func40 (RetOk.one Tryz.results40) (hQ _ _ _ _ (.of (Ret.arrF (by simp[hH];rfl) (by simp[intC,intC]))) rfl)
theorem e41:Ent Tryz.prog 41:=Ent.of Tryz.func41 (by kernel_rfl) rfl
theorem toStringS_ok (p:List (Str)) (hp:p.length≤1048576):PureC Tryz.prog 41 [.list false (p.map strC)] (fun r=>r = .list true (p.map strC)):=by
 refine PureC.of Tryz.func41 rfl Tryz.ntmps41 (by simp) fun Q hQ=>?_
 refine Runs.seqE Ty_ok (by decide) fun k' hk'=>?_
 simp   -- R0
 apply hk'
 refine Runs.seqE Ty_ok (by decide) fun k' hk'=>?_
 simp [show (p.length : Int) ≤ 1073741824 by omega]   -- R1
 apply hk'
 refine Runs.seq ?_
 refine Runs.seqE Ty_ok (by decide) fun k' hk'=>?_
 simp   -- R2
 apply hk'
 refine Runs.block (Runs.loopUp p.length (fun k ρ H n=>ρ 0 = .list false (p.map strC)∧ρ 4=int k∧ρ 3 = .arr (0,7) p.length 0 p.length∧H (0,7)=some ⟨1,part strC [str []] p k⟩) ?_ ?_)
 ·simp[strC,part_zero]
 ·rintro k ρ H n hk ⟨h0,h4,h3,hH⟩ IH
  refine Runs.seq ?_
  refine Runs.seqE Ty_ok (by decide) fun k' hk'=>?_
  simp [h0, h4]   -- R3
  apply hk'
  refine Runs.ite rfl (fun hc1=>?_) (fun hc1=>?_)
  ·simp at hc1
   refine Runs.skip ?_
   refine Runs.seq ?_
   refine Runs.block ?_
   refine Runs.evalE Ty_ok (by decide) fun k' hk'=>?_
   simp [h0, h3, h4, hH, hc1, part_len hk, part_get hc1, strC]   -- R5
   apply hk'
   refine Runs.inBlock ?_
   refine Runs.evalE Ty_ok (by decide) fun k' hk'=>?_
   simp [h4, wrap_succ (show k < 4611686018427387904 by omega)]   -- R4
   apply hk'
   refine IH hc1 _ _ _ ?_
   rw[← part_set hc1]
   simp[h0,h3,strC,part_get' hc1]
  ·simp at hc1
   have hke:k=p.length:=by omega
   subst hke
   rw[part_end] at hH
   refine Runs.exit rfl ?_
   refine Runs.seqE Ty_ok (by decide) fun k' hk'=>?_
   simp [h3]   -- R6
   apply hk'
   exact Runs.ret Tryz.func41 (RetOk.one Tryz.results41) (hQ _ _ _ _ (.of (Ret.arrF (by simp[hH];rfl) (by simp[strC,intC]))) rfl)
end Go.Ab
/- Contracts of the laws' to.. functions of bigraphs. By program. -/
namespace Go.Ab
open Go.Proofs
set_option linter.unusedSimpArgs false
theorem e80:Ent Tryz.prog 80:=Ent.of Tryz.func80 (by kernel_rfl) rfl
theorem toWire_ok (x:Wire):PureC Tryz.prog 80 [.agg (Wire.cells x)] (fun r=>r = .agg (Wire.cells x)):=by
 refine PureC.of Tryz.func80 rfl Tryz.ntmps80 (by simp) fun Q hQ=>?_
 refine Runs.seqE Ty_ok (by decide) fun k' hk'=>?_
 simp [Wire.cells, encN, encI, encS, encW]   -- R0
 apply hk'
 refine Runs.seqE Ty_ok (by decide) fun k' hk'=>?_
 simp   -- R1
 apply hk'
 refine Runs.seqE Ty_ok (by decide) fun k' hk'=>?_
 simp   -- R2
 apply hk'
 refine Runs.seqE Ty_ok (by decide) fun k' hk'=>?_
 simp   -- R3
 apply hk'
 refine Runs.seqE Ty_ok (by decide) fun k' hk'=>?_
 simp   -- R4
 apply hk'
 exact Runs.ret Tryz.func80 (RetOk.cell (cs:=Wire.cells x) (v:=.agg (Wire.cells x)) Ty_ok Tryz.results80 Ty_96 (by simp[Wire.cells,encN,encI,encS,encW]) (by simp[loadA,Wire.cells])) (hQ _ _ _ _ (.of (Ret.fresh (by simp[Wire.cells,encN,encI,encS,encW,GNode.cells,intC,strC,Wire.cells]))) rfl)
theorem e38:Ent Tryz.prog 38:=Ent.of Tryz.func38 (by kernel_rfl) rfl
theorem toControl_ok (x:Control):PureC Tryz.prog 38 [.agg (Control.cells x)] (fun r=>r = .agg (Control.cells x)):=by
 refine PureC.of Tryz.func38 rfl Tryz.ntmps38 (by simp) fun Q hQ=>?_
 refine Runs.seqE Ty_ok (by decide) fun k' hk'=>?_
 simp [Control.cells, encN, encI, encS, encW]   -- R0
 apply hk'
 refine Runs.seqE Ty_ok (by decide) fun k' hk'=>?_
 simp   -- R1
 apply hk'
 refine Runs.seqE Ty_ok (by decide) fun k' hk'=>?_
 simp   -- R2
 apply hk'
 refine Runs.seqE Ty_ok (by decide) fun k' hk'=>?_
 simp   -- R3
 apply hk'
 refine Runs.seqE Ty_ok (by decide) fun k' hk'=>?_
 simp   -- R4
 apply hk'
 refine Runs.seqE Ty_ok (by decide) fun k' hk'=>?_
 simp   -- R5
 apply hk'
 exact Runs.ret Tryz.func38 (RetOk.cell (cs:=Control.cells x) (v:=.agg (Control.cells x)) Ty_ok Tryz.results38 Ty_61 (by simp[Control.cells,encN,encI,encS,encW]) (by simp[loadA,Control.cells])) (hQ _ _ _ _ (.of (Ret.fresh (by simp[Control.cells,encN,encI,encS,encW,GNode.cells,intC,strC,Wire.cells]))) rfl)
theorem e79:Ent Tryz.prog 79:=Ent.of Tryz.func79 (by kernel_rfl) rfl
theorem toNode_ok (x:GNode) (hl:x.links.length≤1048576):PureC Tryz.prog 79 [.agg (GNode.cells false x)] (fun r=>r = .agg (GNode.cells true x)):=by
 refine PureC.of Tryz.func79 rfl Tryz.ntmps79 (by simp) fun Q hQ=>?_
 refine Runs.seqE Ty_ok (by decide) fun k' hk'=>?_
 simp [GNode.cells, encN, encI, encS, encW]   -- R0
 apply hk'
 refine Runs.seqE Ty_ok (by decide) fun k' hk'=>?_
 simp   -- R1
 apply hk'
 refine Runs.seqE Ty_ok (by decide) fun k' hk'=>?_
 simp   -- R2
 apply hk'
 refine Runs.seqE Ty_ok (by decide) fun k' hk'=>?_
 simp   -- R3
 apply hk'
 refine Runs.seqE Ty_ok (by decide) fun k' hk'=>?_
 simp   -- R4
 refine RunK.callA Ty_ok (toIntS_ok x.links hl) e40 (.cons (ArgOk.encI false x.links) .nil) (by decide) (by decide) rfl (by simp[encN,encI,encS,encW]) ?_
 rintro _ rfl
 simp
 apply hk'
 refine Runs.seqE Ty_ok (by decide) fun k' hk'=>?_
 simp   -- R5
 apply hk'
 exact Runs.ret Tryz.func79 (RetOk.cell (cs:=GNode.cells true x) (v:=.agg (GNode.cells true x)) Ty_ok Tryz.results79 Ty_99 (by simp[GNode.cells,encN,encI,encS,encW]) (by simp[loadA,GNode.cells])) (hQ _ _ _ _ (.of (Ret.fresh (by simp[GNode.cells,encN,encI,encS,encW,GNode.cells,intC,strC,Wire.cells]))) rfl)
theorem e42:Ent Tryz.prog 42:=Ent.of Tryz.func42 (by kernel_rfl) rfl
theorem toWireS_ok (p:List (Wire)) (hp:p.length≤1048576):PureC Tryz.prog 42 [.list false (p.map Wire.cells)] (fun r=>r = .list true (p.map Wire.cells)):=by
 refine PureC.of Tryz.func42 rfl Tryz.ntmps42 (by simp) fun Q hQ=>?_
 refine Runs.seqE Ty_ok (by decide) fun k' hk'=>?_
 simp   -- R0
 apply hk'
 refine Runs.seqE Ty_ok (by decide) fun k' hk'=>?_
 simp [show (p.length : Int) ≤ 1073741824 by omega]   -- R1
 apply hk'
 refine Runs.seq ?_
 refine Runs.seqE Ty_ok (by decide) fun k' hk'=>?_
 simp   -- R2
 apply hk'
 refine Runs.block (Runs.loopUp p.length (fun k ρ H n=>ρ 0 = .list false (p.map Wire.cells)∧ρ 4=int k∧ρ 3 = .arr (0,7) p.length 0 p.length∧H (0,7)=some ⟨2,part Wire.cells [str [],int 0] p k⟩) ?_ ?_)
 ·simp[Wire.cells,part_zero]
 ·rintro k ρ H n hk ⟨h0,h4,h3,hH⟩ IH
  refine Runs.seq ?_
  refine Runs.seqE Ty_ok (by decide) fun k' hk'=>?_
  simp [h0, h4]   -- R3
  apply hk'
  refine Runs.ite rfl (fun hc1=>?_) (fun hc1=>?_)
  ·simp at hc1
   refine Runs.skip ?_
   refine Runs.seq ?_
   refine Runs.block ?_
   refine Runs.evalE Ty_ok (by decide) fun k' hk'=>?_
   simp [h0, h3, h4, hH, hc1, part_len hk, part_get hc1, Wire.cells]   -- R5
   refine RunK.callA Ty_ok (toWire_ok p[k]) e80 (.cons (ArgOk.wireB _) .nil) (by decide) (by decide) rfl (by simp[Wire.cells]) ?_
   rintro _ rfl
   simp[h3,h4,hH,hc1,part_len hk,part_get hc1,Wire.cells]
   apply hk'
   refine Runs.inBlock ?_
   refine Runs.evalE Ty_ok (by decide) fun k' hk'=>?_
   simp [h4, wrap_succ (show k < 4611686018427387904 by omega)]   -- R4
   apply hk'
   refine IH hc1 _ _ _ ?_
   rw[← part_set hc1]
   simp[h0,h3,Wire.cells,part_get' hc1]
  ·simp at hc1
   have hke:k=p.length:=by omega
   subst hke
   rw[part_end] at hH
   refine Runs.exit rfl ?_
   refine Runs.seqE Ty_ok (by decide) fun k' hk'=>?_
   simp [h3]   -- R6
   apply hk'
   exact Runs.ret Tryz.func42 (RetOk.one Tryz.results42) (hQ _ _ _ _ (.of (Ret.arrF (by simp[hH];rfl) (by simp[Wire.cells,intC]))) rfl)
theorem e11:Ent Tryz.prog 11:=Ent.of Tryz.func11 (by kernel_rfl) rfl
theorem toControlS_ok (p:List (Control)) (hp:p.length≤1048576):PureC Tryz.prog 11 [.list false (p.map Control.cells)] (fun r=>r = .list true (p.map Control.cells)):=by
 refine PureC.of Tryz.func11 rfl Tryz.ntmps11 (by simp) fun Q hQ=>?_
 refine Runs.seqE Ty_ok (by decide) fun k' hk'=>?_
 simp   -- R0
 apply hk'
 refine Runs.seqE Ty_ok (by decide) fun k' hk'=>?_
 simp [show (p.length : Int) ≤ 1073741824 by omega]   -- R1
 apply hk'
 refine Runs.seq ?_
 refine Runs.seqE Ty_ok (by decide) fun k' hk'=>?_
 simp   -- R2
 apply hk'
 refine Runs.block (Runs.loopUp p.length (fun k ρ H n=>ρ 0 = .list false (p.map Control.cells)∧ρ 4=int k∧ρ 3 = .arr (0,7) p.length 0 p.length∧H (0,7)=some ⟨3,part Control.cells [str [],int 0,int 0] p k⟩) ?_ ?_)
 ·simp[Control.cells,part_zero]
 ·rintro k ρ H n hk ⟨h0,h4,h3,hH⟩ IH
  refine Runs.seq ?_
  refine Runs.seqE Ty_ok (by decide) fun k' hk'=>?_
  simp [h0, h4]   -- R3
  apply hk'
  refine Runs.ite rfl (fun hc1=>?_) (fun hc1=>?_)
  ·simp at hc1
   refine Runs.skip ?_
   refine Runs.seq ?_
   refine Runs.block ?_
   refine Runs.evalE Ty_ok (by decide) fun k' hk'=>?_
   simp [h0, h3, h4, hH, hc1, part_len hk, part_get hc1, Control.cells]   -- R5
   refine RunK.callA Ty_ok (toControl_ok p[k]) e38 (.cons (ArgOk.ctlB _) .nil) (by decide) (by decide) rfl (by simp[Control.cells]) ?_
   rintro _ rfl
   simp[h3,h4,hH,hc1,part_len hk,part_get hc1,Control.cells]
   apply hk'
   refine Runs.inBlock ?_
   refine Runs.evalE Ty_ok (by decide) fun k' hk'=>?_
   simp [h4, wrap_succ (show k < 4611686018427387904 by omega)]   -- R4
   apply hk'
   refine IH hc1 _ _ _ ?_
   rw[← part_set hc1]
   simp[h0,h3,Control.cells,part_get' hc1]
  ·simp at hc1
   have hke:k=p.length:=by omega
   subst hke
   rw[part_end] at hH
   refine Runs.exit rfl ?_
   refine Runs.seqE Ty_ok (by decide) fun k' hk'=>?_
   simp [h3]   -- R6
   apply hk'
   exact Runs.ret Tryz.func11 (RetOk.one Tryz.results11) (hQ _ _ _ _ (.of (Ret.arrF (by simp[hH];rfl) (by simp[Control.cells,intC]))) rfl)
theorem e39:Ent Tryz.prog 39:=Ent.of Tryz.func39 (by kernel_rfl) rfl
theorem toNodeS_ok (p:List (GNode)) (hp:p.length≤1048576) (hl:∀ x ∈ p,x.links.length≤1048576):PureC Tryz.prog 39 [.list false (p.map (GNode.cells false))] (fun r=>r = .list true (p.map (GNode.cells true))):=by
 refine PureC.of Tryz.func39 rfl Tryz.ntmps39 (by simp) fun Q hQ=>?_
 refine Runs.seqE Ty_ok (by decide) fun k' hk'=>?_
 simp   -- R0
 apply hk'
 refine Runs.seqE Ty_ok (by decide) fun k' hk'=>?_
 simp [show (p.length : Int) ≤ 1073741824 by omega]   -- R1
 apply hk'
 refine Runs.seq ?_
 refine Runs.seqE Ty_ok (by decide) fun k' hk'=>?_
 simp   -- R2
 apply hk'
 refine Runs.block (Runs.loopUp p.length (fun k ρ H n=>ρ 0 = .list false (p.map (GNode.cells false))∧ρ 4=int k∧ρ 3 = .arr (0,7) p.length 0 p.length∧H (0,7)=some ⟨3,part (GNode.cells true) [int 0,int 0,.v (.slice none 0 0)] p k⟩) ?_ ?_)
 ·simp[GNode.cells,part_zero]
 ·rintro k ρ H n hk ⟨h0,h4,h3,hH⟩ IH
  refine Runs.seq ?_
  refine Runs.seqE Ty_ok (by decide) fun k' hk'=>?_
  simp [h0, h4]   -- R3
  apply hk'
  refine Runs.ite rfl (fun hc1=>?_) (fun hc1=>?_)
  ·simp at hc1
   refine Runs.skip ?_
   refine Runs.seq ?_
   refine Runs.block ?_
   refine Runs.evalE Ty_ok (by decide) fun k' hk'=>?_
   simp [h0, h3, h4, hH, hc1, part_len hk, part_get hc1, GNode.cells]   -- R5
   refine RunK.callA Ty_ok (toNode_ok p[k] (hl _ (List.getElem_mem hc1))) e79 (.cons (ArgOk.nodeB false _) .nil) (by decide) (by decide) rfl (by simp[GNode.cells]) ?_
   rintro _ rfl
   simp[h3,h4,hH,hc1,part_len hk,part_get hc1,GNode.cells]
   apply hk'
   refine Runs.inBlock ?_
   refine Runs.evalE Ty_ok (by decide) fun k' hk'=>?_
   simp [h4, wrap_succ (show k < 4611686018427387904 by omega)]   -- R4
   apply hk'
   refine IH hc1 _ _ _ ?_
   rw[← part_set hc1]
   simp[h0,h3,GNode.cells,part_get' hc1]
  ·simp at hc1
   have hke:k=p.length:=by omega
   subst hke
   rw[part_end] at hH
   refine Runs.exit rfl ?_
   refine Runs.seqE Ty_ok (by decide) fun k' hk'=>?_
   simp [h3]   -- R6
   apply hk'
   exact Runs.ret Tryz.func39 (RetOk.one Tryz.results39) (hQ _ _ _ _ (.of (Ret.arrF (by simp[hH];rfl) (by simp[GNode.cells,intC]))) rfl)
theorem e12:Ent Tryz.prog 12:=Ent.of Tryz.func12 (by kernel_rfl) rfl
theorem toBigraph_ok (x:Big) (hb:x.nodes.length≤1048576∧(∀ z ∈ x.nodes,z.links.length≤1048576)∧x.sites.length≤1048576∧x.outer.length≤1048576∧x.inner.length≤1048576):PureC Tryz.prog 12 [.agg (Big.cells false x)] (fun r=>r = .agg (Big.cells true x)):=by
 refine PureC.of Tryz.func12 rfl Tryz.ntmps12 (by simp) fun Q hQ=>?_
 refine Runs.seqE Ty_ok (by decide) fun k' hk'=>?_
 simp [Big.cells, encN, encI, encS, encW]   -- R0
 apply hk'
 refine Runs.seqE Ty_ok (by decide) fun k' hk'=>?_
 simp   -- R1
 apply hk'
 refine Runs.seqE Ty_ok (by decide) fun k' hk'=>?_
 simp   -- R2
 apply hk'
 refine Runs.seqE Ty_ok (by decide) fun k' hk'=>?_
 simp   -- R3
 refine RunK.callA Ty_ok (toNodeS_ok x.nodes hb.1 hb.2.1) e39 (.cons (ArgOk.encN false x.nodes) .nil) (by decide) (by decide) rfl (by simp[encN,encI,encS,encW]) ?_
 rintro _ rfl
 simp
 apply hk'
 refine Runs.seqE Ty_ok (by decide) fun k' hk'=>?_
 simp   -- R4
 refine RunK.callA Ty_ok (toIntS_ok x.sites hb.2.2.1) e40 (.cons (ArgOk.encI false x.sites) .nil) (by decide) (by decide) rfl (by simp[encN,encI,encS,encW]) ?_
 rintro _ rfl
 simp
 apply hk'
 refine Runs.seqE Ty_ok (by decide) fun k' hk'=>?_
 simp   -- R5
 apply hk'
 refine Runs.seqE Ty_ok (by decide) fun k' hk'=>?_
 simp   -- R6
 refine RunK.callA Ty_ok (toStringS_ok x.outer hb.2.2.2.1) e41 (.cons (ArgOk.encS false x.outer) .nil) (by decide) (by decide) rfl (by simp[encN,encI,encS,encW]) ?_
 rintro _ rfl
 simp
 apply hk'
 refine Runs.seqE Ty_ok (by decide) fun k' hk'=>?_
 simp   -- R7
 refine RunK.callA Ty_ok (toWireS_ok x.inner hb.2.2.2.2) e42 (.cons (ArgOk.encW false x.inner) .nil) (by decide) (by decide) rfl (by simp[encN,encI,encS,encW]) ?_
 rintro _ rfl
 simp
 apply hk'
 refine Runs.seqE Ty_ok (by decide) fun k' hk'=>?_
 simp   -- R8
 apply hk'
 exact Runs.ret Tryz.func12 (RetOk.cell (cs:=Big.cells true x) (v:=.agg (Big.cells true x)) Ty_ok Tryz.results12 Ty_38 (by simp[Big.cells,encN,encI,encS,encW]) (by simp[loadA,Big.cells])) (hQ _ _ _ _ (.of (Ret.fresh (by simp[Big.cells,encN,encI,encS,encW,GNode.cells,intC,strC,Wire.cells]))) rfl)
end Go.Ab
/- Contracts of spec.l12Kids, spec.l12Word and spec.l12Around. -/
namespace Go.Ab
open Go.Proofs
set_option linter.unusedSimpArgs false
end Go.Ab
/- Contracts of spec.l12In and spec.ProcessText. -/
namespace Go.Ab
open Go.Proofs
set_option linter.unusedSimpArgs false
end Go.Ab
/- Contracts of laws.szAmbNode, laws.szAmbNodeS and laws.szProcess. -/
namespace Go.Ab
open Go.Proofs
set_option linter.unusedSimpArgs false
def szStr (s:Str) (left:Int):Int:=if left - s.length<0 then -1 else left - s.length
def Small (p:Proc):Prop:=p.length≤9223372036854775807∧∀ x ∈ p,x.name.length≤9223372036854775807
end Go.Ab
/- Contracts of the laws' sz.. functions of bigraphs. By program. -/
namespace Go.Ab
open Go.Proofs
set_option linter.unusedSimpArgs false
def szL {α:Type} (f:α→Int→Int):List α→Int→Int
 | [],left=>left
 | x::r,left=>if f x left<0 then -1 else szL f r (f x left)
def szS {α:Type} (f:α→Int→Int) (l:List α) (left:Int):Int:=if left - l.length<0 then -1 else szL f l (left - l.length)
def szI (l:List Int) (left:Int):Int:=if left - l.length<0 then -1 else left - l.length
def szC (x:Control) (left:Int):Int:=szStr x.name left
def szW (x:Wire) (left:Int):Int:=szStr x.name left
def szN (x:GNode) (left:Int):Int:=szI x.links left
class SzF {α:Type} (f:α→Int→Int):Prop where
 le:∀ x left,0≤left→f x left≤left
theorem f_le {α:Type} (f:α→Int→Int) [SzF f] (x:α) (left:Int) (h:0≤left):f x left≤left:=SzF.le x left h
instance:SzF szStr:=⟨fun x left h=>by unfold szStr;split<;>omega⟩
instance:SzF szI:=⟨fun x left h=>by unfold szI;split<;>omega⟩
instance:SzF szC:=⟨fun x left h=>by unfold szC szStr;split<;>omega⟩
instance:SzF szW:=⟨fun x left h=>by unfold szW szStr;split<;>omega⟩
instance:SzF szN:=⟨fun x left h=>by unfold szN szI;split<;>omega⟩
theorem e30:Ent Tryz.prog 30:=Ent.of Tryz.func30 (by kernel_rfl) rfl
theorem szControl_ok (x:Control) (left:Int) (h0:0≤left) (h1:left≤1048576) (hn:x.name.length≤9223372036854775807):PureC Tryz.prog 30 [.agg x.cells,int left] (fun r=>r=int (szC x left)):=by
 refine PureC.of Tryz.func30 rfl Tryz.ntmps30 (by simp) fun Q hQ=>?_
 refine Runs.seqE Ty_ok (by decide) fun k' hk'=>?_
 simp [Control.cells]   -- R0
 apply hk'
 refine Runs.seqE Ty_ok (by decide) fun k' hk'=>?_
 simp[show -9223372036854775808≤left - (x.name.length:Int) by omega,show left - (x.name.length:Int)≤9223372036854775807 by omega]
 apply hk'
 refine Runs.seq ?_
 refine Runs.seqE Ty_ok (by decide) fun k' hk'=>?_
 simp   -- R2
 apply hk'
 refine Runs.ite rfl (fun hc1=>?_) (fun hc1=>?_)
 ·simp only[decide_eq_true_eq] at hc1
  refine Runs.seqE Ty_ok (by decide) fun k' hk'=>?_
  simp   -- R3
  apply hk'
  refine Runs.ret Tryz.func30 (RetOk.one Tryz.results30) (hQ _ _ _ _ (.v _ _ _) ?_)
  rw[szC,szStr,if_pos hc1]
 ·simp only[decide_eq_false_iff_not] at hc1
  refine Runs.skip ?_
  refine Runs.seqE Ty_ok (by decide) fun k' hk'=>?_
  simp   -- R4
  apply hk'
  refine Runs.ret Tryz.func30 (RetOk.one Tryz.results30) (hQ _ _ _ _ (.v _ _ _) ?_)
  rw[szC,szStr,if_neg hc1]
theorem e68:Ent Tryz.prog 68:=Ent.of Tryz.func68 (by kernel_rfl) rfl
theorem szWire_ok (x:Wire) (left:Int) (h0:0≤left) (h1:left≤1048576) (hn:x.name.length≤9223372036854775807):PureC Tryz.prog 68 [.agg x.cells,int left] (fun r=>r=int (szW x left)):=by
 refine PureC.of Tryz.func68 rfl Tryz.ntmps68 (by simp) fun Q hQ=>?_
 refine Runs.seqE Ty_ok (by decide) fun k' hk'=>?_
 simp [Wire.cells]   -- R0
 apply hk'
 refine Runs.seqE Ty_ok (by decide) fun k' hk'=>?_
 simp[show -9223372036854775808≤left - (x.name.length:Int) by omega,show left - (x.name.length:Int)≤9223372036854775807 by omega]
 apply hk'
 refine Runs.seq ?_
 refine Runs.seqE Ty_ok (by decide) fun k' hk'=>?_
 simp   -- R2
 apply hk'
 refine Runs.ite rfl (fun hc1=>?_) (fun hc1=>?_)
 ·simp only[decide_eq_true_eq] at hc1
  refine Runs.seqE Ty_ok (by decide) fun k' hk'=>?_
  simp   -- R3
  apply hk'
  refine Runs.ret Tryz.func68 (RetOk.one Tryz.results68) (hQ _ _ _ _ (.v _ _ _) ?_)
  rw[szW,szStr,if_pos hc1]
 ·simp only[decide_eq_false_iff_not] at hc1
  refine Runs.skip ?_
  refine Runs.seqE Ty_ok (by decide) fun k' hk'=>?_
  simp   -- R4
  apply hk'
  refine Runs.ret Tryz.func68 (RetOk.one Tryz.results68) (hQ _ _ _ _ (.v _ _ _) ?_)
  rw[szW,szStr,if_neg hc1]
theorem e32:Ent Tryz.prog 32:=Ent.of Tryz.func32 (by kernel_rfl) rfl
theorem szIntS_ok (x:List Int) (left:Int) (h0:0≤left) (h1:left≤1048576) (hn:x.length≤9223372036854775807):PureC Tryz.prog 32 [encI false x,int left] (fun r=>r=int (szI x left)):=by
 refine PureC.of Tryz.func32 rfl Tryz.ntmps32 (by simp) fun Q hQ=>?_
 refine Runs.seqE Ty_ok (by decide) fun k' hk'=>?_
 simp [encI]   -- R0
 apply hk'
 refine Runs.seqE Ty_ok (by decide) fun k' hk'=>?_
 simp[show -9223372036854775808≤left - (x.length:Int) by omega,show left - (x.length:Int)≤9223372036854775807 by omega]
 apply hk'
 refine Runs.seq ?_
 refine Runs.seqE Ty_ok (by decide) fun k' hk'=>?_
 simp   -- R2
 apply hk'
 refine Runs.ite rfl (fun hc1=>?_) (fun hc1=>?_)
 ·simp only[decide_eq_true_eq] at hc1
  refine Runs.seqE Ty_ok (by decide) fun k' hk'=>?_
  simp   -- R3
  apply hk'
  refine Runs.ret Tryz.func32 (RetOk.one Tryz.results32) (hQ _ _ _ _ (.v _ _ _) ?_)
  rw[szI,if_pos hc1]
 ·simp only[decide_eq_false_iff_not] at hc1
  refine Runs.skip ?_
  refine Runs.seqE Ty_ok (by decide) fun k' hk'=>?_
  simp   -- R4
  apply hk'
  refine Runs.ret Tryz.func32 (RetOk.one Tryz.results32) (hQ _ _ _ _ (.v _ _ _) ?_)
  rw[szI,if_neg hc1]
theorem e67:Ent Tryz.prog 67:=Ent.of Tryz.func67 (by kernel_rfl) rfl
theorem szNode_ok (x:GNode) (left:Int) (h0:0≤left) (h1:left≤1048576) (hn:x.links.length≤9223372036854775807):PureC Tryz.prog 67 [.agg (x.cells false),int left] (fun r=>r=int (szN x left)):=by
 refine PureC.of Tryz.func67 rfl Tryz.ntmps67 (by simp) fun Q hQ=>?_
 refine Runs.seqE Ty_ok (by decide) fun k' hk'=>?_
 simp [GNode.cells]   -- R0
 apply hk'
 refine Runs.seqE Ty_ok (by decide) fun k' hk'=>?_
 simp
 refine RunK.callA Ty_ok (szIntS_ok x.links left h0 h1 hn) e32 (.cons (ArgOk.encI false x.links) (.cons (.v _ _ _) .nil)) (by decide) (by decide) rfl (by simp[encI]) ?_
 rintro _ rfl
 simp
 apply hk'
 refine Runs.seq ?_
 refine Runs.seqE Ty_ok (by decide) fun k' hk'=>?_
 simp   -- R2
 apply hk'
 refine Runs.ite rfl (fun hc1=>?_) (fun hc1=>?_)
 ·simp only[decide_eq_true_eq] at hc1
  refine Runs.seqE Ty_ok (by decide) fun k' hk'=>?_
  simp   -- R3
  apply hk'
  refine Runs.ret Tryz.func67 (RetOk.one Tryz.results67) (hQ _ _ _ _ (.v _ _ _) ?_)
  simp only[Env.put]
  have:szI x.links left = -1:=by
   unfold szI at hc1 ⊢
   split<;>rename_i h
   ·rfl
   ·rw[if_neg h] at hc1;omega
  simp[szN,this]
 ·simp only[decide_eq_false_iff_not] at hc1
  refine Runs.skip ?_
  refine Runs.seqE Ty_ok (by decide) fun k' hk'=>?_
  simp   -- R4
  apply hk'
  refine Runs.ret Tryz.func67 (RetOk.one Tryz.results67) (hQ _ _ _ _ (.v _ _ _) ?_)
  rfl
theorem e8:Ent Tryz.prog 8:=Ent.of Tryz.func8 (by kernel_rfl) rfl
theorem szControlS_ok (p:List (Control)) (left:Int) (h0:0≤left) (h1:left≤1048576) (hp1:p.length≤9223372036854775807) (hp2:∀ x ∈ p,x.name.length≤9223372036854775807):PureC Tryz.prog 8 [.list false (p.map Control.cells),int left] (fun r=>r=int (szS szC p left)):=by
 refine PureC.of Tryz.func8 rfl Tryz.ntmps8 (by simp) fun Q hQ=>?_
 refine Runs.seqE Ty_ok (by decide) fun k' hk'=>?_
 simp   -- R0
 apply hk'
 refine Runs.seqE Ty_ok (by decide) fun k' hk'=>?_
 simp [show -9223372036854775808 ≤ left - p.length by omega, show left - p.length ≤ 9223372036854775807 by omega]   -- R1
 apply hk'
 refine Runs.seq ?_
 refine Runs.seqE Ty_ok (by decide) fun k' hk'=>?_
 simp   -- R2
 apply hk'
 refine Runs.ite rfl (fun hc1=>?_) (fun hc1=>?_)
 ·simp only[decide_eq_true_eq] at hc1
  refine Runs.seqE Ty_ok (by decide) fun k' hk'=>?_
  simp   -- R3
  apply hk'
  refine Runs.ret Tryz.func8 (RetOk.one Tryz.results8) (hQ _ _ _ _ (.v _ _ _) ?_)
  rw[szS,if_pos hc1]
 ·simp only[decide_eq_false_iff_not] at hc1
  refine Runs.skip ?_
  refine Runs.seq ?_
  refine Runs.seqE Ty_ok (by decide) fun k' hk'=>?_
  simp   -- R4
  apply hk'
  refine Runs.block (Runs.loopUp p.length (fun k ρ H n=>ρ 0 = .list false (p.map Control.cells)∧ρ 5=int k∧∃ cur:Int,ρ 1=int cur∧0≤cur∧cur≤left∧szL szC (p.drop k) cur=szS szC p left) ?_ ?_)
  ·refine⟨by simp,by simp,left - p.length,by simp,by omega,by omega,?_⟩
   rw[szS,if_neg hc1,List.drop_zero]
  ·rintro k ρ H n hk ⟨h0,h5,cur,h1',hcur,hcl,hsz⟩ IH
   refine Runs.seq ?_
   refine Runs.seqE Ty_ok (by decide) fun k' hk'=>?_
   simp [h0, h5]   -- R5
   apply hk'
   refine Runs.ite rfl (fun hc2=>?_) (fun hc2=>?_)
   ·simp at hc2
    have hel:=hp2 _ (List.getElem_mem hc2)
    refine Runs.skip ?_
    refine Runs.seq ?_
    refine Runs.block ?_
    refine Runs.seqE Ty_ok (by decide) fun k' hk'=>?_
    simp [h0, h5, h1', hc2, Control.cells]   -- R7
    refine RunK.callA Ty_ok (szControl_ok p[k] cur hcur (by omega) hel) e30 (.cons (ArgOk.ctlB _) (.cons (.v _ _ _) .nil)) (by decide) (by decide) rfl (by simp[Control.cells,h1']) ?_
    rintro _ rfl
    simp
    apply hk'
    rw[List.drop_eq_getElem_cons hc2,szL] at hsz
    refine Runs.seqE Ty_ok (by decide) fun k' hk'=>?_
    simp   -- R8
    apply hk'
    refine Runs.ite rfl (fun hc3=>?_) (fun hc3=>?_)
    ·simp only[decide_eq_true_eq] at hc3
     refine Runs.seqE Ty_ok (by decide) fun k' hk'=>?_
     simp   -- R9
     apply hk'
     refine Runs.ret Tryz.func8 (RetOk.one Tryz.results8) (hQ _ _ _ _ (.v _ _ _) ?_)
     rw[← hsz]
     rw[if_pos hc3]
    ·simp only[decide_eq_false_iff_not] at hc3
     refine Runs.skip ?_
     refine Runs.inBlock ?_
     refine Runs.evalE Ty_ok (by decide) fun k' hk'=>?_
     simp [h5, wrap_succ (show k < 4611686018427387904 by omega)]   -- R6
     apply hk'
     refine IH hc2 _ _ _ ?_
     have hle:=f_le szC p[k] cur hcur
     rw[if_neg hc3] at hsz
     exact⟨by simp[h0,Control.cells],by simp,szC p[k] cur,by simp,by omega,by omega,hsz⟩
   ·simp at hc2
    have hke:k=p.length:=by omega
    subst hke
    rw[List.drop_length,szL] at hsz
    refine Runs.exit rfl ?_
    refine Runs.seqE Ty_ok (by decide) fun k' hk'=>?_
    simp [h1']   -- R10
    apply hk'
    exact Runs.ret Tryz.func8 (RetOk.one Tryz.results8) (hQ _ _ _ _ (.v _ _ _) (by rw[hsz]))
theorem e34:Ent Tryz.prog 34:=Ent.of Tryz.func34 (by kernel_rfl) rfl
theorem szWireS_ok (p:List (Wire)) (left:Int) (h0:0≤left) (h1:left≤1048576) (hp1:p.length≤9223372036854775807) (hp2:∀ x ∈ p,x.name.length≤9223372036854775807):PureC Tryz.prog 34 [.list false (p.map Wire.cells),int left] (fun r=>r=int (szS szW p left)):=by
 refine PureC.of Tryz.func34 rfl Tryz.ntmps34 (by simp) fun Q hQ=>?_
 refine Runs.seqE Ty_ok (by decide) fun k' hk'=>?_
 simp   -- R0
 apply hk'
 refine Runs.seqE Ty_ok (by decide) fun k' hk'=>?_
 simp [show -9223372036854775808 ≤ left - p.length by omega, show left - p.length ≤ 9223372036854775807 by omega]   -- R1
 apply hk'
 refine Runs.seq ?_
 refine Runs.seqE Ty_ok (by decide) fun k' hk'=>?_
 simp   -- R2
 apply hk'
 refine Runs.ite rfl (fun hc1=>?_) (fun hc1=>?_)
 ·simp only[decide_eq_true_eq] at hc1
  refine Runs.seqE Ty_ok (by decide) fun k' hk'=>?_
  simp   -- R3
  apply hk'
  refine Runs.ret Tryz.func34 (RetOk.one Tryz.results34) (hQ _ _ _ _ (.v _ _ _) ?_)
  rw[szS,if_pos hc1]
 ·simp only[decide_eq_false_iff_not] at hc1
  refine Runs.skip ?_
  refine Runs.seq ?_
  refine Runs.seqE Ty_ok (by decide) fun k' hk'=>?_
  simp   -- R4
  apply hk'
  refine Runs.block (Runs.loopUp p.length (fun k ρ H n=>ρ 0 = .list false (p.map Wire.cells)∧ρ 5=int k∧∃ cur:Int,ρ 1=int cur∧0≤cur∧cur≤left∧szL szW (p.drop k) cur=szS szW p left) ?_ ?_)
  ·refine⟨by simp,by simp,left - p.length,by simp,by omega,by omega,?_⟩
   rw[szS,if_neg hc1,List.drop_zero]
  ·rintro k ρ H n hk ⟨h0,h5,cur,h1',hcur,hcl,hsz⟩ IH
   refine Runs.seq ?_
   refine Runs.seqE Ty_ok (by decide) fun k' hk'=>?_
   simp [h0, h5]   -- R5
   apply hk'
   refine Runs.ite rfl (fun hc2=>?_) (fun hc2=>?_)
   ·simp at hc2
    have hel:=hp2 _ (List.getElem_mem hc2)
    refine Runs.skip ?_
    refine Runs.seq ?_
    refine Runs.block ?_
    refine Runs.seqE Ty_ok (by decide) fun k' hk'=>?_
    simp [h0, h5, h1', hc2, Wire.cells]   -- R7
    refine RunK.callA Ty_ok (szWire_ok p[k] cur hcur (by omega) hel) e68 (.cons (ArgOk.wireB _) (.cons (.v _ _ _) .nil)) (by decide) (by decide) rfl (by simp[Wire.cells,h1']) ?_
    rintro _ rfl
    simp
    apply hk'
    rw[List.drop_eq_getElem_cons hc2,szL] at hsz
    refine Runs.seqE Ty_ok (by decide) fun k' hk'=>?_
    simp   -- R8
    apply hk'
    refine Runs.ite rfl (fun hc3=>?_) (fun hc3=>?_)
    ·simp only[decide_eq_true_eq] at hc3
     refine Runs.seqE Ty_ok (by decide) fun k' hk'=>?_
     simp   -- R9
     apply hk'
     refine Runs.ret Tryz.func34 (RetOk.one Tryz.results34) (hQ _ _ _ _ (.v _ _ _) ?_)
     rw[← hsz]
     rw[if_pos hc3]
    ·simp only[decide_eq_false_iff_not] at hc3
     refine Runs.skip ?_
     refine Runs.inBlock ?_
     refine Runs.evalE Ty_ok (by decide) fun k' hk'=>?_
     simp [h5, wrap_succ (show k < 4611686018427387904 by omega)]   -- R6
     apply hk'
     refine IH hc2 _ _ _ ?_
     have hle:=f_le szW p[k] cur hcur
     rw[if_neg hc3] at hsz
     exact⟨by simp[h0,Wire.cells],by simp,szW p[k] cur,by simp,by omega,by omega,hsz⟩
   ·simp at hc2
    have hke:k=p.length:=by omega
    subst hke
    rw[List.drop_length,szL] at hsz
    refine Runs.exit rfl ?_
    refine Runs.seqE Ty_ok (by decide) fun k' hk'=>?_
    simp [h1']   -- R10
    apply hk'
    exact Runs.ret Tryz.func34 (RetOk.one Tryz.results34) (hQ _ _ _ _ (.v _ _ _) (by rw[hsz]))
theorem e31:Ent Tryz.prog 31:=Ent.of Tryz.func31 (by kernel_rfl) rfl
theorem szNodeS_ok (p:List (GNode)) (left:Int) (h0:0≤left) (h1:left≤1048576) (hp1:p.length≤9223372036854775807) (hp2:∀ x ∈ p,x.links.length≤9223372036854775807):PureC Tryz.prog 31 [.list false (p.map (GNode.cells false)),int left] (fun r=>r=int (szS szN p left)):=by
 refine PureC.of Tryz.func31 rfl Tryz.ntmps31 (by simp) fun Q hQ=>?_
 refine Runs.seqE Ty_ok (by decide) fun k' hk'=>?_
 simp   -- R0
 apply hk'
 refine Runs.seqE Ty_ok (by decide) fun k' hk'=>?_
 simp [show -9223372036854775808 ≤ left - p.length by omega, show left - p.length ≤ 9223372036854775807 by omega]   -- R1
 apply hk'
 refine Runs.seq ?_
 refine Runs.seqE Ty_ok (by decide) fun k' hk'=>?_
 simp   -- R2
 apply hk'
 refine Runs.ite rfl (fun hc1=>?_) (fun hc1=>?_)
 ·simp only[decide_eq_true_eq] at hc1
  refine Runs.seqE Ty_ok (by decide) fun k' hk'=>?_
  simp   -- R3
  apply hk'
  refine Runs.ret Tryz.func31 (RetOk.one Tryz.results31) (hQ _ _ _ _ (.v _ _ _) ?_)
  rw[szS,if_pos hc1]
 ·simp only[decide_eq_false_iff_not] at hc1
  refine Runs.skip ?_
  refine Runs.seq ?_
  refine Runs.seqE Ty_ok (by decide) fun k' hk'=>?_
  simp   -- R4
  apply hk'
  refine Runs.block (Runs.loopUp p.length (fun k ρ H n=>ρ 0 = .list false (p.map (GNode.cells false))∧ρ 5=int k∧∃ cur:Int,ρ 1=int cur∧0≤cur∧cur≤left∧szL szN (p.drop k) cur=szS szN p left) ?_ ?_)
  ·refine⟨by simp,by simp,left - p.length,by simp,by omega,by omega,?_⟩
   rw[szS,if_neg hc1,List.drop_zero]
  ·rintro k ρ H n hk ⟨h0,h5,cur,h1',hcur,hcl,hsz⟩ IH
   refine Runs.seq ?_
   refine Runs.seqE Ty_ok (by decide) fun k' hk'=>?_
   simp [h0, h5]   -- R5
   apply hk'
   refine Runs.ite rfl (fun hc2=>?_) (fun hc2=>?_)
   ·simp at hc2
    have hel:=hp2 _ (List.getElem_mem hc2)
    refine Runs.skip ?_
    refine Runs.seq ?_
    refine Runs.block ?_
    refine Runs.seqE Ty_ok (by decide) fun k' hk'=>?_
    simp [h0, h5, h1', hc2, GNode.cells]   -- R7
    refine RunK.callA Ty_ok (szNode_ok p[k] cur hcur (by omega) hel) e67 (.cons (ArgOk.nodeB false _) (.cons (.v _ _ _) .nil)) (by decide) (by decide) rfl (by simp[GNode.cells,h1']) ?_
    rintro _ rfl
    simp
    apply hk'
    rw[List.drop_eq_getElem_cons hc2,szL] at hsz
    refine Runs.seqE Ty_ok (by decide) fun k' hk'=>?_
    simp   -- R8
    apply hk'
    refine Runs.ite rfl (fun hc3=>?_) (fun hc3=>?_)
    ·simp only[decide_eq_true_eq] at hc3
     refine Runs.seqE Ty_ok (by decide) fun k' hk'=>?_
     simp   -- R9
     apply hk'
     refine Runs.ret Tryz.func31 (RetOk.one Tryz.results31) (hQ _ _ _ _ (.v _ _ _) ?_)
     rw[← hsz]
     rw[if_pos hc3]
    ·simp only[decide_eq_false_iff_not] at hc3
     refine Runs.skip ?_
     refine Runs.inBlock ?_
     refine Runs.evalE Ty_ok (by decide) fun k' hk'=>?_
     simp [h5, wrap_succ (show k < 4611686018427387904 by omega)]   -- R6
     apply hk'
     refine IH hc2 _ _ _ ?_
     have hle:=f_le szN p[k] cur hcur
     rw[if_neg hc3] at hsz
     exact⟨by simp[h0,GNode.cells],by simp,szN p[k] cur,by simp,by omega,by omega,hsz⟩
   ·simp at hc2
    have hke:k=p.length:=by omega
    subst hke
    rw[List.drop_length,szL] at hsz
    refine Runs.exit rfl ?_
    refine Runs.seqE Ty_ok (by decide) fun k' hk'=>?_
    simp [h1']   -- R10
    apply hk'
    exact Runs.ret Tryz.func31 (RetOk.one Tryz.results31) (hQ _ _ _ _ (.v _ _ _) (by rw[hsz]))
theorem e33:Ent Tryz.prog 33:=Ent.of Tryz.func33 (by kernel_rfl) rfl
theorem szStringS_ok (p:List (Str)) (left:Int) (h0:0≤left) (h1:left≤1048576) (hp1:p.length≤9223372036854775807) (hp2:∀ x ∈ p,x.length≤9223372036854775807):PureC Tryz.prog 33 [.list false (p.map strC),int left] (fun r=>r=int (szS szStr p left)):=by
 refine PureC.of Tryz.func33 rfl Tryz.ntmps33 (by simp) fun Q hQ=>?_
 refine Runs.seqE Ty_ok (by decide) fun k' hk'=>?_
 simp   -- R0
 apply hk'
 refine Runs.seqE Ty_ok (by decide) fun k' hk'=>?_
 simp [show -9223372036854775808 ≤ left - p.length by omega, show left - p.length ≤ 9223372036854775807 by omega]   -- R1
 apply hk'
 refine Runs.seq ?_
 refine Runs.seqE Ty_ok (by decide) fun k' hk'=>?_
 simp   -- R2
 apply hk'
 refine Runs.ite rfl (fun hc1=>?_) (fun hc1=>?_)
 ·simp only[decide_eq_true_eq] at hc1
  refine Runs.seqE Ty_ok (by decide) fun k' hk'=>?_
  simp   -- R3
  apply hk'
  refine Runs.ret Tryz.func33 (RetOk.one Tryz.results33) (hQ _ _ _ _ (.v _ _ _) ?_)
  rw[szS,if_pos hc1]
 ·simp only[decide_eq_false_iff_not] at hc1
  refine Runs.skip ?_
  refine Runs.seq ?_
  refine Runs.seqE Ty_ok (by decide) fun k' hk'=>?_
  simp   -- R4
  apply hk'
  refine Runs.block (Runs.loopUp p.length (fun k ρ H n=>ρ 0 = .list false (p.map strC)∧ρ 5=int k∧∃ cur:Int,ρ 1=int cur∧0≤cur∧cur≤left∧szL szStr (p.drop k) cur=szS szStr p left) ?_ ?_)
  ·refine⟨by simp,by simp,left - p.length,by simp,by omega,by omega,?_⟩
   rw[szS,if_neg hc1,List.drop_zero]
  ·rintro k ρ H n hk ⟨h0,h5,cur,h1',hcur,hcl,hsz⟩ IH
   refine Runs.seq ?_
   refine Runs.seqE Ty_ok (by decide) fun k' hk'=>?_
   simp [h0, h5]   -- R5
   apply hk'
   refine Runs.ite rfl (fun hc2=>?_) (fun hc2=>?_)
   ·simp at hc2
    have hel:=hp2 _ (List.getElem_mem hc2)
    refine Runs.skip ?_
    refine Runs.seq ?_
    refine Runs.block ?_
    refine Runs.seqE Ty_ok (by decide) fun k' hk'=>?_
    simp [h0, h5, h1', hc2, strC, show -9223372036854775808 ≤ cur - (p[k].length : Int) by omega, show cur - (p[k].length : Int) ≤ 9223372036854775807 by omega]   -- R7
    apply hk'
    rw[List.drop_eq_getElem_cons hc2,szL] at hsz
    refine Runs.seqE Ty_ok (by decide) fun k' hk'=>?_
    simp   -- R8
    apply hk'
    refine Runs.ite rfl (fun hc3=>?_) (fun hc3=>?_)
    ·simp only[decide_eq_true_eq] at hc3
     refine Runs.seqE Ty_ok (by decide) fun k' hk'=>?_
     simp   -- R9
     apply hk'
     refine Runs.ret Tryz.func33 (RetOk.one Tryz.results33) (hQ _ _ _ _ (.v _ _ _) ?_)
     rw[← hsz]
     rw[if_pos (by unfold szStr;rw[if_pos hc3];omega)]
    ·simp only[decide_eq_false_iff_not] at hc3
     refine Runs.skip ?_
     refine Runs.inBlock ?_
     refine Runs.evalE Ty_ok (by decide) fun k' hk'=>?_
     simp [h5, wrap_succ (show k < 4611686018427387904 by omega)]   -- R6
     apply hk'
     refine IH hc2 _ _ _ ?_
     have hse:szStr p[k] cur=cur - p[k].length:=by unfold szStr;rw[if_neg hc3]
     rw[if_neg (by rw[hse];exact hc3),hse] at hsz
     exact⟨by simp[h0,strC],by simp,cur - p[k].length,by simp,by omega,by omega,hsz⟩
   ·simp at hc2
    have hke:k=p.length:=by omega
    subst hke
    rw[List.drop_length,szL] at hsz
    refine Runs.exit rfl ?_
    refine Runs.seqE Ty_ok (by decide) fun k' hk'=>?_
    simp [h1']   -- R10
    apply hk'
    exact Runs.ret Tryz.func33 (RetOk.one Tryz.results33) (hQ _ _ _ _ (.v _ _ _) (by rw[hsz]))
end Go.Ab
/- Contract of laws.szBigraph; what the sizes bound. -/
namespace Go.Ab
open Go.Proofs
set_option linter.unusedSimpArgs false
theorem e9:Ent Tryz.prog 9:=Ent.of Tryz.func9 (by kernel_rfl) rfl
def szB (b:Big) (left:Int):Int:=
 if szS szN b.nodes left<0 then -1 else if szI b.sites (szS szN b.nodes left)<0 then -1 else
 if szS szStr b.outer (szI b.sites (szS szN b.nodes left))<0 then -1 else
 if szS szW b.inner (szS szStr b.outer (szI b.sites (szS szN b.nodes left)))<0 then -1 else szS szW b.inner (szS szStr b.outer (szI b.sites (szS szN b.nodes left)))
structure HugeB (b:Big):Prop where
 nodes:b.nodes.length≤9223372036854775807
 links:∀ x ∈ b.nodes,x.links.length≤9223372036854775807
 sites:b.sites.length≤9223372036854775807
 outer:b.outer.length≤9223372036854775807
 names:∀ x ∈ b.outer,x.length≤9223372036854775807
 inner:b.inner.length≤9223372036854775807
 wnames:∀ x ∈ b.inner,x.name.length≤9223372036854775807
 parents:∀ x ∈ b.nodes,I64 x.parent
 sites64:∀ p ∈ b.sites,I64 p
theorem szL_le {α:Type} (f:α→Int→Int) [SzF f]:∀ (l:List α) (left:Int),0≤left→szL f l left≤left
 | [],_,_=>Int.le_refl _
 | x::r,left,h=>by
  rw[szL]
  have:=f_le f x left h
  split
  ·omega
  ·have:=szL_le f r (f x left) (by omega)
   omega
theorem szS_le {α:Type} (f:α→Int→Int) [SzF f] (l:List α) (left:Int) (h:0≤left):szS f l left≤left:=by
 unfold szS
 split
 ·omega
 ·have:=szL_le f l (left - l.length) (by omega)
  omega
theorem szL_mem {α:Type} (f:α→Int→Int) [SzF f]:∀ (l:List α) (left:Int),0≤left→0≤szL f l left→∀ x ∈ l,∃ c,0≤c∧c≤left∧0≤f x c
 | [],_,_,_,x,hx=>by cases hx
 | y::r,left,h,h2,x,hx=>by
  rw[szL] at h2
  have hle:=f_le f y left h
  split at h2
  ·omega
  ·rcases List.mem_cons.1 hx with rfl | hx
   ·exact⟨left,h,Int.le_refl _,by omega⟩
   ·obtain⟨c,h3,h4,h5⟩:=szL_mem f r (f y left) (by omega) h2 x hx
    exact⟨c,h3,by omega,h5⟩
theorem szS_mem {α:Type} (f:α→Int→Int) [SzF f] (l:List α) (left:Int) (h:0≤left) (h2:0≤szS f l left):(l.length:Int)≤left∧∀ x ∈ l,∃ c,0≤c∧c≤left∧0≤f x c:=by
 unfold szS at h2
 split at h2
 ·omega
 ·refine⟨by omega,fun x hx=>?_⟩
  obtain⟨c,h3,h4,h5⟩:=szL_mem f l _ (by omega) h2 x hx
  exact⟨c,h3,by omega,h5⟩
theorem szStr_len {s:Str} {c:Int} (h:0≤szStr s c):(s.length:Int)≤c:=by
 unfold szStr at h
 split at h<;>omega
theorem szI_len {s:List Int} {c:Int} (h:0≤szI s c):(s.length:Int)≤c:=by
 unfold szI at h
 split at h<;>omega
theorem szBigraph_ok (b:Big) (left:Int) (h0:0≤left) (h1:left≤1048576) (hb:HugeB b):PureC Tryz.prog 9 [encB false b,int left] (fun r=>r=int (szB b left)):=by
 have le1:=szS_le szN b.nodes left h0
 refine PureC.of Tryz.func9 rfl Tryz.ntmps9 (by simp) fun Q hQ=>?_
 refine Runs.seqE Ty_ok (by decide) fun k' hk'=>?_
 simp [encB, Big.cells, encN, encI, encS, encW]   -- R0
 apply hk'
 refine Runs.seqE Ty_ok (by decide) fun k' hk'=>?_
 simp
 refine RunK.callA Ty_ok (szNodeS_ok b.nodes left h0 h1 hb.nodes hb.links) e31 (.cons (ArgOk.encN false b.nodes) (.cons (.v _ _ _) .nil)) (by decide) (by decide) rfl (by simp[encN,encI,encS,encW]) ?_
 rintro _ rfl
 simp
 apply hk'
 refine Runs.seq ?_
 refine Runs.seqE Ty_ok (by decide) fun k' hk'=>?_
 simp
 apply hk'
 refine Runs.ite rfl (fun hc=>?_) (fun hd0=>?_)
 ·simp only[decide_eq_true_eq] at hc
  refine Runs.seqE Ty_ok (by decide) fun k' hk'=>?_
  simp
  apply hk'
  exact Runs.ret Tryz.func9 (RetOk.one Tryz.results9) (hQ _ _ _ _ (.v _ _ _) (by rw[szB,if_pos hc]))
 simp only[decide_eq_false_iff_not] at hd0
 have le2:=f_le szI b.sites (szS szN b.nodes left) (by omega)
 refine Runs.skip ?_
 refine Runs.seqE Ty_ok (by decide) fun k' hk'=>?_
 simp
 refine RunK.callA Ty_ok (szIntS_ok b.sites (szS szN b.nodes left) (by omega) (by omega) hb.sites) e32 (.cons (ArgOk.encI false b.sites) (.cons (.v _ _ _) .nil)) (by decide) (by decide) rfl (by simp[encN,encI,encS,encW]) ?_
 rintro _ rfl
 simp
 apply hk'
 refine Runs.seq ?_
 refine Runs.seqE Ty_ok (by decide) fun k' hk'=>?_
 simp
 apply hk'
 refine Runs.ite rfl (fun hc=>?_) (fun hd1=>?_)
 ·simp only[decide_eq_true_eq] at hc
  refine Runs.seqE Ty_ok (by decide) fun k' hk'=>?_
  simp
  apply hk'
  exact Runs.ret Tryz.func9 (RetOk.one Tryz.results9) (hQ _ _ _ _ (.v _ _ _) (by rw[szB,if_neg hd0,if_pos hc]))
 simp only[decide_eq_false_iff_not] at hd1
 have le3:=szS_le szStr b.outer (szI b.sites (szS szN b.nodes left)) (by omega)
 refine Runs.skip ?_
 refine Runs.seqE Ty_ok (by decide) fun k' hk'=>?_
 simp
 refine RunK.callA Ty_ok (szStringS_ok b.outer (szI b.sites (szS szN b.nodes left)) (by omega) (by omega) hb.outer hb.names) e33 (.cons (ArgOk.encS false b.outer) (.cons (.v _ _ _) .nil)) (by decide) (by decide) rfl (by simp[encN,encI,encS,encW]) ?_
 rintro _ rfl
 simp
 apply hk'
 refine Runs.seq ?_
 refine Runs.seqE Ty_ok (by decide) fun k' hk'=>?_
 simp
 apply hk'
 refine Runs.ite rfl (fun hc=>?_) (fun hd2=>?_)
 ·simp only[decide_eq_true_eq] at hc
  refine Runs.seqE Ty_ok (by decide) fun k' hk'=>?_
  simp
  apply hk'
  exact Runs.ret Tryz.func9 (RetOk.one Tryz.results9) (hQ _ _ _ _ (.v _ _ _) (by rw[szB,if_neg hd0,if_neg hd1,if_pos hc]))
 simp only[decide_eq_false_iff_not] at hd2
 refine Runs.skip ?_
 refine Runs.seqE Ty_ok (by decide) fun k' hk'=>?_
 simp
 refine RunK.callA Ty_ok (szWireS_ok b.inner (szS szStr b.outer (szI b.sites (szS szN b.nodes left))) (by omega) (by omega) hb.inner hb.wnames) e34 (.cons (ArgOk.encW false b.inner) (.cons (.v _ _ _) .nil)) (by decide) (by decide) rfl (by simp[encN,encI,encS,encW]) ?_
 rintro _ rfl
 simp
 apply hk'
 refine Runs.seq ?_
 refine Runs.seqE Ty_ok (by decide) fun k' hk'=>?_
 simp
 apply hk'
 refine Runs.ite rfl (fun hc=>?_) (fun hd3=>?_)
 ·simp only[decide_eq_true_eq] at hc
  refine Runs.seqE Ty_ok (by decide) fun k' hk'=>?_
  simp
  apply hk'
  exact Runs.ret Tryz.func9 (RetOk.one Tryz.results9) (hQ _ _ _ _ (.v _ _ _) (by rw[szB,if_neg hd0,if_neg hd1,if_neg hd2,if_pos hc]))
 simp only[decide_eq_false_iff_not] at hd3
 refine Runs.skip ?_
 refine Runs.seqE Ty_ok (by decide) fun k' hk'=>?_
 simp
 apply hk'
 exact Runs.ret Tryz.func9 (RetOk.one Tryz.results9) (hQ _ _ _ _ (.v _ _ _) (by rw[szB,if_neg hd0,if_neg hd1,if_neg hd2,if_neg hd3]))
theorem smallB {sig:Sig} {b:Big} {left:Int} (h0:0≤left) (h1:left≤1048576) (hs:0≤szS szC sig left) (hb:0≤szB b (szS szC sig left)) (hh:HugeB b):SmallB sig b:=by
 have hle:=szS_le szC sig left h0
 obtain⟨a1,a2⟩:=szS_mem szC sig left h0 hs
 generalize szS szC sig left=l0 at *
 unfold szB at hb
 split at hb
 ·omega
 split at hb
 ·omega
 split at hb
 ·omega
 split at hb
 ·omega
 rename_i n1 n2 n3 n4
 have le1:=szS_le szN b.nodes l0 hs
 obtain⟨b1,b2⟩:=szS_mem szN b.nodes l0 hs (by omega)
 generalize szS szN b.nodes l0=l1 at *
 have le2:=f_le szI b.sites l1 (by omega)
 have c1:=szI_len (s:=b.sites) (c:=l1) (by omega)
 generalize szI b.sites l1=l2 at *
 have le3:=szS_le szStr b.outer l2 (by omega)
 obtain⟨d1,d2⟩:=szS_mem szStr b.outer l2 (by omega) (by omega)
 generalize szS szStr b.outer l2=l3 at *
 obtain⟨f1,f2⟩:=szS_mem szW b.inner l3 (by omega) (by omega)
 refine⟨by omega,fun c hc=>?_,by omega,by omega,by omega,by omega,fun s hs=>?_,fun w hw=>?_,fun x hx=>?_,hh.parents,hh.sites64⟩
 ·obtain⟨q,_,q2,q3⟩:=a2 c hc
  have:=szStr_len q3
  omega
 ·obtain⟨q,_,q2,q3⟩:=d2 s hs
  have:=szStr_len q3
  omega
 ·obtain⟨q,_,q2,q3⟩:=f2 w hw
  have:=szStr_len q3
  omega
 ·obtain⟨q,_,q2,q3⟩:=b2 x hx
  have:=szI_len q3
  omega
end Go.Ab
/- The contract of laws.FnExactCommonPlace: it answers true. -/
namespace Go.Ab
open Go.Proofs
set_option linter.unusedSimpArgs false
structure HugeS (sig:Sig):Prop where
 len:sig.length≤9223372036854775807
 names:∀ c ∈ sig,c.name.length≤9223372036854775807
end Go.Ab
