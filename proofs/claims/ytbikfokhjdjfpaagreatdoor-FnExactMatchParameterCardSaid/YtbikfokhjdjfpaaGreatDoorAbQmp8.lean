/- Merged texts (8 of 17) of the proof that ends in Mpy: Mn Uj Uk Lm Nm Gm Gn Go Wb Wc Y Gp Gq Gr. -/
import Derived.Test.YtbikfokhjdjfpaaGreatDoorAbQmp7
import Derived.Laws.BytesString
/- The search for matches: impl.matches with a function value, and those that use it; the reference's search. -/
namespace Go.Ab.Vg
set_option linter.unusedSimpArgs false
set_option linter.unusedVariables false
abbrev sH (l:List Int):List Int:=l
abbrev kU (l:List Int):Prop:=l.length≤1048576
def mF (s:List Int) (Z:(List Int)→Prop):Prop:=
 ∀ c2:Bool,(c2=true→s=[])→((c2=true→Z [])∧(c2=false→(([]:List Int).length+s.length≤1073741824)∧∀ l7:List Int,l7=([]:List Int)++s→Z l7))
theorem C7 (l:List Int) (h:kU l):mF l (fun y=>y=sH l):=by
 unfold mF
 intro c hc
 refine⟨fun h1=>(hc h1).symm,fun _=>⟨by simp;omega,?_⟩⟩
 rintro _ rfl
 simp
noncomputable abbrev Hd (redex agent:Big) (nodes:List Int):List Match:=allM redex agent (Gi redex agent) (IU redex agent) (redex.nodes.length - nodes.length) nodes
noncomputable abbrev Dh (redex agent:Big):List Match:=Hd redex agent []
end Go.Ab.Vg
/- The conversion of bytes to a string; laws.markText. -/
namespace Go.Ab
set_option linter.unusedSimpArgs false
theorem qZ:∀ (ns:List Int) (s:Array UInt8),ns.foldl (fun r n=>r.push (UInt8.ofNat n.toNat)) (ByteArray.mk s)=ByteArray.mk (s++(ns.map fun n=>UInt8.ofNat n.toNat).toArray)
 | [],s=>by simp
 | n::ns,s=>by
  have h:(ByteArray.mk s).push (UInt8.ofNat n.toNat)=ByteArray.mk (s.push (UInt8.ofNat n.toNat)):=rfl
  rw[List.foldl_cons,h,qZ ns]
  congr 1
  simp
theorem oJ {P:Program} {N:Nat} {Ty:Types} (hT:aU P Ty) {ρ:Env} {H:ak} {n:Nat} {d:Option Tmp} {ty:TypeId} {pos:String} {af:Array Edge} {gu:Option (Nat × Bool)} {s t:TypeId} {x:Operand} {j:TI} {els:List (List ag)} {ns:List Int}
  (hs:kd Ty s = .slice j) (hj:j.desc = .int .u8) (ht:kd Ty t = .string) (hx:dE H (ρ.ev x)=some els) (hn:els=ns.map fun n=>[.v (.int .u8 n)]) :
  aN P N ⟨d,.convert s t x,ty,pos,af,gu⟩ ρ H n fun v1 H1 n1=>v1=str (ns.map fun n=>UInt8.ofNat n.toNat)∧H1=H∧n1=n:=by
 refine aN.eA fun c a hH hn' g r=>?_
 subst hH hn'
 obtain⟨i1,e,hi1,hd1,he⟩:=cS hs
 obtain⟨i2,hi2,hd2⟩:=ij ht
 have d1:=(hT s i1 hi1).1
 rw[hd1] at d1
 have d2:=(hT t i2 hi2).1
 rw[hd2] at d2
 have d3:=(hT e j he).1
 rw[hj] at d3
 have hsrc:=mh (sz:=1) g (r.ev x) hx (by subst hn;simp)
 refine⟨_,.string ⟨(ns.map fun n=>UInt8.ofNat n.toNat).toArray⟩,c,?_,⟨rfl,rfl,rfl⟩,.v _,g,bm.refl c⟩
 rcases hsrc with ⟨h1,h2⟩ | ⟨ad,cap,news,h1,h2,h3,h4⟩
 ·have h0:ns=[]:=by rw[h2] at hn;simpa using hn.symm
  subst h0
  have:=run_convert_bytes_string (P:=P) c.w s t e none 0 0 d1 d3 d2
  simp[execOp,h1,this,Conv.bytesToString,Sem.run_pure]
  rfl
 ·have hnews:news=ns.map (Value.int .u8):=by
   apply List.ext_getElem?
   intro q
   rcases Nat.lt_or_ge q ns.length with hq | hq
   ·have hel:els[q]?=some [.v (.int .u8 ns[q])]:=by rw[hn];simp[hq]
    obtain⟨_,h5⟩:=h4 q _ hel
    obtain⟨u,hu,hr⟩:=h5 0 _ rfl
    simp only[Nat.mul_one,Nat.add_zero] at hu
    rw[hu,hr.bS]
    simp[hq]
   ·rw[List.getElem?_eq_none (by rw[h2,hn];simpa using hq),List.getElem?_eq_none (by simpa using hq)]
  have hl:=run_loadCells_list (P:=P) c.w ad news h3
  have hlen:news.length=els.length:=by rw[h2,Nat.mul_one]
  rw[hlen,hnews] at hl
  have h5:=run_bytesToString c.w ad els.length cap ns hl
  have h6:=run_convert_bytes_string (P:=P) c.w s t e (some ad) els.length cap d1 d3 d2
  have h7:=qZ ns #[]
  have h8:(ByteArray.empty:ByteArray)=ByteArray.mk #[]:=rfl
  simp[execOp,h1,h6,h5,h8,h7]
end Go.Ab
/- Contract of laws.markText. -/
namespace Go.Ab
open Go.Proofs
set_option linter.unusedSimpArgs false
def Bt (k:Nat) (out:Str):Str:=if k=0 then out else Bt (k / 10) (UInt8.ofNat (48+k % 10)::out)
 termination_by k
 decreasing_by omega
def mE (k:Nat):Str:=if k=0 then [109,48] else 109::Bt k []
theorem wrap_u8 {a:Int} (h:0≤a) (h2:a<256):IntKind.u8.wrap a=a:=by
 unfold IntKind.wrap
 simp[IntKind.min,IntKind.max,IntKind.bits,IntKind.signed]
 omega
theorem e62:Ent Tryz.prog 62:=Ent.of Tryz.func62 (by kernel_rfl) rfl
set_option maxRecDepth 20000 in
theorem xC (k:Nat) (hk:k≤1152921504606846976):aq Tryz.prog 62 [int k] (fun r=>r=str (mE k)):=by
 refine aq.of Tryz.func62 rfl Tryz.ntmps62 (by simp) fun Q hQ=>?_
 refine aa.au ae (by decide) fun k' hk'=>?_
 simp   -- R0
 apply hk'
 refine aa.seq ?_
 refine aa.au ae (by decide) fun k' hk'=>?_
 simp   -- R1
 apply hk'
 refine aa.ite rfl (fun hc1 => ?_) (fun hc1 => ?_)   -- t5
 ·simp at hc1
  refine aa.au ae (by decide) fun k' hk'=>?_
  simp   -- R2
  apply hk'
  refine aa.ret Tryz.func62 (aK.one Tryz.results62) (hQ _ _ _ _ (.v _ _ _) ?_)
  simp[mE,hc1]
 ·simp at hc1
  refine aa.skip ?_
  refine aa.au ae (by decide) fun k' hk'=>?_
  simp   -- R3
  apply hk'
  refine aa.seq ?_
  refine aa.block (aa.EM (fun m ρ H n=>ρ 0=int m∧∃ out:Str,ρ 3=str out∧out.length+m≤k∧Bt m out=Bt k []) k ?_ ?_)
  ·simp
  ·rintro m ρ H n ⟨h0,out,h3,hlen,hd⟩ IH
   refine aa.seq ?_
   refine aa.au ae (by decide) fun k' hk'=>?_
   simp [h0]   -- R4
   apply hk'
   refine aa.ite rfl (fun hc2 => ?_) (fun hc2 => ?_)   -- t7
   ·simp at hc2
    refine aa.skip ?_
    refine aa.block ?_
    refine aa.au ae (by decide) fun k' hk'=>?_
    obtain⟨g,hg⟩:∃ g:Nat,g=48+m % 10:=⟨_,rfl⟩
    obtain⟨q,hq'⟩:∃ q:Nat,q=m / 10:=⟨_,rfl⟩
    have hq:((m:Int).tdiv 10)=(q:Int):=by rw[Int.tdiv_eq_ediv_of_nonneg (by omega)];omega
    have hw:IntKind.i64.wrap (48+((m:Int).tmod 10))=(g:Int):=by
     rw[Int.tmod_eq_emod_of_nonneg (by omega),wrap64]<;>omega
    have hw2:IntKind.i64.wrap (q:Int)=(q:Int):=by rw[wrap64]<;>omega
    have hw3:IntKind.u8.wrap (g:Int)=(g:Int):=wrap_u8 (by omega) (by omega)
    simp [h0, h3, hw, hw3]   -- R5
    refine aG.op ae (by decide) (by decide) rfl (oJ (ns:=[(g:Int)]) (els:=[[.v (.int .u8 g)]]) ae Et (by kernel_rfl) Fs (by simp[dE]) rfl) ?_
    rintro v H' n' ⟨rfl,rfl,rfl⟩
    simp[h3,show 1+out.length<4611686018427387904 by omega]
    apply hk'
    refine aa.cg ae (by decide) fun k' hk'=>?_
    simp [h0, hq, hw2]   -- R6
    apply hk'
    refine aa.inBlock ?_
    refine IH q _ _ _ (by omega) ⟨by simp,UInt8.ofNat g::out,by simp,by simp;omega,?_⟩
    rw[← hd,hg,hq']
    conv=>rhs;rw[Bt,if_neg (by omega)]
   ·simp at hc2
    subst hc2
    rw[Bt,if_pos rfl] at hd
    refine aa.exit rfl ?_
    refine aa.au ae (by decide) fun k' hk'=>?_
    simp [h3, show 1 + out.length < 4611686018427387904 by omega]   -- R7
    apply hk'
    refine aa.ret Tryz.func62 (aK.one Tryz.results62) (hQ _ _ _ _ (.v _ _ _) ?_)
    simp[mE,hc1,hd,show ¬ k=0 by omega]
end Go.Ab
/- The laws' own functions on bigraphs' types: copies, marks, and whether marks are held. -/
namespace Go.Ab.Vg
set_option linter.unusedSimpArgs false
set_option linter.unusedVariables false
theorem B3 {α:Type} [Inhabited α] {a:List α} {k:Nat} (hk:k<a.length):(a.take k++List.replicate (a.length - k) default).set k a[k]=a.take (k+1)++List.replicate (a.length - (k+1)) default:=by
 rw[List.set_append_right _ _ (by simp;omega)]
 rw[List.take_succ_eq_append_getElem hk,List.append_assoc]
 congr 1
 have h1:a.length - k=(a.length - (k+1))+1:=by omega
 have h2:k - (a.take k).length=0:=by simp;omega
 rw[h1,h2,List.replicate_succ]
 rfl
abbrev filled {α:Type} [Inhabited α] (a:List α) (k:Nat):List α:=a.take k++List.replicate (a.length - k) default
theorem iM {α:Type} [Inhabited α] {a:List α} {k:Nat} (hk:k≤a.length):(filled a k).length=a.length:=by simp[filled];omega
theorem im {α:Type} [Inhabited α] {a:List α} {k:Nat} (hk:k<a.length):(filled a k).set k (at' a (k:Int))=filled a (k+1):=by rw[bY hk];exact B3 hk
theorem iv {α:Type} [Inhabited α] (a:List α):filled a a.length=a:=by simp[filled]
theorem gk {α:Type} [Inhabited α] (a:List α):filled a 0=List.replicate a.length default:=by simp[filled]
abbrev o9 (a:List Int):=a
abbrev eM (a:List Int):Prop:=a.length≤1048576
def mo (a:List Int) (Z:(List Int)→Prop):Prop:=
 ∀ cf:Int,cf=(a.length:Int)→(0≤cf∧cf≤1073741824)∧∀ l5:List Int,l5=List.replicate cf.toNat default→aw (σ:=Int × (List Int)) (fun (i16,l17) K21=>∀ len22:Int,len22=(a.length:Int)→∀ c24:Bool,c24=decide (i16<len22)→((c24=true→(0≤i16∧i16<a.length)∧∀ x27:Int,x27=at' a i16→(0≤i16∧i16<l17.length)∧∀ x34:Int,x34=at' l17 i16→∀ l37:List Int,l37=l17.set i16.toNat x27→(I64 (i16+1))∧∀ v44:Int,v44=i16+1→K21 (v44,l37))∧(c24=false→Z l17))) (0,l5)
theorem CU (a:List Int) (h:eM a):mo a (fun y=>y=o9 a):=by
 unfold mo
 simp only[eM] at h
 simp only[forall_eq,Int.toNat_natCast]
 refine⟨by omega,aw.upL a.length (fun k out=>out=filled a k) _ (gk a).symm ?_⟩
 rintro k out K hk rfl IH
 have hl:=iM hk
 simp only[decide_eq_true_eq,decide_eq_false_iff_not,I64,Int.toNat_natCast]
 refine⟨fun h1=>⟨by omega,by omega,by omega,IH (by omega) _ (im (by omega))⟩,fun h1=>?_⟩
 rw[show k=a.length by omega]
 exact iv a
abbrev pj (a:List Str):=a
abbrev fQ (a:List Str):Prop:=a.length≤1048576
def gR (a:List Str) (Z:(List Str)→Prop):Prop:=
 ∀ cf:Int,cf=(a.length:Int)→(0≤cf∧cf≤1073741824)∧∀ l5:List Str,l5=List.replicate cf.toNat default→aw (σ:=Int × (List Str)) (fun (i16,l17) K21=>∀ len22:Int,len22=(a.length:Int)→∀ c24:Bool,c24=decide (i16<len22)→((c24=true→(0≤i16∧i16<a.length)∧∀ x27:Str,x27=at' a i16→(0≤i16∧i16<l17.length)∧∀ x34:Str,x34=at' l17 i16→∀ l37:List Str,l37=l17.set i16.toNat x27→(I64 (i16+1))∧∀ v44:Int,v44=i16+1→K21 (v44,l37))∧(c24=false→Z l17))) (0,l5)
theorem uN (a:List Str) (h:fQ a):gR a (fun y=>y=pj a):=by
 unfold gR
 simp only[fQ] at h
 simp only[forall_eq,Int.toNat_natCast]
 refine⟨by omega,aw.upL a.length (fun k out=>out=filled a k) _ (gk a).symm ?_⟩
 rintro k out K hk rfl IH
 have hl:=iM hk
 simp only[decide_eq_true_eq,decide_eq_false_iff_not,I64,Int.toNat_natCast]
 refine⟨fun h1=>⟨by omega,by omega,by omega,IH (by omega) _ (im (by omega))⟩,fun h1=>?_⟩
 rw[show k=a.length by omega]
 exact iv a
abbrev jY (a:Control):=a
def kx (a:Control) (Z:Control→Prop):Prop:=
 Z a
theorem vt (a:Control):kx a (fun y=>y=jY a):=rfl
abbrev eP (a:List Control):=a
abbrev cT (a:List Control):Prop:=a.length≤1048576
def fM (a:List Control) (Z:(List Control)→Prop):Prop:=
 ∀ cf:Int,cf=(a.length:Int)→(0≤cf∧cf≤1073741824)∧∀ l5:List Control,l5=List.replicate cf.toNat default→aw (σ:=Int × (List Control)) (fun (i16,l17) K21=>∀ len22:Int,len22=(a.length:Int)→∀ c24:Bool,c24=decide (i16<len22)→((c24=true→(0≤i16∧i16<a.length)∧∀ x27:Control,x27=at' a i16→∀ r29:Control,r29=jY x27→(0≤i16∧i16<l17.length)∧∀ x35:Control,x35=at' l17 i16→∀ l38:List Control,l38=l17.set i16.toNat r29→(I64 (i16+1))∧∀ v45:Int,v45=i16+1→K21 (v45,l38))∧(c24=false→Z l17))) (0,l5)
theorem tg (a:List Control) (h:cT a):fM a (fun y=>y=eP a):=by
 unfold fM
 simp only[cT] at h
 simp only[forall_eq,Int.toNat_natCast]
 refine⟨by omega,aw.upL a.length (fun k out=>out=filled a k) _ (gk a).symm ?_⟩
 rintro k out K hk rfl IH
 have hl:=iM hk
 simp only[decide_eq_true_eq,decide_eq_false_iff_not,I64,Int.toNat_natCast]
 refine⟨fun h1=>⟨by omega,by omega,by omega,IH (by omega) _ (im (by omega))⟩,fun h1=>?_⟩
 rw[show k=a.length by omega]
 exact iv a
abbrev vv (a:aA):=a
def pN (a:aA) (Z:aA→Prop):Prop:=
 Z a
theorem Bg (a:aA):pN a (fun y=>y=vv a):=rfl
abbrev wb (a:List aA):=a
abbrev jl (a:List aA):Prop:=a.length≤1048576
def kt (a:List aA) (Z:(List aA)→Prop):Prop:=
 ∀ cf:Int,cf=(a.length:Int)→(0≤cf∧cf≤1073741824)∧∀ l5:List aA,l5=List.replicate cf.toNat default→aw (σ:=Int × (List aA)) (fun (i16,l17) K21=>∀ len22:Int,len22=(a.length:Int)→∀ c24:Bool,c24=decide (i16<len22)→((c24=true→(0≤i16∧i16<a.length)∧∀ x27:aA,x27=at' a i16→∀ r29:aA,r29=vv x27→(0≤i16∧i16<l17.length)∧∀ x35:aA,x35=at' l17 i16→∀ l38:List aA,l38=l17.set i16.toNat r29→(I64 (i16+1))∧∀ v45:Int,v45=i16+1→K21 (v45,l38))∧(c24=false→Z l17))) (0,l5)
theorem zn (a:List aA) (h:jl a):kt a (fun y=>y=wb a):=by
 unfold kt
 simp only[jl] at h
 simp only[forall_eq,Int.toNat_natCast]
 refine⟨by omega,aw.upL a.length (fun k out=>out=filled a k) _ (gk a).symm ?_⟩
 rintro k out K hk rfl IH
 have hl:=iM hk
 simp only[decide_eq_true_eq,decide_eq_false_iff_not,I64,Int.toNat_natCast]
 refine⟨fun h1=>⟨by omega,by omega,by omega,IH (by omega) _ (im (by omega))⟩,fun h1=>?_⟩
 rw[show k=a.length by omega]
 exact iv a
abbrev rI (a:aj):=a
abbrev nK (a:aj):Prop:=a.links.length≤1048576
def mr (a:aj) (Z:aj→Prop):Prop:=
 (eM a.links)∧∀ r10:List Int,r10=o9 a.links→Z (aj.mk a.control a.parent r10)
theorem Cr (a:aj) (h:nK a):mr a (fun y=>y=rI a):=by
 unfold mr
 exact⟨h,by rintro _ rfl;rfl⟩
abbrev uY (a:List aj):=a
abbrev lO (a:List aj):Prop:=a.length≤1048576∧∀ x ∈ a,x.links.length≤1048576
def ko (a:List aj) (Z:(List aj)→Prop):Prop:=
 ∀ cf:Int,cf=(a.length:Int)→(0≤cf∧cf≤1073741824)∧∀ l5:List aj,l5=List.replicate cf.toNat default→aw (σ:=Int × (List aj)) (fun (i16,l17) K21=>∀ len22:Int,len22=(a.length:Int)→∀ c24:Bool,c24=decide (i16<len22)→((c24=true→(0≤i16∧i16<a.length)∧∀ x27:aj,x27=at' a i16→(nK x27)∧∀ r30:aj,r30=rI x27→(0≤i16∧i16<l17.length)∧∀ x44:aj,x44=at' l17 i16→∀ l63:List aj,l63=l17.set i16.toNat r30→(I64 (i16+1))∧∀ v70:Int,v70=i16+1→K21 (v70,l63))∧(c24=false→Z l17))) (0,l5)
theorem AF (a:List aj) (h:lO a):ko a (fun y=>y=uY a):=by
 unfold ko
 obtain⟨h,h'⟩:=h
 simp only[forall_eq,Int.toNat_natCast]
 refine⟨by omega,aw.upL a.length (fun k out=>out=filled a k) _ (gk a).symm ?_⟩
 rintro k out K hk rfl IH
 have hl:=iM hk
 simp only[decide_eq_true_eq,decide_eq_false_iff_not,I64,Int.toNat_natCast]
 refine⟨fun h1=>⟨by omega,?_,by omega,by omega,IH (by omega) _ (im (by omega))⟩,fun h1=>?_⟩
 ·rw[bY (show k<a.length by omega)]
  exact h' _ (List.getElem_mem _)
 ·rw[show k=a.length by omega]
  exact iv a
abbrev cq (a:Big):=a
abbrev b4 (a:Big):Prop:=(a.nodes.length≤1048576∧∀ x ∈ a.nodes,x.links.length≤1048576)∧a.sites.length≤1048576∧a.outer.length≤1048576∧a.inner.length≤1048576
def gW (a:Big) (Z:Big→Prop):Prop:=
 (lO a.nodes)∧∀ r9:List aj,r9=uY a.nodes→(eM a.sites)∧∀ r21:List Int,r21=o9 a.sites→(fQ a.outer)∧∀ r37:List Str,r37=pj a.outer→(jl a.inner)∧∀ r51:List aA,r51=wb a.inner→Z (Big.mk a.roots r9 r21 a.edges r37 r51)
theorem uU (a:Big) (h:b4 a):gW a (fun y=>y=cq a):=by
 unfold gW
 simp only[forall_eq]
 exact⟨h.1,h.2.1,h.2.2.1,h.2.2.2,trivial⟩
def df {α:Type} (g:α→Int→α) (c:Int) (l:List α) (k:Int) (i:Nat):List α:=l.mapIdx fun j x=>if j<i then g x (k+c * j) else x
def dH {α:Type} (g:α→Int→α) (c:Int) (l:List α) (k:Int):List α × Int:=(df g c l k l.length,k+c * l.length)
section
variable {α:Type} (g:α→Int→α) (c:Int) (l:List α) (k:Int)
theorem gN:df g c l k 0=l:=by
 apply List.ext_getElem
 ·simp[df]
 ·intro j h1 h2
  simp[df]
theorem cM (i:Nat):(df g c l k i).length=l.length:=by simp[df]
theorem jc {i:Nat} (hi:i<l.length):(df g c l k i).set i (g l[i] (k+c * i))=df g c l k (i+1):=by
 apply List.ext_getElem
 ·simp[df]
 ·intro j h1 h2
  simp only[List.getElem_set,df,List.getElem_mapIdx]
  by_cases hj:i=j
  ·subst hj
   simp
  ·rw[if_neg hj]
   by_cases h3:j<i
   ·rw[if_pos h3,if_pos (by omega)]
   ·rw[if_neg h3,if_neg (by omega)]
end
def cA (k:Int):Str:=mE k.toNat
abbrev cB (k:Int):Prop:=0≤k∧k≤1152921504606846976
abbrev nY (c n k:Int):Prop:=0≤k∧n≤1048576∧k+c * n≤1152921504606846976
abbrev aX (l:List Int) (k:Int):=dH (fun _ k=>k) 1 l k
abbrev eh (l:List Int) (k:Int):Prop:=nY 1 l.length k
def jk (a:List Int) (k_:Int) (Z:((List Int) × Int)→Prop):Prop:=
 aw (σ:=Int × Int × (List Int)) (fun (k10,i11,l12) K15=>∀ len16:Int,len16=(l12.length:Int)→∀ c18:Bool,c18=decide (i11<len16)→((c18=true→(0≤i11∧i11<l12.length)∧∀ x25:Int,x25=at' l12 i11→∀ l28:List Int,l28=l12.set i11.toNat k10→(I64 (k10+1))∧∀ v34:Int,v34=k10+1→(I64 (i11+1))∧∀ v37:Int,v37=i11+1→K15 (v34,v37,l28))∧(c18=false→Z (l12,k10)))) (k_,0,a)
theorem xe (l:List Int) (k:Int) (h:eh l k):jk l k (fun y=>y=aX l k):=by
 unfold jk
 obtain⟨h1,h2,h3⟩:=h
 refine aw.up l.length (fun s=>s.2.1) (fun i t=>(k+1 * i,(i:Int),t)) (fun _ _=>rfl) (fun i out=>out=df (fun _ k=>k) 1 l k i) l (by simp) (gN _ _ _ _).symm ?_
 rintro i out K hk rfl IH
 have hl:=cM (fun _ k=>k) 1 l k i
 simp only[forall_eq,decide_eq_true_eq,decide_eq_false_iff_not,I64,Int.toNat_natCast]
 refine⟨fun h4=>⟨by omega,by omega,by omega,?_⟩,fun h4=>?_⟩
 ·have hi:i<l.length:=by omega
  have:=IH hi _ rfl
  rw[← jc _ _ _ _ hi] at this
  rw[show k+1 * (((i+1:Nat)):Int)=k+1 * i+1 by omega] at this
  simpa using this
 ·rw[show i=l.length by omega]
  rfl
abbrev bN (l:List Str) (k:Int):=dH (fun _ k=>cA k) 1 l k
abbrev gy (l:List Str) (k:Int):Prop:=nY 1 l.length k
def fv (a:List Str) (k_:Int) (Z:((List Str) × Int)→Prop):Prop:=
 aw (σ:=Int × Int × (List Str)) (fun (k10,i11,l12) K15=>∀ len16:Int,len16=(l12.length:Int)→∀ c18:Bool,c18=decide (i11<len16)→((c18=true→(cB k10)∧∀ r21:Str,r21=cA k10→(0≤i11∧i11<l12.length)∧∀ x27:Str,x27=at' l12 i11→∀ l30:List Str,l30=l12.set i11.toNat r21→(I64 (k10+1))∧∀ v36:Int,v36=k10+1→(I64 (i11+1))∧∀ v39:Int,v39=i11+1→K15 (v36,v39,l30))∧(c18=false→Z (l12,k10)))) (k_,0,a)
theorem ra (l:List Str) (k:Int) (h:gy l k):fv l k (fun y=>y=bN l k):=by
 unfold fv
 obtain⟨h1,h2,h3⟩:=h
 refine aw.up l.length (fun s=>s.2.1) (fun i t=>(k+1 * i,(i:Int),t)) (fun _ _=>rfl) (fun i out=>out=df (fun _ k=>cA k) 1 l k i) l (by simp) (gN _ _ _ _).symm ?_
 rintro i out K hk rfl IH
 have hl:=cM (fun _ k=>cA k) 1 l k i
 simp only[forall_eq,decide_eq_true_eq,decide_eq_false_iff_not,I64,Int.toNat_natCast]
 refine⟨fun h4=>⟨by simp only[cB];omega,by omega,by omega,by omega,?_⟩,fun h4=>?_⟩
 ·have hi:i<l.length:=by omega
  have:=IH hi _ rfl
  rw[← jc _ _ _ _ hi] at this
  rw[show k+1 * (((i+1:Nat)):Int)=k+1 * i+1 by omega] at this
  simpa using this
 ·rw[show i=l.length by omega]
  rfl
theorem vM {α:Type} [Inhabited α] {l:List α} {i:Nat} {x:α} (hi:i<l.length):at' (l.set i x) (i:Int)=x:=by
 rw[bY (by simpa using hi)]
 simp
abbrev dh (l:List aA) (k:Int):=dH (fun _ k=>(⟨cA k,k+1⟩:aA)) 2 l k
abbrev jM (l:List aA) (k:Int):Prop:=nY 2 l.length k
def gJ (a:List aA) (k_:Int) (Z:((List aA) × Int)→Prop):Prop:=
 aw (σ:=Int × Int × (List aA)) (fun (k10,i11,l12) K15=>∀ len16:Int,len16=(l12.length:Int)→∀ c18:Bool,c18=decide (i11<len16)→((c18=true→(cB k10)∧∀ r21:Str,r21=cA k10→(0≤i11∧i11<l12.length)∧∀ x27:aA,x27=at' l12 i11→∀ l30:List aA,l30=l12.set i11.toNat (aA.mk r21 x27.link)→(I64 (k10+1))∧∀ v36:Int,v36=k10+1→(0≤i11∧i11<l30.length)∧∀ x44:aA,x44=at' l30 i11→∀ l47:List aA,l47=l30.set i11.toNat (aA.mk x44.name v36)→(I64 (v36+1))∧∀ v53:Int,v53=v36+1→(I64 (i11+1))∧∀ v56:Int,v56=i11+1→K15 (v53,v56,l47))∧(c18=false→Z (l12,k10)))) (k_,0,a)
theorem u4 (l:List aA) (k:Int) (h:jM l k):gJ l k (fun y=>y=dh l k):=by
 unfold gJ
 obtain⟨h1,h2,h3⟩:=h
 refine aw.up l.length (fun s=>s.2.1) (fun i t=>(k+2 * i,(i:Int),t)) (fun _ _=>rfl) (fun i out=>out=df (fun _ k=>(⟨cA k,k+1⟩:aA)) 2 l k i) l (by simp) (gN _ _ _ _).symm ?_
 rintro i out K hk rfl IH
 have hl:=cM (fun _ k=>(⟨cA k,k+1⟩:aA)) 2 l k i
 simp only[forall_eq,decide_eq_true_eq,decide_eq_false_iff_not,I64,Int.toNat_natCast,List.length_set]
 refine⟨fun h4=>⟨by simp only[cB];omega,by omega,by omega,by omega,by omega,by omega,?_⟩,fun h4=>?_⟩
 ·have hi:i<l.length:=by omega
  rw[vM (by rw[hl];exact hi),List.set_set]
  have:=IH hi _ rfl
  rw[← jc _ _ _ _ hi] at this
  rw[show k+2 * (((i+1:Nat)):Int)=k+2 * i+1+1 by omega] at this
  simpa using this
 ·rw[show i=l.length by omega]
  rfl
abbrev cL (l:List Control) (k:Int):=dH (fun _ k=>(⟨cA k,k+1,k+1+1⟩:Control)) 3 l k
abbrev fJ (l:List Control) (k:Int):Prop:=nY 3 l.length k
def eI (a:List Control) (k_:Int) (Z:((List Control) × Int)→Prop):Prop:=
 aw (σ:=Int × Int × (List Control)) (fun (k10,i11,l12) K15=>∀ len16:Int,len16=(l12.length:Int)→∀ c18:Bool,c18=decide (i11<len16)→((c18=true→(cB k10)∧∀ r21:Str,r21=cA k10→(0≤i11∧i11<l12.length)∧∀ x27:Control,x27=at' l12 i11→∀ l30:List Control,l30=l12.set i11.toNat (Control.mk r21 x27.ports x27.kind)→(I64 (k10+1))∧∀ v36:Int,v36=k10+1→(0≤i11∧i11<l30.length)∧∀ x44:Control,x44=at' l30 i11→∀ l47:List Control,l47=l30.set i11.toNat (Control.mk x44.name v36 x44.kind)→(I64 (v36+1))∧∀ v53:Int,v53=v36+1→(0≤i11∧i11<l47.length)∧∀ x61:Control,x61=at' l47 i11→∀ l64:List Control,l64=l47.set i11.toNat (Control.mk x61.name x61.ports v53)→(I64 (v53+1))∧∀ v70:Int,v70=v53+1→(I64 (i11+1))∧∀ v73:Int,v73=i11+1→K15 (v70,v73,l64))∧(c18=false→Z (l12,k10)))) (k_,0,a)
theorem qn (l:List Control) (k:Int) (h:fJ l k):eI l k (fun y=>y=cL l k):=by
 unfold eI
 obtain⟨h1,h2,h3⟩:=h
 refine aw.up l.length (fun s=>s.2.1) (fun i t=>(k+3 * i,(i:Int),t)) (fun _ _=>rfl) (fun i out=>out=df (fun _ k=>(⟨cA k,k+1,k+1+1⟩:Control)) 3 l k i) l (by simp) (gN _ _ _ _).symm ?_
 rintro i out K hk rfl IH
 have hl:=cM (fun _ k=>(⟨cA k,k+1,k+1+1⟩:Control)) 3 l k i
 simp only[forall_eq,decide_eq_true_eq,decide_eq_false_iff_not,I64,Int.toNat_natCast,List.length_set]
 refine⟨fun h4=>⟨by simp only[cB];omega,by omega,by omega,by omega,by omega,by omega,by omega,by omega,?_⟩,fun h4=>?_⟩
 ·have hi:i<l.length:=by omega
  rw[vM (by rw[hl];exact hi),List.set_set,vM (by simp only[List.length_set,hl];exact hi),List.set_set]
  have:=IH hi _ rfl
  rw[← jc _ _ _ _ hi] at this
  rw[show k+3 * (((i+1:Nat)):Int)=k+3 * i+1+1+1 by omega] at this
  simpa using this
 ·rw[show i=l.length by omega]
  rfl
def ca (l:List Int) (k:Int):Int:=if (List.range l.length).all (fun i=>decide (at' l (i:Int)=k+i)) then k+l.length else -1
abbrev gP (l:List Int) (k:Int):Prop:=nY 1 l.length k
def iW (a:List Int) (k_:Int) (Z:Int→Prop):Prop:=
 aw (σ:=Int × Int) (fun (k5,i6) K9=>∀ dt:Int,dt=(a.length:Int)→∀ c12:Bool,c12=decide (i6<dt)→((c12=true→(0≤i6∧i6<a.length)∧∀ x15:Int,x15=at' a i6→∀ c17:Bool,c17=decide (x15 ≠ k5)→((c17=true→Z (-1))∧(c17=false→(I64 (k5+1))∧∀ v20:Int,v20=k5+1→(I64 (i6+1))∧∀ v23:Int,v23=i6+1→K9 (v20,v23))))∧(c12=false→Z k5))) (k_,0)
theorem yg (l:List Int) (k:Int) (h:gP l k):iW l k (fun y=>y=ca l k):=by
 unfold iW
 obtain⟨h1,h2,h3⟩:=h
 refine aw.up (τ:=Unit) l.length (fun s=>s.2) (fun i _=>(k+i,(i:Int))) (fun _ _=>rfl) (fun i _=>∀ j<i,at' l (j:Int)=k+j) () (by simp) (by simp) ?_
 rintro i _ K hk hI IH
 simp only[forall_eq,decide_eq_true_eq,decide_eq_false_iff_not,I64]
 refine⟨fun h4=>⟨by omega,fun h5=>?_,fun h5=>⟨by omega,by omega,?_⟩⟩,fun h4=>?_⟩
 ·rw[ca,if_neg]
  rw[List.all_eq_true]
  intro h6
  exact h5 (by simpa using h6 i (List.mem_range.2 (by omega)))
 ·have:=IH (by omega) () (fun j hj=>by
   rcases Nat.lt_or_ge j i with h6 | h6
   ·exact hI j h6
   ·rw[show j=i by omega];omega)
  simpa[show k+((i:Int)+1)=k+i+1 by omega] using this
 ·have hi:i=l.length:=by omega
  rw[ca,if_pos,hi]
  rw[List.all_eq_true]
  intro j hj
  simpa using hI j (by have:=List.mem_range.1 hj;omega)
theorem tL (l:List Int) (k:Int):ca (aX l k).1 k=(aX l k).2:=by
 have hl:(aX l k).1.length=l.length:=by simp[aX,dH,cM]
 rw[ca,if_pos,hl]
 ·simp[aX,dH]
 ·rw[List.all_eq_true]
  intro j hj
  have hj:=List.mem_range.1 hj
  rw[bY hj]
  rw[hl] at hj
  simp[aX,dH,df,hj]
end Go.Ab.Vg
/- Marks on nodes and bigraphs, told. -/
namespace Go.Ab.Vg
set_option linter.unusedSimpArgs false
set_option linter.unusedVariables false
section
variable {α:Type} (m:α→Int→α × Int)
def bq:List α→Int→List α × Int
 | [],k=>([],k)
 | x::l,k=>((m x k).1::(bq l (m x k).2).1,(bq l (m x k).2).2)
theorem mc (l1 l2:List α) (k:Int):bq m (l1++l2) k=((bq m l1 k).1++(bq m l2 (bq m l1 k).2).1,(bq m l2 (bq m l1 k).2).2):=by
 induction l1 generalizing k with
 | nil=>rfl
 | cons x l ih=>simp[bq,ih]
theorem jd (l:List α) (k:Int):(bq m l k).1.length=l.length:=by
 induction l generalizing k with
 | nil=>rfl
 | cons x l ih=>simp[bq,ih]
def fI (l:List α) (k:Int) (i:Nat):List α:=(bq m (l.take i) k).1++l.drop i
def gx (l:List α) (k:Int) (i:Nat):Int:=(bq m (l.take i) k).2
theorem wq (l:List α) (k:Int):fI m l k 0=l:=by simp[fI,bq]
theorem yZ (l:List α) (k:Int):fI m l k l.length=(bq m l k).1:=by simp[fI]
theorem sI (l:List α) (k:Int):gx m l k l.length=(bq m l k).2:=by simp[gx]
theorem sD (l:List α) (k:Int) (i:Nat):(fI m l k i).length=l.length:=by
 simp only[fI,List.length_append,jd,List.length_take,List.length_drop];omega
theorem Ae [Inhabited α] {l:List α} {k:Int} {i:Nat} (hi:i<l.length):at' (fI m l k i) (i:Int)=l[i]:=by
 rw[bY (by rw[sD];exact hi)]
 have hl:(bq m (l.take i) k).1.length=i:=by rw[jd];simp;omega
 simp only[fI]
 rw[List.getElem_append_right (by omega)]
 simp[hl]
theorem Aa {l:List α} {k:Int} {i:Nat} (hi:i<l.length):(fI m l k i).set i (m l[i] (gx m l k i)).1=fI m l k (i+1):=by
 have hl:(bq m (l.take i) k).1.length=i:=by rw[jd];simp;omega
 simp only[fI,gx]
 rw[List.set_append_right _ _ (by omega),hl,Nat.sub_self,List.take_succ_eq_append_getElem hi,mc,List.drop_eq_getElem_cons hi]
 simp only[List.set_cons_zero,bq,List.append_assoc,List.cons_append,List.nil_append]
theorem pP {l:List α} {k:Int} {i:Nat} (hi:i<l.length):gx m l k (i+1)=(m l[i] (gx m l k i)).2:=by
 simp only[gx]
 rw[List.take_succ_eq_append_getElem hi,mc]
 simp[bq]
theorem mf {sz:α→Nat} (hm:∀ x k,(m x k).2=k+sz x) (l:List α) (k:Int) (i:Nat):gx m l k i=k+((l.take i).map sz).sum:=by
 have:∀ (l:List α) (k:Int),(bq m l k).2=k+(l.map sz).sum:=by
  intro l
  induction l with
  | nil=>intro k;simp[bq]
  | cons x l ih=>intro k;simp only[bq,ih,hm,List.map_cons,List.sum_cons];omega
 exact this _ _
theorem iS {f:α→Nat} (l:List α) (i:Nat):((l.take i).map f).sum≤(l.map f).sum:=by
 have:l.map f=(l.take i).map f++(l.drop i).map f:=by rw[← List.map_append,List.take_append_drop]
 rw[this,List.sum_append];omega
end
def bX (x:aj) (k:Int):aj × Int:=(aj.mk k (k+1) (aX x.links (k+2)).1,(aX x.links (k+2)).2)
def bh (x:aj):Nat:=x.links.length+2
theorem eB (x:aj) (k:Int):(bX x k).2=k+bh x:=by simp[bX,bh,aX,dH];omega
abbrev bu (l:List aj) (k:Int):=bq bX l k
abbrev fT (l:List aj) (k:Int):Prop:=0≤k∧l.length≤1048576∧(∀ x ∈ l,x.links.length≤1048576)∧k+(l.map bh).sum≤1152921504606846976
def gZ (a:List aj) (k_:Int) (Z:((List aj) × Int)→Prop):Prop:=
 aw (σ:=Int × Int × (List aj)) (fun (k10,i11,l12) K15=>∀ len16:Int,len16=(l12.length:Int)→∀ c18:Bool,c18=decide (i11<len16)→((c18=true→(0≤i11∧i11<l12.length)∧∀ x21:aj,x21=at' l12 i11→∀ l40:List aj,l40=l12.set i11.toNat (aj.mk k10 x21.parent x21.links)→(I64 (k10+1))∧∀ v46:Int,v46=k10+1→(0≤i11∧i11<l40.length)∧∀ x49:aj,x49=at' l40 i11→∀ l69:List aj,l69=l40.set i11.toNat (aj.mk x49.control v46 x49.links)→(I64 (v46+1))∧∀ v75:Int,v75=v46+1→(0≤i11∧i11<l69.length)∧∀ x78:aj,x78=at' l69 i11→(eh x78.links v75)∧∀ r99:(List Int) × Int,r99=aX x78.links v75→∀ l105:List aj,l105=l69.set i11.toNat (aj.mk x78.control x78.parent r99.1)→(I64 (i11+1))∧∀ v109:Int,v109=i11+1→K15 (r99.2,v109,l105))∧(c18=false→Z (l12,k10)))) (k_,0,a)
theorem vK (l:List aj) (k:Int) (h:fT l k):gZ l k (fun y=>y=bu l k):=by
 unfold gZ
 obtain⟨h0,h1,h2,h3⟩:=h
 refine aw.up l.length (fun s=>s.2.1) (fun i t=>(gx bX l k i,(i:Int),t)) (fun _ _=>rfl) (fun i out=>out=fI bX l k i) l (by simp[gx,bq]) (wq _ _ _).symm ?_
 rintro i out K hk rfl IH
 have hl:=sD bX l k i
 have hs:=mf bX eB l k i
 have hs2:=iS (f:=bh) l i
 simp only[forall_eq,decide_eq_true_eq,decide_eq_false_iff_not,I64,Int.toNat_natCast,List.length_set]
 refine⟨fun h4=>?_,fun h4=>?_⟩
 ·have hi:i<l.length:=by omega
  have hs3:=mf bX eB l k (i+1)
  have hs4:=iS (f:=bh) l (i+1)
  have hs5:=pP bX (k:=k) hi
  rw[eB] at hs5
  have hz:bh l[i]=l[i].links.length+2:=rfl
  have hn:=h2 _ (List.getElem_mem hi)
  simp only[Ae bX hi,List.set_set,vM (show i<(fI bX l k i).length by omega)]
  refine⟨by omega,by omega,by omega,by omega,by omega,⟨by omega,by omega,by omega⟩,by omega,?_⟩
  have:=IH hi _ rfl
  rw[← Aa _ hi,pP _ hi] at this
  have e2:gx bX l k i+1+1=gx bX l k i+2:=by omega
  rw[e2]
  simpa[bX] using this
 ·rw[show i=l.length by omega,yZ,sI]
def lY {α:Type} [Inhabited α] (t:α→Int→Bool) (c:Int) (l:List α) (k:Int):Int:=if (List.range l.length).all (fun i=>t (at' l (i:Int)) (k+c * i)) then k+c * l.length else -1
theorem qT {α:Type} [Inhabited α] {t:α→Int→Bool} {g:α→Int→α} {c:Int} (ht:∀ x k,t (g x k) k=true) (l:List α) (k:Int):lY t c (dH g c l k).1 k=(dH g c l k).2:=by
 have hl:(dH g c l k).1.length=l.length:=by simp[dH,cM]
 rw[lY,if_pos,hl]
 ·simp[dH]
 ·rw[List.all_eq_true]
  intro j hj
  have hj:=List.mem_range.1 hj
  rw[bY hj]
  rw[hl] at hj
  simp[dH,df,hj,ht]
theorem wG {α:Type} [Inhabited α] {t:α→Int→Bool} {c:Int} {l:List α} {k:Int} {i:Nat} (hi:i<l.length) (h:t (at' l (i:Int)) (k+c * i)=false):lY t c l k = -1:=by
 rw[lY,if_neg]
 rw[List.all_eq_true]
 intro h6
 have:=h6 i (List.mem_range.2 hi)
 rw[h] at this;cases this
theorem tT {α:Type} [Inhabited α] {t:α→Int→Bool} {c:Int} {l:List α} {k:Int} (h:∀ i<l.length,t (at' l (i:Int)) (k+c * i)=true):lY t c l k=k+c * l.length:=by
 rw[lY,if_pos]
 rw[List.all_eq_true]
 exact fun j hj=>h j (List.mem_range.1 hj)
def cD (l:List Str) (k:Int):Int:=lY (fun x k=>decide (x=cA k)) 1 l k
abbrev gm (l:List Str) (k:Int):Prop:=nY 1 l.length k
def e6 (a:List Str) (k_:Int) (Z:Int→Prop):Prop:=
 aw (σ:=Int × Int) (fun (k5,i6) K9=>∀ dt:Int,dt=(a.length:Int)→∀ c12:Bool,c12=decide (i6<dt)→((c12=true→(0≤i6∧i6<a.length)∧∀ x15:Str,x15=at' a i6→(cB k5)∧∀ r18:Str,r18=cA k5→∀ c19:Bool,c19=decide (x15 ≠ r18)→((c19=true→Z (-1))∧(c19=false→(I64 (k5+1))∧∀ v22:Int,v22=k5+1→(I64 (i6+1))∧∀ v25:Int,v25=i6+1→K9 (v22,v25))))∧(c12=false→Z k5))) (k_,0)
theorem qO (l:List Str) (k:Int) (h:gm l k):e6 l k (fun y=>y=cD l k):=by
 unfold e6
 obtain⟨h1,h2,h3⟩:=h
 refine aw.up (τ:=Unit) l.length (fun s=>s.2) (fun i _=>(k+1 * i,(i:Int))) (fun _ _=>rfl) (fun i _=>∀ j<i,at' l (j:Int)=cA (k+1 * j)) () (by simp) (by simp) ?_
 rintro i _ K hk hI IH
 simp only[forall_eq,decide_eq_true_eq,decide_eq_false_iff_not,I64,cB]
 refine⟨fun h4=>⟨by omega,by omega,fun h5=>?_,fun h5=>⟨by omega,by omega,?_⟩⟩,fun h4=>?_⟩
 ·rw[cD,wG (i:=i) (by omega)]
  simpa using h5
 ·have:=IH (by omega) () (fun j hj=>by
   rcases Nat.lt_or_ge j i with h6 | h6
   ·exact hI j h6
   ·rw[show j=i by omega];simpa using h5)
  simpa[show k+((i:Int)+1)=k+i+1 by omega] using this
 ·have hi:i=l.length:=by omega
  rw[cD,tT (fun j hj=>by simpa using hI j (by omega)),hi]
def ej (l:List aA) (k:Int):Int:=lY (fun x k=>decide (x.name=cA k∧x.link=k+1)) 2 l k
abbrev jE (l:List aA) (k:Int):Prop:=nY 2 l.length k
def gT (a:List aA) (k_:Int) (Z:Int→Prop):Prop:=
 aw (σ:=Int × Int) (fun (k5,i6) K9=>∀ dt:Int,dt=(a.length:Int)→∀ c12:Bool,c12=decide (i6<dt)→((c12=true→(0≤i6∧i6<a.length)∧∀ x15:aA,x15=at' a i6→(cB k5)∧∀ r18:Str,r18=cA k5→∀ c19:Bool,c19=decide (x15.name ≠ r18)→((c19=true→Z (-1))∧(c19=false→(I64 (k5+1))∧∀ v22:Int,v22=k5+1→(0≤i6∧i6<a.length)∧∀ x26:aA,x26=at' a i6→∀ c28:Bool,c28=decide (x26.link ≠ v22)→((c28=true→Z (-1))∧(c28=false→(I64 (v22+1))∧∀ v31:Int,v31=v22+1→(I64 (i6+1))∧∀ v34:Int,v34=i6+1→K9 (v31,v34))))))∧(c12=false→Z k5))) (k_,0)
theorem uE (l:List aA) (k:Int) (h:jE l k):gT l k (fun y=>y=ej l k):=by
 unfold gT
 obtain⟨h1,h2,h3⟩:=h
 refine aw.up (τ:=Unit) l.length (fun s=>s.2) (fun i _=>(k+2 * i,(i:Int))) (fun _ _=>rfl) (fun i _=>∀ j<i,(at' l (j:Int)).name=cA (k+2 * j)∧(at' l (j:Int)).link=k+2 * j+1) () (by simp) (by simp) ?_
 rintro i _ K hk hI IH
 simp only[forall_eq,decide_eq_true_eq,decide_eq_false_iff_not,I64,cB]
 have hno:i<l.length→¬ ((at' l (i:Int)).name=cA (k+2 * i)∧(at' l (i:Int)).link=k+2 * i+1)→ej l k = -1:=fun hi h=>by
  rw[ej,wG (i:=i) hi]
  simpa using h
 refine⟨fun h4=>⟨by omega,by omega,fun h5=>(hno (by omega) (fun h=>h5 h.1)).symm,fun h5=>⟨by omega,by omega,fun h6=>(hno (by omega) (fun h=>h6 h.2)).symm,fun h6=>⟨by omega,by omega,?_⟩⟩⟩,fun h4=>?_⟩
 ·have:=IH (by omega) () (fun j hj=>by
   rcases Nat.lt_or_ge j i with h7 | h7
   ·exact hI j h7
   ·rw[show j=i by omega];exact⟨by simpa using h5,by omega⟩)
  simpa[show k+2 * ((i:Int)+1)=k+2 * i+1+1 by omega] using this
 ·have hi:i=l.length:=by omega
  rw[ej,tT (fun j hj=>by simpa using hI j (by omega)),hi]
def gF {α:Type} (h:α→Int→Int):List α→Int→Int
 | [],k=>k
 | x::l,k=>if h x k<0 then -1 else gF h l (h x k)
theorem kW {α:Type} {h:α→Int→Int} {m:α→Int→α × Int} (hm:∀ x k,0≤k→h (m x k).1 k=(m x k).2∧0≤(m x k).2):∀ (l:List α) (k:Int),0≤k→gF h (bq m l k).1 k=(bq m l k).2∧0≤(bq m l k).2
 | [],k,hk=>⟨rfl,hk⟩
 | x::l,k,hk=>by
  obtain⟨h1,h2⟩:=hm x k hk
  simp only[bq,gF,h1]
  rw[if_neg (by omega)]
  exact kW hm l _ h2
theorem lX (l:List Int) (k:Int):ca l k = -1∨ca l k=k+l.length:=by
 unfold ca;split
 ·exact .inr rfl
 ·exact .inl rfl
theorem wT {α:Type} [Inhabited α] (t:α→Int→Bool) (c:Int) (l:List α) (k:Int):lY t c l k = -1∨lY t c l k=k+c * l.length:=by
 unfold lY;split
 ·exact .inr rfl
 ·exact .inl rfl
def dm (x:aj) (k:Int):Int:=if x.control=k∧x.parent=k+1 then ca x.links (k+2) else -1
theorem iO (x:aj) (k:Int):dm x k = -1∨dm x k=k+bh x:=by
 unfold dm bh
 split
 ·rcases lX x.links (k+2) with h | h
  ·exact .inl h
  ·exact .inr (by rw[h];omega)
 ·exact .inl rfl
theorem nm (x:aj) (k:Int) (hk:0≤k):dm (bX x k).1 k=(bX x k).2∧0≤(bX x k).2:=by
 refine⟨?_,by rw[eB];omega⟩
 simp only[dm,bX,and_self,if_true]
 exact tL _ _
def bR (l:List aj) (k:Int):Int:=gF dm l k
abbrev jF (l:List aj) (k:Int):Prop:=fT l k
def gX (a:List aj) (k_:Int) (Z:Int→Prop):Prop:=
 aw (σ:=Int × Int) (fun (k5,i6) K9=>∀ dt:Int,dt=(a.length:Int)→∀ c12:Bool,c12=decide (i6<dt)→((c12=true→(0≤i6∧i6<a.length)∧∀ x15:aj,x15=at' a i6→∀ c17:Bool,c17=decide (x15.control ≠ k5)→((c17=true→Z (-1))∧(c17=false→(I64 (k5+1))∧∀ v20:Int,v20=k5+1→(0≤i6∧i6<a.length)∧∀ x23:aj,x23=at' a i6→∀ c26:Bool,c26=decide (x15.parent ≠ v20)→((c26=true→Z (-1))∧(c26=false→(I64 (v20+1))∧∀ v30:Int,v30=v20+1→(0≤i6∧i6<a.length)∧∀ x33:aj,x33=at' a i6→(gP x33.links v30)∧∀ r36:Int,r36=ca x33.links v30→∀ c37:Bool,c37=decide (r36<0)→((c37=true→Z (-1))∧(c37=false→(I64 (i6+1))∧∀ v40:Int,v40=i6+1→K9 (r36,v40))))))))∧(c12=false→Z k5))) (k_,0)
theorem vV (l:List aj) (k:Int) (h:jF l k):gX l k (fun y=>y=bR l k):=by
 unfold gX
 obtain⟨h0,h1,h2,h3⟩:=h
 refine aw.up (τ:=Unit) l.length (fun s=>s.2) (fun i _=>(k+((l.take i).map bh).sum,(i:Int))) (fun _ _=>rfl) (fun i _=>bR l k=gF dm (l.drop i) (k+((l.take i).map bh).sum)) () (by simp) (by simp[bR]) ?_
 rintro i _ K hk hI IH
 have hs2:=iS (f:=bh) l i
 simp only[forall_eq,decide_eq_true_eq,decide_eq_false_iff_not,I64]
 refine⟨fun h4=>?_,fun h4=>?_⟩
 ·have hi:i<l.length:=by omega
  have hs4:=iS (f:=bh) l (i+1)
  have hs5:((l.take (i+1)).map bh).sum=((l.take i).map bh).sum+bh l[i]:=by rw[List.take_succ_eq_append_getElem hi,List.map_append,List.sum_append];simp only[List.map_cons,List.map_nil,List.sum_cons,List.sum_nil,Nat.add_zero]
  have hz:bh l[i]=l[i].links.length+2:=rfl
  have hn:=h2 _ (List.getElem_mem hi)
  rw[bY hi]
  rw[List.drop_eq_getElem_cons hi,gF] at hI
  have hno:dm l[i] (k+((l.take i).map bh).sum) = -1→(-1:Int)=bR l k:=fun h=>by rw[hI,h];rfl
  refine⟨by omega,fun h5=>hno (by rw[dm,if_neg (fun h=>h5 h.1)]),fun h5=>⟨by omega,by omega,fun h6=>hno (by rw[dm,if_neg (fun h=>h6 h.2)]),fun h6=>⟨by omega,by omega,⟨by omega,by omega,by omega⟩,?_⟩⟩⟩
  have hq:dm l[i] (k+((l.take i).map bh).sum)=ca l[i].links (k+((l.take i).map bh).sum+1+1):=by
   rw[dm,if_pos ⟨by simpa using h5,by simpa using h6⟩]
   congr 1;omega
  refine⟨fun h7=>hno ?_,fun h7=>⟨by omega,?_⟩⟩
  ·rcases iO l[i] (k+((l.take i).map bh).sum) with h | h
   ·exact h
   ·rw[hq] at h;omega
  ·have hc:=iO l[i] (k+((l.take i).map bh).sum)
   rw[hq] at hc
   have hv:ca l[i].links (k+((l.take i).map bh).sum+1+1)=k+((l.take (i+1)).map bh).sum:=by
    rcases hc with h | h
    ·omega
    ·rw[h,hs5];omega
   have:=IH hi () (by rw[hI,hq,hv,if_neg (by omega)])
   rw[hv]
   simpa using this
 ·rw[hI,show i=l.length by omega,List.drop_length];simp[gF]
def bt (b:Big) (k:Int):Big × Int:=
 let n:=bu b.nodes k
 let s:=aX b.sites n.2
 let o:=bN b.outer s.2
 let i:=dh b.inner o.2
 (Big.mk b.roots n.1 s.1 b.edges o.1 i.1,i.2)
def kI (b:Big):Nat:=(b.nodes.map bh).sum+b.sites.length+b.outer.length+2 * b.inner.length
abbrev dZ (b:Big) (k:Int):Prop:=0≤k∧b.nodes.length≤1048576∧(∀ x ∈ b.nodes,x.links.length≤1048576)∧b.sites.length≤1048576∧b.outer.length≤1048576∧b.inner.length≤1048576∧k+kI b≤1152921504606846976
def kE (a:Big) (k_:Int) (Z:(Big × Int)→Prop):Prop:=
 (fT a.nodes k_)∧∀ r13:(List aj) × Int,r13=bu a.nodes k_→(eh a.sites r13.2)∧∀ r22:(List Int) × Int,r22=aX a.sites r13.2→(gy a.outer r22.2)∧∀ r31:(List Str) × Int,r31=bN a.outer r22.2→(jM a.inner r31.2)∧∀ r40:(List aA) × Int,r40=dh a.inner r31.2→Z ((Big.mk a.roots r13.1 r22.1 a.edges r31.1 r40.1),r40.2)
theorem lQ (l:List aj) (k:Int):(bu l k).2=k+(l.map bh).sum:=by
 have:=mf bX eB l k l.length
 rwa [sI,List.take_length] at this
theorem Am (b:Big) (k:Int) (h:dZ b k):kE b k (fun y=>y=bt b k):=by
 unfold kE
 obtain⟨h0,h1,h2,h3,h4,h5,h6⟩:=h
 have hb:kI b=(b.nodes.map bh).sum+b.sites.length+b.outer.length+2 * b.inner.length:=rfl
 have hn:=lQ b.nodes k
 simp only[forall_eq]
 refine⟨⟨h0,h1,h2,by omega⟩,⟨by omega,by omega,by omega⟩,⟨?_,by omega,?_⟩,⟨?_,by omega,?_⟩,rfl⟩
 all_goals simp only[dH,hn];omega
def jq (b:Big) (k:Int):Int:=
 if bR b.nodes k<0 then -1 else
 if ca b.sites (bR b.nodes k)<0 then -1 else
 if cD b.outer (ca b.sites (bR b.nodes k))<0 then -1 else
 if ej b.inner (cD b.outer (ca b.sites (bR b.nodes k)))<0 then -1 else ej b.inner (cD b.outer (ca b.sites (bR b.nodes k)))
abbrev gl (b:Big) (k:Int):Prop:=dZ b k
theorem qm (l:List aj) (k:Int):bR l k = -1∨bR l k=k+(l.map bh).sum:=by
 unfold bR
 induction l generalizing k with
 | nil=>exact .inr (by simp[gF])
 | cons x l ih=>
  rw[gF]
  split
  ·exact .inl rfl
  ·rename_i h
   rcases iO x k with h1 | h1
   ·omega
   ·rcases ih (dm x k) with h2 | h2
    ·exact .inl h2
    ·exact .inr (by rw[h2,h1];simp;omega)
def k6 (a:Big) (k_:Int) (Z:Int→Prop):Prop:=
 (jF a.nodes k_)∧∀ r5:Int,r5=bR a.nodes k_→∀ c6:Bool,c6=decide (r5<0)→((c6=true→Z (-1))∧(c6=false→(gP a.sites r5)∧∀ r9:Int,r9=ca a.sites r5→∀ c10:Bool,c10=decide (r9<0)→((c10=true→Z (-1))∧(c10=false→(gm a.outer r9)∧∀ r14:Int,r14=cD a.outer r9→∀ c16:Bool,c16=decide (r14<0)→((c16=true→Z (-1))∧(c16=false→(jE a.inner r14)∧∀ r19:Int,r19=ej a.inner r14→∀ c20:Bool,c20=decide (r19<0)→((c20=true→Z (-1))∧(c20=false→Z r19))))))))
theorem ze (b:Big) (k:Int) (h:gl b k):k6 b k (fun y=>y=jq b k):=by
 unfold k6
 obtain⟨h0,h1,h2,h3,h4,h5,h6⟩:=h
 have hb:kI b=(b.nodes.map bh).sum+b.sites.length+b.outer.length+2 * b.inner.length:=rfl
 simp only[forall_eq,decide_eq_true_eq,decide_eq_false_iff_not]
 have c1:=qm b.nodes k
 have c2:=lX b.sites (bR b.nodes k)
 have c3:=wT (fun x k=>decide (x=cA k)) 1 b.outer (ca b.sites (bR b.nodes k))
 change cD b.outer (ca b.sites (bR b.nodes k)) = -1∨cD b.outer (ca b.sites (bR b.nodes k))=_ at c3
 unfold jq
 refine⟨⟨h0,h1,h2,by omega⟩,fun q1=>by rw[if_pos q1],fun q1=>⟨⟨by omega,by omega,by omega⟩,fun q2=>by rw[if_neg q1,if_pos q2],fun q2=>⟨⟨by omega,by omega,by omega⟩,fun q3=>by rw[if_neg q1,if_neg q2,if_pos q3],fun q3=>⟨⟨by omega,by omega,by omega⟩,fun q4=>by rw[if_neg q1,if_neg q2,if_neg q3,if_pos q4],fun q4=>by rw[if_neg q1,if_neg q2,if_neg q3,if_neg q4]⟩⟩⟩⟩
theorem vS (b:Big) (k:Int) (hk:0≤k):jq (bt b k).1 k=(bt b k).2:=by
 have e1:bR (bu b.nodes k).1 k=(bu b.nodes k).2:=(kW nm b.nodes k hk).1
 have p1:0≤(bu b.nodes k).2:=(kW nm b.nodes k hk).2
 have e2:=tL b.sites (bu b.nodes k).2
 have p2:0≤(aX b.sites (bu b.nodes k).2).2:=by simp only[dH];omega
 have e3:cD (bN b.outer (aX b.sites (bu b.nodes k).2).2).1 (aX b.sites (bu b.nodes k).2).2=(bN b.outer (aX b.sites (bu b.nodes k).2).2).2:=qT (by simp) _ _
 have p3:0≤(bN b.outer (aX b.sites (bu b.nodes k).2).2).2:=by simp only[dH] at p2 ⊢;omega
 have e4:ej (dh b.inner (bN b.outer (aX b.sites (bu b.nodes k).2).2).2).1 (bN b.outer (aX b.sites (bu b.nodes k).2).2).2=(dh b.inner (bN b.outer (aX b.sites (bu b.nodes k).2).2).2).2:=qT (by simp) _ _
 have p4:0≤(dh b.inner (bN b.outer (aX b.sites (bu b.nodes k).2).2).2).2:=by simp only[dH] at p3 ⊢;omega
 simp only[bt,jq,e1,e2,e3,e4]
 rw[if_neg (by omega),if_neg (by omega),if_neg (by omega),if_neg (by omega)]
end Go.Ab.Vg
/- Contracts of the laws' eq.. functions of bigraphs. By program. -/
namespace Go.Ab
open Go.Proofs
set_option linter.unusedSimpArgs false
theorem aF.AO {H:ak} {n:Nat} (t:Bool) (x:aj):aF H n (.agg (x.cells t)) (.agg (x.cells false)):=aF.vg (.agg _ (wI t x)) (by rw[qH,xT])
theorem aF.AK {H:ak} {n:Nat} (x:aA):aF H n (.agg x.cells) (.agg x.cells):=aF.HA (by simp[aA.cells])
theorem aF.E4 {H:ak} {n:Nat} (x:Control):aF H n (.agg x.cells) (.agg x.cells):=aF.HA (by simp[Control.cells])
theorem e58:Ent Tryz.prog 58:=Ent.of Tryz.func58 (by kernel_rfl) rfl
theorem mL (p q:List (Int)) (hp:p.length≤1048576):aq Tryz.prog 58 [.list false (p.map al),.list false (q.map al)] (fun r=>r=bool (decide (p=q))):=by
 refine aq.of Tryz.func58 rfl Tryz.ntmps58 (by simp) fun Q hQ=>?_
 refine aa.au ae (by decide) fun k' hk'=>?_
 simp   -- R0
 apply hk'
 refine aa.seq ?_
 refine aa.au ae (by decide) fun k' hk'=>?_
 simp   -- R1
 apply hk'
 refine aa.ite rfl (fun hc1=>?_) (fun hc1=>?_)
 ·simp at hc1
  refine aa.au ae (by decide) fun k' hk'=>?_
  simp   -- R2
  apply hk'
  refine aa.ret Tryz.func58 (aK.one Tryz.results58) (hQ _ _ _ _ (.v _ _ _) ?_)
  have:p ≠ q:=by intro h;subst h;omega
  simp[this]
 ·simp at hc1
  have hlen:p.length=q.length:=by omega
  refine aa.skip ?_
  refine aa.seq ?_
  refine aa.au ae (by decide) fun k' hk'=>?_
  simp   -- R3
  apply hk'
  refine aa.block (aa.b6 p.length (fun k ρ H n=>ρ 0 = .list false (p.map al)∧ρ 1 = .list false (q.map al)∧ρ 5=int k∧p.take k=q.take k) ?_ ?_)
  ·simp
  ·rintro k ρ H n hk ⟨h0,h1,h5,heq⟩ IH
   refine aa.seq ?_
   refine aa.au ae (by decide) fun k' hk'=>?_
   simp [h0, h5]   -- R4
   apply hk'
   refine aa.ite rfl (fun hc2=>?_) (fun hc2=>?_)
   ·simp at hc2
    have hq2:k<q.length:=by omega
    refine aa.skip ?_
    refine aa.seq ?_
    refine aa.block ?_
    refine aa.eo ae aD bU (by decide) (by kernel_rfl) fun k' hk'=>?_
    simp [h0, h1, h5, hc2, hq2, al]   -- R6
    apply hk'
    refine aa.ite rfl (fun hc3=>?_) (fun hc3=>?_)
    ·simp at hc3
     refine aa.au ae (by decide) fun k' hk'=>?_
     simp   -- R7
     apply hk'
     refine aa.ret Tryz.func58 (aK.one Tryz.results58) (hQ _ _ _ _ (.v _ _ _) ?_)
     have:p ≠ q:=by intro h;subst h;exact hc3 rfl
     simp[this]
    ·simp at hc3
     refine aa.skip ?_
     refine aa.inBlock ?_
     refine aa.cg ae (by decide) fun k' hk'=>?_
     simp [h5, aZ (show k < 4611686018427387904 by omega)]   -- R5
     apply hk'
     refine IH hc2 _ _ _ ?_
     refine⟨by simp[h0,al],by simp[h1,al],by simp,?_⟩
     rw[List.take_succ_eq_append_getElem hc2,List.take_succ_eq_append_getElem hq2,heq,hc3]
   ·simp at hc2
    refine aa.exit rfl ?_
    refine aa.au ae (by decide) fun k' hk'=>?_
    simp   -- R8
    apply hk'
    refine aa.ret Tryz.func58 (aK.one Tryz.results58) (hQ _ _ _ _ (.v _ _ _) ?_)
    rw[List.take_of_length_le hc2,List.take_of_length_le (by omega)] at heq
    simp[heq]
theorem e59:Ent Tryz.prog 59:=Ent.of Tryz.func59 (by kernel_rfl) rfl
theorem uQ (p q:List (Str)) (hp:p.length≤1048576):aq Tryz.prog 59 [.list false (p.map aL),.list false (q.map aL)] (fun r=>r=bool (decide (p=q))):=by
 refine aq.of Tryz.func59 rfl Tryz.ntmps59 (by simp) fun Q hQ=>?_
 refine aa.au ae (by decide) fun k' hk'=>?_
 simp   -- R0
 apply hk'
 refine aa.seq ?_
 refine aa.au ae (by decide) fun k' hk'=>?_
 simp   -- R1
 apply hk'
 refine aa.ite rfl (fun hc1=>?_) (fun hc1=>?_)
 ·simp at hc1
  refine aa.au ae (by decide) fun k' hk'=>?_
  simp   -- R2
  apply hk'
  refine aa.ret Tryz.func59 (aK.one Tryz.results59) (hQ _ _ _ _ (.v _ _ _) ?_)
  have:p ≠ q:=by intro h;subst h;omega
  simp[this]
 ·simp at hc1
  have hlen:p.length=q.length:=by omega
  refine aa.skip ?_
  refine aa.seq ?_
  refine aa.au ae (by decide) fun k' hk'=>?_
  simp   -- R3
  apply hk'
  refine aa.block (aa.b6 p.length (fun k ρ H n=>ρ 0 = .list false (p.map aL)∧ρ 1 = .list false (q.map aL)∧ρ 5=int k∧p.take k=q.take k) ?_ ?_)
  ·simp
  ·rintro k ρ H n hk ⟨h0,h1,h5,heq⟩ IH
   refine aa.seq ?_
   refine aa.au ae (by decide) fun k' hk'=>?_
   simp [h0, h5]   -- R4
   apply hk'
   refine aa.ite rfl (fun hc2=>?_) (fun hc2=>?_)
   ·simp at hc2
    have hq2:k<q.length:=by omega
    refine aa.skip ?_
    refine aa.seq ?_
    refine aa.block ?_
    refine aa.eo ae aD bU (by decide) (by kernel_rfl) fun k' hk'=>?_
    simp [h0, h1, h5, hc2, hq2, aL]   -- R6
    apply hk'
    refine aa.ite rfl (fun hc3=>?_) (fun hc3=>?_)
    ·simp at hc3
     refine aa.au ae (by decide) fun k' hk'=>?_
     simp   -- R7
     apply hk'
     refine aa.ret Tryz.func59 (aK.one Tryz.results59) (hQ _ _ _ _ (.v _ _ _) ?_)
     have:p ≠ q:=by intro h;subst h;exact hc3 rfl
     simp[this]
    ·simp at hc3
     refine aa.skip ?_
     refine aa.inBlock ?_
     refine aa.cg ae (by decide) fun k' hk'=>?_
     simp [h5, aZ (show k < 4611686018427387904 by omega)]   -- R5
     apply hk'
     refine IH hc2 _ _ _ ?_
     refine⟨by simp[h0,aL],by simp[h1,aL],by simp,?_⟩
     rw[List.take_succ_eq_append_getElem hc2,List.take_succ_eq_append_getElem hq2,heq,hc3]
   ·simp at hc2
    refine aa.exit rfl ?_
    refine aa.au ae (by decide) fun k' hk'=>?_
    simp   -- R8
    apply hk'
    refine aa.ret Tryz.func59 (aK.one Tryz.results59) (hQ _ _ _ _ (.v _ _ _) ?_)
    rw[List.take_of_length_le hc2,List.take_of_length_le (by omega)] at heq
    simp[heq]
theorem IM:Ent Tryz.prog 114:=Ent.of Tryz.func114 (by kernel_rfl) rfl
theorem Co (x y:aA):aq Tryz.prog 114 [.agg (aA.cells x),.agg (aA.cells y)] (fun r=>r=bool (decide (x=y))):=by
 obtain⟨x0,x1⟩:=x
 obtain⟨y0,y1⟩:=y
 refine aq.of Tryz.func114 rfl Tryz.ntmps114 (by simp) fun Q hQ=>?_
 refine aa.au ae (by decide) fun k' hk'=>?_
 simp [aA.cells, bW, encI, encS, cb]   -- R0
 apply hk'
 refine aa.seq ?_
 refine aa.au ae (by decide) fun k' hk'=>?_
 simp
 apply hk'
 refine aa.ite rfl (fun hc=>?_) (fun hd0=>?_)
 ·simp at hc
  refine aa.au ae (by decide) fun k' hk'=>?_
  simp
  apply hk'
  exact aa.ret Tryz.func114 (aK.one Tryz.results114) (hQ _ _ _ _ (.v _ _ _) (by simp[hc]))
 simp at hd0
 refine aa.skip ?_
 refine aa.seq ?_
 refine aa.au ae (by decide) fun k' hk'=>?_
 simp
 apply hk'
 refine aa.ite rfl (fun hc=>?_) (fun hd1=>?_)
 ·simp at hc
  refine aa.au ae (by decide) fun k' hk'=>?_
  simp
  apply hk'
  exact aa.ret Tryz.func114 (aK.one Tryz.results114) (hQ _ _ _ _ (.v _ _ _) (by simp[hc]))
 simp at hd1
 refine aa.skip ?_
 refine aa.au ae (by decide) fun k' hk'=>?_
 simp
 apply hk'
 exact aa.ret Tryz.func114 (aK.one Tryz.results114) (hQ _ _ _ _ (.v _ _ _) (by simp[hd0,hd1]))
theorem e60:Ent Tryz.prog 60:=Ent.of Tryz.func60 (by kernel_rfl) rfl
theorem yv (p q:List (aA)) (hp:p.length≤1048576):aq Tryz.prog 60 [.list false (p.map aA.cells),.list false (q.map aA.cells)] (fun r=>r=bool (decide (p=q))):=by
 refine aq.of Tryz.func60 rfl Tryz.ntmps60 (by simp) fun Q hQ=>?_
 refine aa.au ae (by decide) fun k' hk'=>?_
 simp   -- R0
 apply hk'
 refine aa.seq ?_
 refine aa.au ae (by decide) fun k' hk'=>?_
 simp   -- R1
 apply hk'
 refine aa.ite rfl (fun hc1=>?_) (fun hc1=>?_)
 ·simp at hc1
  refine aa.au ae (by decide) fun k' hk'=>?_
  simp   -- R2
  apply hk'
  refine aa.ret Tryz.func60 (aK.one Tryz.results60) (hQ _ _ _ _ (.v _ _ _) ?_)
  have:p ≠ q:=by intro h;subst h;omega
  simp[this]
 ·simp at hc1
  have hlen:p.length=q.length:=by omega
  refine aa.skip ?_
  refine aa.seq ?_
  refine aa.au ae (by decide) fun k' hk'=>?_
  simp   -- R3
  apply hk'
  refine aa.block (aa.b6 p.length (fun k ρ H n=>ρ 0 = .list false (p.map aA.cells)∧ρ 1 = .list false (q.map aA.cells)∧ρ 5=int k∧p.take k=q.take k) ?_ ?_)
  ·simp
  ·rintro k ρ H n hk ⟨h0,h1,h5,heq⟩ IH
   refine aa.seq ?_
   refine aa.au ae (by decide) fun k' hk'=>?_
   simp [h0, h5]   -- R4
   apply hk'
   refine aa.ite rfl (fun hc2=>?_) (fun hc2=>?_)
   ·simp at hc2
    have hq2:k<q.length:=by omega
    refine aa.skip ?_
    refine aa.seq ?_
    refine aa.block ?_
    refine aa.eo ae aD bU (by decide) (by kernel_rfl) fun k' hk'=>?_
    simp [h0, h1, h5, hc2, hq2, aA.cells]   -- R6
    refine bn.aB ae aD (Co p[k] q[k]) IM (.cons (aF.AK p[k]) (.cons (aF.AK q[k]) .nil)) (by decide) rfl (by simp[aA.cells]) ?_
    simp
    apply hk'
    refine aa.ite rfl (fun hc3=>?_) (fun hc3=>?_)
    ·simp at hc3
     refine aa.au ae (by decide) fun k' hk'=>?_
     simp   -- R7
     apply hk'
     refine aa.ret Tryz.func60 (aK.one Tryz.results60) (hQ _ _ _ _ (.v _ _ _) ?_)
     have:p ≠ q:=by intro h;subst h;exact hc3 rfl
     simp[this]
    ·simp at hc3
     refine aa.skip ?_
     refine aa.inBlock ?_
     refine aa.cg ae (by decide) fun k' hk'=>?_
     simp [h5, aZ (show k < 4611686018427387904 by omega)]   -- R5
     apply hk'
     refine IH hc2 _ _ _ ?_
     refine⟨by simp[h0,aA.cells],by simp[h1,aA.cells],by simp,?_⟩
     rw[List.take_succ_eq_append_getElem hc2,List.take_succ_eq_append_getElem hq2,heq,hc3]
   ·simp at hc2
    refine aa.exit rfl ?_
    refine aa.au ae (by decide) fun k' hk'=>?_
    simp   -- R8
    apply hk'
    refine aa.ret Tryz.func60 (aK.one Tryz.results60) (hQ _ _ _ _ (.v _ _ _) ?_)
    rw[List.take_of_length_le hc2,List.take_of_length_le (by omega)] at heq
    simp[heq]
theorem e61:Ent Tryz.prog 61:=Ent.of Tryz.func61 (by kernel_rfl) rfl
theorem uV (x y:Control):aq Tryz.prog 61 [.agg (Control.cells x),.agg (Control.cells y)] (fun r=>r=bool (decide (x=y))):=by
 obtain⟨x0,x1,x2⟩:=x
 obtain⟨y0,y1,y2⟩:=y
 refine aq.of Tryz.func61 rfl Tryz.ntmps61 (by simp) fun Q hQ=>?_
 refine aa.au ae (by decide) fun k' hk'=>?_
 simp [Control.cells, bW, encI, encS, cb]   -- R0
 apply hk'
 refine aa.seq ?_
 refine aa.au ae (by decide) fun k' hk'=>?_
 simp
 apply hk'
 refine aa.ite rfl (fun hc=>?_) (fun hd0=>?_)
 ·simp at hc
  refine aa.au ae (by decide) fun k' hk'=>?_
  simp
  apply hk'
  exact aa.ret Tryz.func61 (aK.one Tryz.results61) (hQ _ _ _ _ (.v _ _ _) (by simp[hc]))
 simp at hd0
 refine aa.skip ?_
 refine aa.seq ?_
 refine aa.au ae (by decide) fun k' hk'=>?_
 simp
 apply hk'
 refine aa.ite rfl (fun hc=>?_) (fun hd1=>?_)
 ·simp at hc
  refine aa.au ae (by decide) fun k' hk'=>?_
  simp
  apply hk'
  exact aa.ret Tryz.func61 (aK.one Tryz.results61) (hQ _ _ _ _ (.v _ _ _) (by simp[hc]))
 simp at hd1
 refine aa.skip ?_
 refine aa.seq ?_
 refine aa.au ae (by decide) fun k' hk'=>?_
 simp
 apply hk'
 refine aa.ite rfl (fun hc=>?_) (fun hd2=>?_)
 ·simp at hc
  refine aa.au ae (by decide) fun k' hk'=>?_
  simp
  apply hk'
  exact aa.ret Tryz.func61 (aK.one Tryz.results61) (hQ _ _ _ _ (.v _ _ _) (by simp[hc]))
 simp at hd2
 refine aa.skip ?_
 refine aa.au ae (by decide) fun k' hk'=>?_
 simp
 apply hk'
 exact aa.ret Tryz.func61 (aK.one Tryz.results61) (hQ _ _ _ _ (.v _ _ _) (by simp[hd0,hd1,hd2]))
theorem e14:Ent Tryz.prog 14:=Ent.of Tryz.func14 (by kernel_rfl) rfl
theorem sO (p q:List (Control)) (hp:p.length≤1048576):aq Tryz.prog 14 [.list false (p.map Control.cells),.list false (q.map Control.cells)] (fun r=>r=bool (decide (p=q))):=by
 refine aq.of Tryz.func14 rfl Tryz.ntmps14 (by simp) fun Q hQ=>?_
 refine aa.au ae (by decide) fun k' hk'=>?_
 simp   -- R0
 apply hk'
 refine aa.seq ?_
 refine aa.au ae (by decide) fun k' hk'=>?_
 simp   -- R1
 apply hk'
 refine aa.ite rfl (fun hc1=>?_) (fun hc1=>?_)
 ·simp at hc1
  refine aa.au ae (by decide) fun k' hk'=>?_
  simp   -- R2
  apply hk'
  refine aa.ret Tryz.func14 (aK.one Tryz.results14) (hQ _ _ _ _ (.v _ _ _) ?_)
  have:p ≠ q:=by intro h;subst h;omega
  simp[this]
 ·simp at hc1
  have hlen:p.length=q.length:=by omega
  refine aa.skip ?_
  refine aa.seq ?_
  refine aa.au ae (by decide) fun k' hk'=>?_
  simp   -- R3
  apply hk'
  refine aa.block (aa.b6 p.length (fun k ρ H n=>ρ 0 = .list false (p.map Control.cells)∧ρ 1 = .list false (q.map Control.cells)∧ρ 5=int k∧p.take k=q.take k) ?_ ?_)
  ·simp
  ·rintro k ρ H n hk ⟨h0,h1,h5,heq⟩ IH
   refine aa.seq ?_
   refine aa.au ae (by decide) fun k' hk'=>?_
   simp [h0, h5]   -- R4
   apply hk'
   refine aa.ite rfl (fun hc2=>?_) (fun hc2=>?_)
   ·simp at hc2
    have hq2:k<q.length:=by omega
    refine aa.skip ?_
    refine aa.seq ?_
    refine aa.block ?_
    refine aa.eo ae aD bU (by decide) (by kernel_rfl) fun k' hk'=>?_
    simp [h0, h1, h5, hc2, hq2, Control.cells]   -- R6
    refine bn.aB ae aD (uV p[k] q[k]) e61 (.cons (aF.E4 p[k]) (.cons (aF.E4 q[k]) .nil)) (by decide) rfl (by simp[Control.cells]) ?_
    simp
    apply hk'
    refine aa.ite rfl (fun hc3=>?_) (fun hc3=>?_)
    ·simp at hc3
     refine aa.au ae (by decide) fun k' hk'=>?_
     simp   -- R7
     apply hk'
     refine aa.ret Tryz.func14 (aK.one Tryz.results14) (hQ _ _ _ _ (.v _ _ _) ?_)
     have:p ≠ q:=by intro h;subst h;exact hc3 rfl
     simp[this]
    ·simp at hc3
     refine aa.skip ?_
     refine aa.inBlock ?_
     refine aa.cg ae (by decide) fun k' hk'=>?_
     simp [h5, aZ (show k < 4611686018427387904 by omega)]   -- R5
     apply hk'
     refine IH hc2 _ _ _ ?_
     refine⟨by simp[h0,Control.cells],by simp[h1,Control.cells],by simp,?_⟩
     rw[List.take_succ_eq_append_getElem hc2,List.take_succ_eq_append_getElem hq2,heq,hc3]
   ·simp at hc2
    refine aa.exit rfl ?_
    refine aa.au ae (by decide) fun k' hk'=>?_
    simp   -- R8
    apply hk'
    refine aa.ret Tryz.func14 (aK.one Tryz.results14) (hQ _ _ _ _ (.v _ _ _) ?_)
    rw[List.take_of_length_le hc2,List.take_of_length_le (by omega)] at heq
    simp[heq]
theorem I9:Ent Tryz.prog 113:=Ent.of Tryz.func113 (by kernel_rfl) rfl
theorem Bl (x y:aj) (hl:x.links.length≤1048576):aq Tryz.prog 113 [.agg (aj.cells false x),.agg (aj.cells false y)] (fun r=>r=bool (decide (x=y))):=by
 obtain⟨x0,x1,x2⟩:=x
 obtain⟨y0,y1,y2⟩:=y
 refine aq.of Tryz.func113 rfl Tryz.ntmps113 (by simp) fun Q hQ=>?_
 refine aa.au ae (by decide) fun k' hk'=>?_
 simp [aj.cells, bW, encI, encS, cb]   -- R0
 apply hk'
 refine aa.seq ?_
 refine aa.au ae (by decide) fun k' hk'=>?_
 simp
 apply hk'
 refine aa.ite rfl (fun hc=>?_) (fun hd0=>?_)
 ·simp at hc
  refine aa.au ae (by decide) fun k' hk'=>?_
  simp
  apply hk'
  exact aa.ret Tryz.func113 (aK.one Tryz.results113) (hQ _ _ _ _ (.v _ _ _) (by simp[hc]))
 simp at hd0
 refine aa.skip ?_
 refine aa.seq ?_
 refine aa.au ae (by decide) fun k' hk'=>?_
 simp
 apply hk'
 refine aa.ite rfl (fun hc=>?_) (fun hd1=>?_)
 ·simp at hc
  refine aa.au ae (by decide) fun k' hk'=>?_
  simp
  apply hk'
  exact aa.ret Tryz.func113 (aK.one Tryz.results113) (hQ _ _ _ _ (.v _ _ _) (by simp[hc]))
 simp at hd1
 refine aa.skip ?_
 refine aa.seq ?_
 refine aa.au ae (by decide) fun k' hk'=>?_
 simp
 refine aG.aB ae (mL x2 y2 hl) e58 (.cons (aF.encI false x2) (.cons (aF.encI false y2) .nil)) (by decide) (by decide) rfl (by simp[bW,encI,encS,cb]) ?_
 rintro _ rfl
 simp
 apply hk'
 refine aa.ite rfl (fun hc=>?_) (fun hd2=>?_)
 ·simp at hc
  refine aa.au ae (by decide) fun k' hk'=>?_
  simp
  apply hk'
  exact aa.ret Tryz.func113 (aK.one Tryz.results113) (hQ _ _ _ _ (.v _ _ _) (by simp[hc]))
 simp at hd2
 refine aa.skip ?_
 refine aa.au ae (by decide) fun k' hk'=>?_
 simp
 apply hk'
 exact aa.ret Tryz.func113 (aK.one Tryz.results113) (hQ _ _ _ _ (.v _ _ _) (by simp[hd0,hd1,hd2]))
theorem e57:Ent Tryz.prog 57:=Ent.of Tryz.func57 (by kernel_rfl) rfl
theorem yV (p q:List (aj)) (hp:p.length≤1048576) (hl:∀ x ∈ p,x.links.length≤1048576):aq Tryz.prog 57 [.list false (p.map (aj.cells false)),.list false (q.map (aj.cells false))] (fun r=>r=bool (decide (p=q))):=by
 refine aq.of Tryz.func57 rfl Tryz.ntmps57 (by simp) fun Q hQ=>?_
 refine aa.au ae (by decide) fun k' hk'=>?_
 simp   -- R0
 apply hk'
 refine aa.seq ?_
 refine aa.au ae (by decide) fun k' hk'=>?_
 simp   -- R1
 apply hk'
 refine aa.ite rfl (fun hc1=>?_) (fun hc1=>?_)
 ·simp at hc1
  refine aa.au ae (by decide) fun k' hk'=>?_
  simp   -- R2
  apply hk'
  refine aa.ret Tryz.func57 (aK.one Tryz.results57) (hQ _ _ _ _ (.v _ _ _) ?_)
  have:p ≠ q:=by intro h;subst h;omega
  simp[this]
 ·simp at hc1
  have hlen:p.length=q.length:=by omega
  refine aa.skip ?_
  refine aa.seq ?_
  refine aa.au ae (by decide) fun k' hk'=>?_
  simp   -- R3
  apply hk'
  refine aa.block (aa.b6 p.length (fun k ρ H n=>ρ 0 = .list false (p.map (aj.cells false))∧ρ 1 = .list false (q.map (aj.cells false))∧ρ 5=int k∧p.take k=q.take k) ?_ ?_)
  ·simp
  ·rintro k ρ H n hk ⟨h0,h1,h5,heq⟩ IH
   refine aa.seq ?_
   refine aa.au ae (by decide) fun k' hk'=>?_
   simp [h0, h5]   -- R4
   apply hk'
   refine aa.ite rfl (fun hc2=>?_) (fun hc2=>?_)
   ·simp at hc2
    have hq2:k<q.length:=by omega
    refine aa.skip ?_
    refine aa.seq ?_
    refine aa.block ?_
    refine aa.eo ae aD bU (by decide) (by kernel_rfl) fun k' hk'=>?_
    simp [h0, h1, h5, hc2, hq2, aj.cells]   -- R6
    refine bn.aB ae aD (Bl p[k] q[k] (hl _ (List.getElem_mem hc2))) I9 (.cons (aF.AO false p[k]) (.cons (aF.AO false q[k]) .nil)) (by decide) rfl (by simp[aj.cells]) ?_
    simp
    apply hk'
    refine aa.ite rfl (fun hc3=>?_) (fun hc3=>?_)
    ·simp at hc3
     refine aa.au ae (by decide) fun k' hk'=>?_
     simp   -- R7
     apply hk'
     refine aa.ret Tryz.func57 (aK.one Tryz.results57) (hQ _ _ _ _ (.v _ _ _) ?_)
     have:p ≠ q:=by intro h;subst h;exact hc3 rfl
     simp[this]
    ·simp at hc3
     refine aa.skip ?_
     refine aa.inBlock ?_
     refine aa.cg ae (by decide) fun k' hk'=>?_
     simp [h5, aZ (show k < 4611686018427387904 by omega)]   -- R5
     apply hk'
     refine IH hc2 _ _ _ ?_
     refine⟨by simp[h0,aj.cells],by simp[h1,aj.cells],by simp,?_⟩
     rw[List.take_succ_eq_append_getElem hc2,List.take_succ_eq_append_getElem hq2,heq,hc3]
   ·simp at hc2
    refine aa.exit rfl ?_
    refine aa.au ae (by decide) fun k' hk'=>?_
    simp   -- R8
    apply hk'
    refine aa.ret Tryz.func57 (aK.one Tryz.results57) (hQ _ _ _ _ (.v _ _ _) ?_)
    rw[List.take_of_length_le hc2,List.take_of_length_le (by omega)] at heq
    simp[heq]
theorem e13:Ent Tryz.prog 13:=Ent.of Tryz.func13 (by kernel_rfl) rfl
theorem fa (x y:Big) (hb:x.nodes.length≤1048576∧(∀ z ∈ x.nodes,z.links.length≤1048576)∧x.sites.length≤1048576∧x.outer.length≤1048576∧x.inner.length≤1048576):aq Tryz.prog 13 [.agg (Big.cells false x),.agg (Big.cells false y)] (fun r=>r=bool (decide (x=y))):=by
 obtain⟨x0,x1,x2,x3,x4,x5⟩:=x
 obtain⟨y0,y1,y2,y3,y4,y5⟩:=y
 refine aq.of Tryz.func13 rfl Tryz.ntmps13 (by simp) fun Q hQ=>?_
 refine aa.au ae (by decide) fun k' hk'=>?_
 simp [Big.cells, bW, encI, encS, cb]   -- R0
 apply hk'
 refine aa.seq ?_
 refine aa.au ae (by decide) fun k' hk'=>?_
 simp
 apply hk'
 refine aa.ite rfl (fun hc=>?_) (fun hd0=>?_)
 ·simp at hc
  refine aa.au ae (by decide) fun k' hk'=>?_
  simp
  apply hk'
  exact aa.ret Tryz.func13 (aK.one Tryz.results13) (hQ _ _ _ _ (.v _ _ _) (by simp[hc]))
 simp at hd0
 refine aa.skip ?_
 refine aa.seq ?_
 refine aa.au ae (by decide) fun k' hk'=>?_
 simp
 refine aG.aB ae (yV x1 y1 hb.1 hb.2.1) e57 (.cons (aF.bW false x1) (.cons (aF.bW false y1) .nil)) (by decide) (by decide) rfl (by simp[bW,encI,encS,cb]) ?_
 rintro _ rfl
 simp
 apply hk'
 refine aa.ite rfl (fun hc=>?_) (fun hd1=>?_)
 ·simp at hc
  refine aa.au ae (by decide) fun k' hk'=>?_
  simp
  apply hk'
  exact aa.ret Tryz.func13 (aK.one Tryz.results13) (hQ _ _ _ _ (.v _ _ _) (by simp[hc]))
 simp at hd1
 refine aa.skip ?_
 refine aa.seq ?_
 refine aa.au ae (by decide) fun k' hk'=>?_
 simp
 refine aG.aB ae (mL x2 y2 hb.2.2.1) e58 (.cons (aF.encI false x2) (.cons (aF.encI false y2) .nil)) (by decide) (by decide) rfl (by simp[bW,encI,encS,cb]) ?_
 rintro _ rfl
 simp
 apply hk'
 refine aa.ite rfl (fun hc=>?_) (fun hd2=>?_)
 ·simp at hc
  refine aa.au ae (by decide) fun k' hk'=>?_
  simp
  apply hk'
  exact aa.ret Tryz.func13 (aK.one Tryz.results13) (hQ _ _ _ _ (.v _ _ _) (by simp[hc]))
 simp at hd2
 refine aa.skip ?_
 refine aa.seq ?_
 refine aa.au ae (by decide) fun k' hk'=>?_
 simp
 apply hk'
 refine aa.ite rfl (fun hc=>?_) (fun hd3=>?_)
 ·simp at hc
  refine aa.au ae (by decide) fun k' hk'=>?_
  simp
  apply hk'
  exact aa.ret Tryz.func13 (aK.one Tryz.results13) (hQ _ _ _ _ (.v _ _ _) (by simp[hc]))
 simp at hd3
 refine aa.skip ?_
 refine aa.seq ?_
 refine aa.au ae (by decide) fun k' hk'=>?_
 simp
 refine aG.aB ae (uQ x4 y4 hb.2.2.2.1) e59 (.cons (aF.encS false x4) (.cons (aF.encS false y4) .nil)) (by decide) (by decide) rfl (by simp[bW,encI,encS,cb]) ?_
 rintro _ rfl
 simp
 apply hk'
 refine aa.ite rfl (fun hc=>?_) (fun hd4=>?_)
 ·simp at hc
  refine aa.au ae (by decide) fun k' hk'=>?_
  simp
  apply hk'
  exact aa.ret Tryz.func13 (aK.one Tryz.results13) (hQ _ _ _ _ (.v _ _ _) (by simp[hc]))
 simp at hd4
 refine aa.skip ?_
 refine aa.seq ?_
 refine aa.au ae (by decide) fun k' hk'=>?_
 simp
 refine aG.aB ae (yv x5 y5 hb.2.2.2.2) e60 (.cons (aF.cb false x5) (.cons (aF.cb false y5) .nil)) (by decide) (by decide) rfl (by simp[bW,encI,encS,cb]) ?_
 rintro _ rfl
 simp
 apply hk'
 refine aa.ite rfl (fun hc=>?_) (fun hd5=>?_)
 ·simp at hc
  refine aa.au ae (by decide) fun k' hk'=>?_
  simp
  apply hk'
  exact aa.ret Tryz.func13 (aK.one Tryz.results13) (hQ _ _ _ _ (.v _ _ _) (by simp[hc]))
 simp at hd5
 refine aa.skip ?_
 refine aa.au ae (by decide) fun k' hk'=>?_
 simp
 apply hk'
 exact aa.ret Tryz.func13 (aK.one Tryz.results13) (hQ _ _ _ _ (.v _ _ _) (by simp[hd0,hd1,hd2,hd3,hd4,hd5]))
end Go.Ab
/- Contracts of the laws' to.. functions of bigraphs' slices. By program. -/
namespace Go.Ab
open Go.Proofs
set_option linter.unusedSimpArgs false
theorem e42:Ent Tryz.prog 42:=Ent.of Tryz.func42 (by kernel_rfl) rfl
theorem fE (p:List (Int)) (hp:p.length≤1048576):aq Tryz.prog 42 [.list false (p.map al)] (fun r=>r = .list true (p.map al)):=by
 refine aq.of Tryz.func42 rfl Tryz.ntmps42 (by simp) fun Q hQ=>?_
 refine aa.au ae (by decide) fun k' hk'=>?_
 simp   -- R0
 apply hk'
 refine aa.au ae (by decide) fun k' hk'=>?_
 simp [show (p.length : Int) ≤ 1073741824 by omega]   -- R1
 apply hk'
 refine aa.seq ?_
 refine aa.au ae (by decide) fun k' hk'=>?_
 simp   -- R2
 apply hk'
 refine aa.block (aa.b6 p.length (fun k ρ H n=>ρ 0 = .list false (p.map al)∧ρ 4=int k∧ρ 3 = .arr (0,7) p.length 0 p.length∧H (0,7)=some ⟨1,part al [int 0] p k⟩) ?_ ?_)
 ·simp[al,jU]
 ·rintro k ρ H n hk ⟨h0,h4,h3,hH⟩ IH
  refine aa.seq ?_
  refine aa.au ae (by decide) fun k' hk'=>?_
  simp [h0, h4]   -- R3
  apply hk'
  refine aa.ite rfl (fun hc1=>?_) (fun hc1=>?_)
  ·simp at hc1
   refine aa.skip ?_
   refine aa.seq ?_
   refine aa.block ?_
   refine aa.cg ae (by decide) fun k' hk'=>?_
   simp [h0, h3, h4, hH, hc1, fY hk, ft hc1, al]   -- R5
   apply hk'
   refine aa.inBlock ?_
   refine aa.cg ae (by decide) fun k' hk'=>?_
   simp [h4, aZ (show k < 4611686018427387904 by omega)]   -- R4
   apply hk'
   refine IH hc1 _ _ _ ?_
   rw[← lF hc1]
   simp[h0,h3,al,j6 hc1]
  ·simp at hc1
   have hke:k=p.length:=by omega
   subst hke
   rw[lz] at hH
   refine aa.exit rfl ?_
   refine aa.au ae (by decide) fun k' hk'=>?_
   simp [h3]   -- R6
   apply hk'
   exact aa.ret Tryz.func42 (aK.one Tryz.results42) (hQ _ _ _ _ (.of (Ret.zS (by simp[hH];rfl) (by simp[al,al]))) rfl)
theorem e43:Ent Tryz.prog 43:=Ent.of Tryz.func43 (by kernel_rfl) rfl
theorem kY (p:List (Str)) (hp:p.length≤1048576):aq Tryz.prog 43 [.list false (p.map aL)] (fun r=>r = .list true (p.map aL)):=by
 refine aq.of Tryz.func43 rfl Tryz.ntmps43 (by simp) fun Q hQ=>?_
 refine aa.au ae (by decide) fun k' hk'=>?_
 simp   -- R0
 apply hk'
 refine aa.au ae (by decide) fun k' hk'=>?_
 simp [show (p.length : Int) ≤ 1073741824 by omega]   -- R1
 apply hk'
 refine aa.seq ?_
 refine aa.au ae (by decide) fun k' hk'=>?_
 simp   -- R2
 apply hk'
 refine aa.block (aa.b6 p.length (fun k ρ H n=>ρ 0 = .list false (p.map aL)∧ρ 4=int k∧ρ 3 = .arr (0,7) p.length 0 p.length∧H (0,7)=some ⟨1,part aL [str []] p k⟩) ?_ ?_)
 ·simp[aL,jU]
 ·rintro k ρ H n hk ⟨h0,h4,h3,hH⟩ IH
  refine aa.seq ?_
  refine aa.au ae (by decide) fun k' hk'=>?_
  simp [h0, h4]   -- R3
  apply hk'
  refine aa.ite rfl (fun hc1=>?_) (fun hc1=>?_)
  ·simp at hc1
   refine aa.skip ?_
   refine aa.seq ?_
   refine aa.block ?_
   refine aa.cg ae (by decide) fun k' hk'=>?_
   simp [h0, h3, h4, hH, hc1, fY hk, ft hc1, aL]   -- R5
   apply hk'
   refine aa.inBlock ?_
   refine aa.cg ae (by decide) fun k' hk'=>?_
   simp [h4, aZ (show k < 4611686018427387904 by omega)]   -- R4
   apply hk'
   refine IH hc1 _ _ _ ?_
   rw[← lF hc1]
   simp[h0,h3,aL,j6 hc1]
  ·simp at hc1
   have hke:k=p.length:=by omega
   subst hke
   rw[lz] at hH
   refine aa.exit rfl ?_
   refine aa.au ae (by decide) fun k' hk'=>?_
   simp [h3]   -- R6
   apply hk'
   exact aa.ret Tryz.func43 (aK.one Tryz.results43) (hQ _ _ _ _ (.of (Ret.zS (by simp[hH];rfl) (by simp[aL,al]))) rfl)
end Go.Ab
/- Contracts of the laws' to.. functions of bigraphs. By program. -/
namespace Go.Ab
open Go.Proofs
set_option linter.unusedSimpArgs false
theorem F6:Ent Tryz.prog 106:=Ent.of Tryz.func106 (by kernel_rfl) rfl
theorem pf (x:aA):aq Tryz.prog 106 [.agg (aA.cells x)] (fun r=>r = .agg (aA.cells x)):=by
 refine aq.of Tryz.func106 rfl Tryz.ntmps106 (by simp) fun Q hQ=>?_
 refine aa.au ae (by decide) fun k' hk'=>?_
 simp [aA.cells, bW, encI, encS, cb]   -- R0
 apply hk'
 refine aa.au ae (by decide) fun k' hk'=>?_
 simp   -- R1
 apply hk'
 refine aa.au ae (by decide) fun k' hk'=>?_
 simp   -- R2
 apply hk'
 refine aa.au ae (by decide) fun k' hk'=>?_
 simp   -- R3
 apply hk'
 refine aa.au ae (by decide) fun k' hk'=>?_
 simp   -- R4
 apply hk'
 exact aa.ret Tryz.func106 (aK.cell (cs:=aA.cells x) (v:=.agg (aA.cells x)) ae Tryz.results106 FI (by simp[aA.cells,bW,encI,encS,cb]) (by simp[lL,aA.cells])) (hQ _ _ _ _ (.of (Ret.fresh (by simp[aA.cells,bW,encI,encS,cb,aj.cells,al,aL,aA.cells]))) rfl)
theorem e40:Ent Tryz.prog 40:=Ent.of Tryz.func40 (by kernel_rfl) rfl
theorem kJ (x:Control):aq Tryz.prog 40 [.agg (Control.cells x)] (fun r=>r = .agg (Control.cells x)):=by
 refine aq.of Tryz.func40 rfl Tryz.ntmps40 (by simp) fun Q hQ=>?_
 refine aa.au ae (by decide) fun k' hk'=>?_
 simp [Control.cells, bW, encI, encS, cb]   -- R0
 apply hk'
 refine aa.au ae (by decide) fun k' hk'=>?_
 simp   -- R1
 apply hk'
 refine aa.au ae (by decide) fun k' hk'=>?_
 simp   -- R2
 apply hk'
 refine aa.au ae (by decide) fun k' hk'=>?_
 simp   -- R3
 apply hk'
 refine aa.au ae (by decide) fun k' hk'=>?_
 simp   -- R4
 apply hk'
 refine aa.au ae (by decide) fun k' hk'=>?_
 simp   -- R5
 apply hk'
 exact aa.ret Tryz.func40 (aK.cell (cs:=Control.cells x) (v:=.agg (Control.cells x)) ae Tryz.results40 FC (by simp[Control.cells,bW,encI,encS,cb]) (by simp[lL,Control.cells])) (hQ _ _ _ _ (.of (Ret.fresh (by simp[Control.cells,bW,encI,encS,cb,aj.cells,al,aL,aA.cells]))) rfl)
theorem FQ:Ent Tryz.prog 105:=Ent.of Tryz.func105 (by kernel_rfl) rfl
theorem pI (x:aj) (hl:x.links.length≤1048576):aq Tryz.prog 105 [.agg (aj.cells false x)] (fun r=>r = .agg (aj.cells true x)):=by
 refine aq.of Tryz.func105 rfl Tryz.ntmps105 (by simp) fun Q hQ=>?_
 refine aa.au ae (by decide) fun k' hk'=>?_
 simp [aj.cells, bW, encI, encS, cb]   -- R0
 apply hk'
 refine aa.au ae (by decide) fun k' hk'=>?_
 simp   -- R1
 apply hk'
 refine aa.au ae (by decide) fun k' hk'=>?_
 simp   -- R2
 apply hk'
 refine aa.au ae (by decide) fun k' hk'=>?_
 simp   -- R3
 apply hk'
 refine aa.au ae (by decide) fun k' hk'=>?_
 simp   -- R4
 refine aG.aB ae (fE x.links hl) e42 (.cons (aF.encI false x.links) .nil) (by decide) (by decide) rfl (by simp[bW,encI,encS,cb]) ?_
 rintro _ rfl
 simp
 apply hk'
 refine aa.au ae (by decide) fun k' hk'=>?_
 simp   -- R5
 apply hk'
 exact aa.ret Tryz.func105 (aK.cell (cs:=aj.cells true x) (v:=.agg (aj.cells true x)) ae Tryz.results105 AM (by simp[aj.cells,bW,encI,encS,cb]) (by simp[lL,aj.cells])) (hQ _ _ _ _ (.of (Ret.fresh (by simp[aj.cells,bW,encI,encS,cb,aj.cells,al,aL,aA.cells]))) rfl)
theorem e44:Ent Tryz.prog 44:=Ent.of Tryz.func44 (by kernel_rfl) rfl
theorem nA (p:List (aA)) (hp:p.length≤1048576):aq Tryz.prog 44 [.list false (p.map aA.cells)] (fun r=>r = .list true (p.map aA.cells)):=by
 refine aq.of Tryz.func44 rfl Tryz.ntmps44 (by simp) fun Q hQ=>?_
 refine aa.au ae (by decide) fun k' hk'=>?_
 simp   -- R0
 apply hk'
 refine aa.au ae (by decide) fun k' hk'=>?_
 simp [show (p.length : Int) ≤ 1073741824 by omega]   -- R1
 apply hk'
 refine aa.seq ?_
 refine aa.au ae (by decide) fun k' hk'=>?_
 simp   -- R2
 apply hk'
 refine aa.block (aa.b6 p.length (fun k ρ H n=>ρ 0 = .list false (p.map aA.cells)∧ρ 4=int k∧ρ 3 = .arr (0,7) p.length 0 p.length∧H (0,7)=some ⟨2,part aA.cells [str [],int 0] p k⟩) ?_ ?_)
 ·simp[aA.cells,jU]
 ·rintro k ρ H n hk ⟨h0,h4,h3,hH⟩ IH
  refine aa.seq ?_
  refine aa.au ae (by decide) fun k' hk'=>?_
  simp [h0, h4]   -- R3
  apply hk'
  refine aa.ite rfl (fun hc1=>?_) (fun hc1=>?_)
  ·simp at hc1
   refine aa.skip ?_
   refine aa.seq ?_
   refine aa.block ?_
   refine aa.cg ae (by decide) fun k' hk'=>?_
   simp [h0, h3, h4, hH, hc1, fY hk, ft hc1, aA.cells]   -- R5
   refine aG.aB ae (pf p[k]) F6 (.cons (aF.AK _) .nil) (by decide) (by decide) rfl (by simp[aA.cells]) ?_
   rintro _ rfl
   simp[h3,h4,hH,hc1,fY hk,ft hc1,aA.cells]
   apply hk'
   refine aa.inBlock ?_
   refine aa.cg ae (by decide) fun k' hk'=>?_
   simp [h4, aZ (show k < 4611686018427387904 by omega)]   -- R4
   apply hk'
   refine IH hc1 _ _ _ ?_
   rw[← lF hc1]
   simp[h0,h3,aA.cells,j6 hc1]
  ·simp at hc1
   have hke:k=p.length:=by omega
   subst hke
   rw[lz] at hH
   refine aa.exit rfl ?_
   refine aa.au ae (by decide) fun k' hk'=>?_
   simp [h3]   -- R6
   apply hk'
   exact aa.ret Tryz.func44 (aK.one Tryz.results44) (hQ _ _ _ _ (.of (Ret.zS (by simp[hH];rfl) (by simp[aA.cells,al]))) rfl)
theorem e10:Ent Tryz.prog 10:=Ent.of Tryz.func10 (by kernel_rfl) rfl
theorem ew (p:List (Control)) (hp:p.length≤1048576):aq Tryz.prog 10 [.list false (p.map Control.cells)] (fun r=>r = .list true (p.map Control.cells)):=by
 refine aq.of Tryz.func10 rfl Tryz.ntmps10 (by simp) fun Q hQ=>?_
 refine aa.au ae (by decide) fun k' hk'=>?_
 simp   -- R0
 apply hk'
 refine aa.au ae (by decide) fun k' hk'=>?_
 simp [show (p.length : Int) ≤ 1073741824 by omega]   -- R1
 apply hk'
 refine aa.seq ?_
 refine aa.au ae (by decide) fun k' hk'=>?_
 simp   -- R2
 apply hk'
 refine aa.block (aa.b6 p.length (fun k ρ H n=>ρ 0 = .list false (p.map Control.cells)∧ρ 4=int k∧ρ 3 = .arr (0,7) p.length 0 p.length∧H (0,7)=some ⟨3,part Control.cells [str [],int 0,int 0] p k⟩) ?_ ?_)
 ·simp[Control.cells,jU]
 ·rintro k ρ H n hk ⟨h0,h4,h3,hH⟩ IH
  refine aa.seq ?_
  refine aa.au ae (by decide) fun k' hk'=>?_
  simp [h0, h4]   -- R3
  apply hk'
  refine aa.ite rfl (fun hc1=>?_) (fun hc1=>?_)
  ·simp at hc1
   refine aa.skip ?_
   refine aa.seq ?_
   refine aa.block ?_
   refine aa.cg ae (by decide) fun k' hk'=>?_
   simp [h0, h3, h4, hH, hc1, fY hk, ft hc1, Control.cells]   -- R5
   refine aG.aB ae (kJ p[k]) e40 (.cons (aF.E4 _) .nil) (by decide) (by decide) rfl (by simp[Control.cells]) ?_
   rintro _ rfl
   simp[h3,h4,hH,hc1,fY hk,ft hc1,Control.cells]
   apply hk'
   refine aa.inBlock ?_
   refine aa.cg ae (by decide) fun k' hk'=>?_
   simp [h4, aZ (show k < 4611686018427387904 by omega)]   -- R4
   apply hk'
   refine IH hc1 _ _ _ ?_
   rw[← lF hc1]
   simp[h0,h3,Control.cells,j6 hc1]
  ·simp at hc1
   have hke:k=p.length:=by omega
   subst hke
   rw[lz] at hH
   refine aa.exit rfl ?_
   refine aa.au ae (by decide) fun k' hk'=>?_
   simp [h3]   -- R6
   apply hk'
   exact aa.ret Tryz.func10 (aK.one Tryz.results10) (hQ _ _ _ _ (.of (Ret.zS (by simp[hH];rfl) (by simp[Control.cells,al]))) rfl)
theorem e41:Ent Tryz.prog 41:=Ent.of Tryz.func41 (by kernel_rfl) rfl
theorem nO (p:List (aj)) (hp:p.length≤1048576) (hl:∀ x ∈ p,x.links.length≤1048576):aq Tryz.prog 41 [.list false (p.map (aj.cells false))] (fun r=>r = .list true (p.map (aj.cells true))):=by
 refine aq.of Tryz.func41 rfl Tryz.ntmps41 (by simp) fun Q hQ=>?_
 refine aa.au ae (by decide) fun k' hk'=>?_
 simp   -- R0
 apply hk'
 refine aa.au ae (by decide) fun k' hk'=>?_
 simp [show (p.length : Int) ≤ 1073741824 by omega]   -- R1
 apply hk'
 refine aa.seq ?_
 refine aa.au ae (by decide) fun k' hk'=>?_
 simp   -- R2
 apply hk'
 refine aa.block (aa.b6 p.length (fun k ρ H n=>ρ 0 = .list false (p.map (aj.cells false))∧ρ 4=int k∧ρ 3 = .arr (0,7) p.length 0 p.length∧H (0,7)=some ⟨3,part (aj.cells true) [int 0,int 0,.v (.slice none 0 0)] p k⟩) ?_ ?_)
 ·simp[aj.cells,jU]
 ·rintro k ρ H n hk ⟨h0,h4,h3,hH⟩ IH
  refine aa.seq ?_
  refine aa.au ae (by decide) fun k' hk'=>?_
  simp [h0, h4]   -- R3
  apply hk'
  refine aa.ite rfl (fun hc1=>?_) (fun hc1=>?_)
  ·simp at hc1
   refine aa.skip ?_
   refine aa.seq ?_
   refine aa.block ?_
   refine aa.cg ae (by decide) fun k' hk'=>?_
   simp [h0, h3, h4, hH, hc1, fY hk, ft hc1, aj.cells]   -- R5
   refine aG.aB ae (pI p[k] (hl _ (List.getElem_mem hc1))) FQ (.cons (aF.AO false _) .nil) (by decide) (by decide) rfl (by simp[aj.cells]) ?_
   rintro _ rfl
   simp[h3,h4,hH,hc1,fY hk,ft hc1,aj.cells]
   apply hk'
   refine aa.inBlock ?_
   refine aa.cg ae (by decide) fun k' hk'=>?_
   simp [h4, aZ (show k < 4611686018427387904 by omega)]   -- R4
   apply hk'
   refine IH hc1 _ _ _ ?_
   rw[← lF hc1]
   simp[h0,h3,aj.cells,j6 hc1]
  ·simp at hc1
   have hke:k=p.length:=by omega
   subst hke
   rw[lz] at hH
   refine aa.exit rfl ?_
   refine aa.au ae (by decide) fun k' hk'=>?_
   simp [h3]   -- R6
   apply hk'
   exact aa.ret Tryz.func41 (aK.one Tryz.results41) (hQ _ _ _ _ (.of (Ret.zS (by simp[hH];rfl) (by simp[aj.cells,al]))) rfl)
theorem e11:Ent Tryz.prog 11:=Ent.of Tryz.func11 (by kernel_rfl) rfl
theorem cE (x:Big) (hb:x.nodes.length≤1048576∧(∀ z ∈ x.nodes,z.links.length≤1048576)∧x.sites.length≤1048576∧x.outer.length≤1048576∧x.inner.length≤1048576):aq Tryz.prog 11 [.agg (Big.cells false x)] (fun r=>r = .agg (Big.cells true x)):=by
 refine aq.of Tryz.func11 rfl Tryz.ntmps11 (by simp) fun Q hQ=>?_
 refine aa.au ae (by decide) fun k' hk'=>?_
 simp [Big.cells, bW, encI, encS, cb]   -- R0
 apply hk'
 refine aa.au ae (by decide) fun k' hk'=>?_
 simp   -- R1
 apply hk'
 refine aa.au ae (by decide) fun k' hk'=>?_
 simp   -- R2
 apply hk'
 refine aa.au ae (by decide) fun k' hk'=>?_
 simp   -- R3
 refine aG.aB ae (nO x.nodes hb.1 hb.2.1) e41 (.cons (aF.bW false x.nodes) .nil) (by decide) (by decide) rfl (by simp[bW,encI,encS,cb]) ?_
 rintro _ rfl
 simp
 apply hk'
 refine aa.au ae (by decide) fun k' hk'=>?_
 simp   -- R4
 refine aG.aB ae (fE x.sites hb.2.2.1) e42 (.cons (aF.encI false x.sites) .nil) (by decide) (by decide) rfl (by simp[bW,encI,encS,cb]) ?_
 rintro _ rfl
 simp
 apply hk'
 refine aa.au ae (by decide) fun k' hk'=>?_
 simp   -- R5
 apply hk'
 refine aa.au ae (by decide) fun k' hk'=>?_
 simp   -- R6
 refine aG.aB ae (kY x.outer hb.2.2.2.1) e43 (.cons (aF.encS false x.outer) .nil) (by decide) (by decide) rfl (by simp[bW,encI,encS,cb]) ?_
 rintro _ rfl
 simp
 apply hk'
 refine aa.au ae (by decide) fun k' hk'=>?_
 simp   -- R7
 refine aG.aB ae (nA x.inner hb.2.2.2.2) e44 (.cons (aF.cb false x.inner) .nil) (by decide) (by decide) rfl (by simp[bW,encI,encS,cb]) ?_
 rintro _ rfl
 simp
 apply hk'
 refine aa.au ae (by decide) fun k' hk'=>?_
 simp   -- R8
 apply hk'
 exact aa.ret Tryz.func11 (aK.cell (cs:=Big.cells true x) (v:=.agg (Big.cells true x)) ae Tryz.results11 pY (by simp[Big.cells,bW,encI,encS,cb]) (by simp[lL,Big.cells])) (hQ _ _ _ _ (.of (Ret.fresh (by simp[Big.cells,bW,encI,encS,cb,aj.cells,al,aL,aA.cells]))) rfl)
end Go.Ab
/- Contracts of spec.l12Kids, spec.l12Word and spec.l12Around. -/
namespace Go.Ab
open Go.Proofs
set_option linter.unusedSimpArgs false
end Go.Ab
/- Contracts of spec.l12In and spec.ProcessText. -/
namespace Go.Ab
open Go.Proofs
set_option linter.unusedSimpArgs false
end Go.Ab
/- Contracts of laws.szAmbNode, laws.szAmbNodeS and laws.szProcess. -/
namespace Go.Ab
open Go.Proofs
set_option linter.unusedSimpArgs false
def de (s:Str) (left:Int):Int:=if left - s.length<0 then -1 else left - s.length
def Small (p:IQ):Prop:=p.length≤9223372036854775807∧∀ x ∈ p,x.name.length≤9223372036854775807
end Go.Ab
/- Contracts of the laws' sz.. functions of bigraphs. By program. -/
namespace Go.Ab
open Go.Proofs
set_option linter.unusedSimpArgs false
def szL {α:Type} (f:α→Int→Int):List α→Int→Int
 | [],left=>left
 | x::r,left=>if f x left<0 then -1 else szL f r (f x left)
def szS {α:Type} (f:α→Int→Int) (l:List α) (left:Int):Int:=if left - l.length<0 then -1 else szL f l (left - l.length)
def szI (l:List Int) (left:Int):Int:=if left - l.length<0 then -1 else left - l.length
def szC (x:Control) (left:Int):Int:=de x.name left
def szW (x:aA) (left:Int):Int:=de x.name left
def szN (x:aj) (left:Int):Int:=szI x.links left
class SzF {α:Type} (f:α→Int→Int):Prop where
 le:∀ x left,0≤left→f x left≤left
theorem sX {α:Type} (f:α→Int→Int) [SzF f] (x:α) (left:Int) (h:0≤left):f x left≤left:=SzF.le x left h
instance:SzF de:=⟨fun x left h=>by unfold de;split<;>omega⟩
instance:SzF szI:=⟨fun x left h=>by unfold szI;split<;>omega⟩
instance:SzF szC:=⟨fun x left h=>by unfold szC de;split<;>omega⟩
instance:SzF szW:=⟨fun x left h=>by unfold szW de;split<;>omega⟩
instance:SzF szN:=⟨fun x left h=>by unfold szN szI;split<;>omega⟩
theorem e31:Ent Tryz.prog 31:=Ent.of Tryz.func31 (by kernel_rfl) rfl
theorem uC (x:Control) (left:Int) (h0:0≤left) (h1:left≤1048576) (hn:x.name.length≤9223372036854775807):aq Tryz.prog 31 [.agg x.cells,int left] (fun r=>r=int (szC x left)):=by
 refine aq.of Tryz.func31 rfl Tryz.ntmps31 (by simp) fun Q hQ=>?_
 refine aa.au ae (by decide) fun k' hk'=>?_
 simp [Control.cells]   -- R0
 apply hk'
 refine aa.au ae (by decide) fun k' hk'=>?_
 simp[show -9223372036854775808≤left - (x.name.length:Int) by omega,show left - (x.name.length:Int)≤9223372036854775807 by omega]
 apply hk'
 refine aa.seq ?_
 refine aa.au ae (by decide) fun k' hk'=>?_
 simp   -- R2
 apply hk'
 refine aa.ite rfl (fun hc1=>?_) (fun hc1=>?_)
 ·simp only[decide_eq_true_eq] at hc1
  refine aa.au ae (by decide) fun k' hk'=>?_
  simp   -- R3
  apply hk'
  refine aa.ret Tryz.func31 (aK.one Tryz.results31) (hQ _ _ _ _ (.v _ _ _) ?_)
  rw[szC,de,if_pos hc1]
 ·simp only[decide_eq_false_iff_not] at hc1
  refine aa.skip ?_
  refine aa.au ae (by decide) fun k' hk'=>?_
  simp   -- R4
  apply hk'
  refine aa.ret Tryz.func31 (aK.one Tryz.results31) (hQ _ _ _ _ (.v _ _ _) ?_)
  rw[szC,de,if_neg hc1]
theorem e92:Ent Tryz.prog 92:=Ent.of Tryz.func92 (by kernel_rfl) rfl
theorem C1 (x:aA) (left:Int) (h0:0≤left) (h1:left≤1048576) (hn:x.name.length≤9223372036854775807):aq Tryz.prog 92 [.agg x.cells,int left] (fun r=>r=int (szW x left)):=by
 refine aq.of Tryz.func92 rfl Tryz.ntmps92 (by simp) fun Q hQ=>?_
 refine aa.au ae (by decide) fun k' hk'=>?_
 simp [aA.cells]   -- R0
 apply hk'
 refine aa.au ae (by decide) fun k' hk'=>?_
 simp[show -9223372036854775808≤left - (x.name.length:Int) by omega,show left - (x.name.length:Int)≤9223372036854775807 by omega]
 apply hk'
 refine aa.seq ?_
 refine aa.au ae (by decide) fun k' hk'=>?_
 simp   -- R2
 apply hk'
 refine aa.ite rfl (fun hc1=>?_) (fun hc1=>?_)
 ·simp only[decide_eq_true_eq] at hc1
  refine aa.au ae (by decide) fun k' hk'=>?_
  simp   -- R3
  apply hk'
  refine aa.ret Tryz.func92 (aK.one Tryz.results92) (hQ _ _ _ _ (.v _ _ _) ?_)
  rw[szW,de,if_pos hc1]
 ·simp only[decide_eq_false_iff_not] at hc1
  refine aa.skip ?_
  refine aa.au ae (by decide) fun k' hk'=>?_
  simp   -- R4
  apply hk'
  refine aa.ret Tryz.func92 (aK.one Tryz.results92) (hQ _ _ _ _ (.v _ _ _) ?_)
  rw[szW,de,if_neg hc1]
theorem e33:Ent Tryz.prog 33:=Ent.of Tryz.func33 (by kernel_rfl) rfl
theorem mz (x:List Int) (left:Int) (h0:0≤left) (h1:left≤1048576) (hn:x.length≤9223372036854775807):aq Tryz.prog 33 [encI false x,int left] (fun r=>r=int (szI x left)):=by
 refine aq.of Tryz.func33 rfl Tryz.ntmps33 (by simp) fun Q hQ=>?_
 refine aa.au ae (by decide) fun k' hk'=>?_
 simp [encI]   -- R0
 apply hk'
 refine aa.au ae (by decide) fun k' hk'=>?_
 simp[show -9223372036854775808≤left - (x.length:Int) by omega,show left - (x.length:Int)≤9223372036854775807 by omega]
 apply hk'
 refine aa.seq ?_
 refine aa.au ae (by decide) fun k' hk'=>?_
 simp   -- R2
 apply hk'
 refine aa.ite rfl (fun hc1=>?_) (fun hc1=>?_)
 ·simp only[decide_eq_true_eq] at hc1
  refine aa.au ae (by decide) fun k' hk'=>?_
  simp   -- R3
  apply hk'
  refine aa.ret Tryz.func33 (aK.one Tryz.results33) (hQ _ _ _ _ (.v _ _ _) ?_)
  rw[szI,if_pos hc1]
 ·simp only[decide_eq_false_iff_not] at hc1
  refine aa.skip ?_
  refine aa.au ae (by decide) fun k' hk'=>?_
  simp   -- R4
  apply hk'
  refine aa.ret Tryz.func33 (aK.one Tryz.results33) (hQ _ _ _ _ (.v _ _ _) ?_)
  rw[szI,if_neg hc1]
theorem e91:Ent Tryz.prog 91:=Ent.of Tryz.func91 (by kernel_rfl) rfl
theorem Ci (x:aj) (left:Int) (h0:0≤left) (h1:left≤1048576) (hn:x.links.length≤9223372036854775807):aq Tryz.prog 91 [.agg (x.cells false),int left] (fun r=>r=int (szN x left)):=by
 refine aq.of Tryz.func91 rfl Tryz.ntmps91 (by simp) fun Q hQ=>?_
 refine aa.au ae (by decide) fun k' hk'=>?_
 simp [aj.cells]   -- R0
 apply hk'
 refine aa.au ae (by decide) fun k' hk'=>?_
 simp
 refine aG.aB ae (mz x.links left h0 h1 hn) e33 (.cons (aF.encI false x.links) (.cons (.v _ _ _) .nil)) (by decide) (by decide) rfl (by simp[encI]) ?_
 rintro _ rfl
 simp
 apply hk'
 refine aa.seq ?_
 refine aa.au ae (by decide) fun k' hk'=>?_
 simp   -- R2
 apply hk'
 refine aa.ite rfl (fun hc1=>?_) (fun hc1=>?_)
 ·simp only[decide_eq_true_eq] at hc1
  refine aa.au ae (by decide) fun k' hk'=>?_
  simp   -- R3
  apply hk'
  refine aa.ret Tryz.func91 (aK.one Tryz.results91) (hQ _ _ _ _ (.v _ _ _) ?_)
  simp only[Env.put]
  have:szI x.links left = -1:=by
   unfold szI at hc1 ⊢
   split<;>rename_i h
   ·rfl
   ·rw[if_neg h] at hc1;omega
  simp[szN,this]
 ·simp only[decide_eq_false_iff_not] at hc1
  refine aa.skip ?_
  refine aa.au ae (by decide) fun k' hk'=>?_
  simp   -- R4
  apply hk'
  refine aa.ret Tryz.func91 (aK.one Tryz.results91) (hQ _ _ _ _ (.v _ _ _) ?_)
  rfl
theorem e7:Ent Tryz.prog 7:=Ent.of Tryz.func7 (by kernel_rfl) rfl
theorem tz (p:List (Control)) (left:Int) (h0:0≤left) (h1:left≤1048576) (hp1:p.length≤9223372036854775807) (hp2:∀ x ∈ p,x.name.length≤9223372036854775807):aq Tryz.prog 7 [.list false (p.map Control.cells),int left] (fun r=>r=int (szS szC p left)):=by
 refine aq.of Tryz.func7 rfl Tryz.ntmps7 (by simp) fun Q hQ=>?_
 refine aa.au ae (by decide) fun k' hk'=>?_
 simp   -- R0
 apply hk'
 refine aa.au ae (by decide) fun k' hk'=>?_
 simp [show -9223372036854775808 ≤ left - p.length by omega, show left - p.length ≤ 9223372036854775807 by omega]   -- R1
 apply hk'
 refine aa.seq ?_
 refine aa.au ae (by decide) fun k' hk'=>?_
 simp   -- R2
 apply hk'
 refine aa.ite rfl (fun hc1=>?_) (fun hc1=>?_)
 ·simp only[decide_eq_true_eq] at hc1
  refine aa.au ae (by decide) fun k' hk'=>?_
  simp   -- R3
  apply hk'
  refine aa.ret Tryz.func7 (aK.one Tryz.results7) (hQ _ _ _ _ (.v _ _ _) ?_)
  rw[szS,if_pos hc1]
 ·simp only[decide_eq_false_iff_not] at hc1
  refine aa.skip ?_
  refine aa.seq ?_
  refine aa.au ae (by decide) fun k' hk'=>?_
  simp   -- R4
  apply hk'
  refine aa.block (aa.b6 p.length (fun k ρ H n=>ρ 0 = .list false (p.map Control.cells)∧ρ 5=int k∧∃ cur:Int,ρ 1=int cur∧0≤cur∧cur≤left∧szL szC (p.drop k) cur=szS szC p left) ?_ ?_)
  ·refine⟨by simp,by simp,left - p.length,by simp,by omega,by omega,?_⟩
   rw[szS,if_neg hc1,List.drop_zero]
  ·rintro k ρ H n hk ⟨h0,h5,cur,h1',hcur,hcl,hsz⟩ IH
   refine aa.seq ?_
   refine aa.au ae (by decide) fun k' hk'=>?_
   simp [h0, h5]   -- R5
   apply hk'
   refine aa.ite rfl (fun hc2=>?_) (fun hc2=>?_)
   ·simp at hc2
    have hel:=hp2 _ (List.getElem_mem hc2)
    refine aa.skip ?_
    refine aa.seq ?_
    refine aa.block ?_
    refine aa.au ae (by decide) fun k' hk'=>?_
    simp [h0, h5, h1', hc2, Control.cells]   -- R7
    refine aG.aB ae (uC p[k] cur hcur (by omega) hel) e31 (.cons (aF.E4 _) (.cons (.v _ _ _) .nil)) (by decide) (by decide) rfl (by simp[Control.cells,h1']) ?_
    rintro _ rfl
    simp
    apply hk'
    rw[List.drop_eq_getElem_cons hc2,szL] at hsz
    refine aa.au ae (by decide) fun k' hk'=>?_
    simp   -- R8
    apply hk'
    refine aa.ite rfl (fun hc3=>?_) (fun hc3=>?_)
    ·simp only[decide_eq_true_eq] at hc3
     refine aa.au ae (by decide) fun k' hk'=>?_
     simp   -- R9
     apply hk'
     refine aa.ret Tryz.func7 (aK.one Tryz.results7) (hQ _ _ _ _ (.v _ _ _) ?_)
     rw[← hsz]
     rw[if_pos hc3]
    ·simp only[decide_eq_false_iff_not] at hc3
     refine aa.skip ?_
     refine aa.inBlock ?_
     refine aa.cg ae (by decide) fun k' hk'=>?_
     simp [h5, aZ (show k < 4611686018427387904 by omega)]   -- R6
     apply hk'
     refine IH hc2 _ _ _ ?_
     have hle:=sX szC p[k] cur hcur
     rw[if_neg hc3] at hsz
     exact⟨by simp[h0,Control.cells],by simp,szC p[k] cur,by simp,by omega,by omega,hsz⟩
   ·simp at hc2
    have hke:k=p.length:=by omega
    subst hke
    rw[List.drop_length,szL] at hsz
    refine aa.exit rfl ?_
    refine aa.au ae (by decide) fun k' hk'=>?_
    simp [h1']   -- R10
    apply hk'
    exact aa.ret Tryz.func7 (aK.one Tryz.results7) (hQ _ _ _ _ (.v _ _ _) (by rw[hsz]))
theorem e35:Ent Tryz.prog 35:=Ent.of Tryz.func35 (by kernel_rfl) rfl
theorem yJ (p:List (aA)) (left:Int) (h0:0≤left) (h1:left≤1048576) (hp1:p.length≤9223372036854775807) (hp2:∀ x ∈ p,x.name.length≤9223372036854775807):aq Tryz.prog 35 [.list false (p.map aA.cells),int left] (fun r=>r=int (szS szW p left)):=by
 refine aq.of Tryz.func35 rfl Tryz.ntmps35 (by simp) fun Q hQ=>?_
 refine aa.au ae (by decide) fun k' hk'=>?_
 simp   -- R0
 apply hk'
 refine aa.au ae (by decide) fun k' hk'=>?_
 simp [show -9223372036854775808 ≤ left - p.length by omega, show left - p.length ≤ 9223372036854775807 by omega]   -- R1
 apply hk'
 refine aa.seq ?_
 refine aa.au ae (by decide) fun k' hk'=>?_
 simp   -- R2
 apply hk'
 refine aa.ite rfl (fun hc1=>?_) (fun hc1=>?_)
 ·simp only[decide_eq_true_eq] at hc1
  refine aa.au ae (by decide) fun k' hk'=>?_
  simp   -- R3
  apply hk'
  refine aa.ret Tryz.func35 (aK.one Tryz.results35) (hQ _ _ _ _ (.v _ _ _) ?_)
  rw[szS,if_pos hc1]
 ·simp only[decide_eq_false_iff_not] at hc1
  refine aa.skip ?_
  refine aa.seq ?_
  refine aa.au ae (by decide) fun k' hk'=>?_
  simp   -- R4
  apply hk'
  refine aa.block (aa.b6 p.length (fun k ρ H n=>ρ 0 = .list false (p.map aA.cells)∧ρ 5=int k∧∃ cur:Int,ρ 1=int cur∧0≤cur∧cur≤left∧szL szW (p.drop k) cur=szS szW p left) ?_ ?_)
  ·refine⟨by simp,by simp,left - p.length,by simp,by omega,by omega,?_⟩
   rw[szS,if_neg hc1,List.drop_zero]
  ·rintro k ρ H n hk ⟨h0,h5,cur,h1',hcur,hcl,hsz⟩ IH
   refine aa.seq ?_
   refine aa.au ae (by decide) fun k' hk'=>?_
   simp [h0, h5]   -- R5
   apply hk'
   refine aa.ite rfl (fun hc2=>?_) (fun hc2=>?_)
   ·simp at hc2
    have hel:=hp2 _ (List.getElem_mem hc2)
    refine aa.skip ?_
    refine aa.seq ?_
    refine aa.block ?_
    refine aa.au ae (by decide) fun k' hk'=>?_
    simp [h0, h5, h1', hc2, aA.cells]   -- R7
    refine aG.aB ae (C1 p[k] cur hcur (by omega) hel) e92 (.cons (aF.AK _) (.cons (.v _ _ _) .nil)) (by decide) (by decide) rfl (by simp[aA.cells,h1']) ?_
    rintro _ rfl
    simp
    apply hk'
    rw[List.drop_eq_getElem_cons hc2,szL] at hsz
    refine aa.au ae (by decide) fun k' hk'=>?_
    simp   -- R8
    apply hk'
    refine aa.ite rfl (fun hc3=>?_) (fun hc3=>?_)
    ·simp only[decide_eq_true_eq] at hc3
     refine aa.au ae (by decide) fun k' hk'=>?_
     simp   -- R9
     apply hk'
     refine aa.ret Tryz.func35 (aK.one Tryz.results35) (hQ _ _ _ _ (.v _ _ _) ?_)
     rw[← hsz]
     rw[if_pos hc3]
    ·simp only[decide_eq_false_iff_not] at hc3
     refine aa.skip ?_
     refine aa.inBlock ?_
     refine aa.cg ae (by decide) fun k' hk'=>?_
     simp [h5, aZ (show k < 4611686018427387904 by omega)]   -- R6
     apply hk'
     refine IH hc2 _ _ _ ?_
     have hle:=sX szW p[k] cur hcur
     rw[if_neg hc3] at hsz
     exact⟨by simp[h0,aA.cells],by simp,szW p[k] cur,by simp,by omega,by omega,hsz⟩
   ·simp at hc2
    have hke:k=p.length:=by omega
    subst hke
    rw[List.drop_length,szL] at hsz
    refine aa.exit rfl ?_
    refine aa.au ae (by decide) fun k' hk'=>?_
    simp [h1']   -- R10
    apply hk'
    exact aa.ret Tryz.func35 (aK.one Tryz.results35) (hQ _ _ _ _ (.v _ _ _) (by rw[hsz]))
theorem e32:Ent Tryz.prog 32:=Ent.of Tryz.func32 (by kernel_rfl) rfl
theorem yU (p:List (aj)) (left:Int) (h0:0≤left) (h1:left≤1048576) (hp1:p.length≤9223372036854775807) (hp2:∀ x ∈ p,x.links.length≤9223372036854775807):aq Tryz.prog 32 [.list false (p.map (aj.cells false)),int left] (fun r=>r=int (szS szN p left)):=by
 refine aq.of Tryz.func32 rfl Tryz.ntmps32 (by simp) fun Q hQ=>?_
 refine aa.au ae (by decide) fun k' hk'=>?_
 simp   -- R0
 apply hk'
 refine aa.au ae (by decide) fun k' hk'=>?_
 simp [show -9223372036854775808 ≤ left - p.length by omega, show left - p.length ≤ 9223372036854775807 by omega]   -- R1
 apply hk'
 refine aa.seq ?_
 refine aa.au ae (by decide) fun k' hk'=>?_
 simp   -- R2
 apply hk'
 refine aa.ite rfl (fun hc1=>?_) (fun hc1=>?_)
 ·simp only[decide_eq_true_eq] at hc1
  refine aa.au ae (by decide) fun k' hk'=>?_
  simp   -- R3
  apply hk'
  refine aa.ret Tryz.func32 (aK.one Tryz.results32) (hQ _ _ _ _ (.v _ _ _) ?_)
  rw[szS,if_pos hc1]
 ·simp only[decide_eq_false_iff_not] at hc1
  refine aa.skip ?_
  refine aa.seq ?_
  refine aa.au ae (by decide) fun k' hk'=>?_
  simp   -- R4
  apply hk'
  refine aa.block (aa.b6 p.length (fun k ρ H n=>ρ 0 = .list false (p.map (aj.cells false))∧ρ 5=int k∧∃ cur:Int,ρ 1=int cur∧0≤cur∧cur≤left∧szL szN (p.drop k) cur=szS szN p left) ?_ ?_)
  ·refine⟨by simp,by simp,left - p.length,by simp,by omega,by omega,?_⟩
   rw[szS,if_neg hc1,List.drop_zero]
  ·rintro k ρ H n hk ⟨h0,h5,cur,h1',hcur,hcl,hsz⟩ IH
   refine aa.seq ?_
   refine aa.au ae (by decide) fun k' hk'=>?_
   simp [h0, h5]   -- R5
   apply hk'
   refine aa.ite rfl (fun hc2=>?_) (fun hc2=>?_)
   ·simp at hc2
    have hel:=hp2 _ (List.getElem_mem hc2)
    refine aa.skip ?_
    refine aa.seq ?_
    refine aa.block ?_
    refine aa.au ae (by decide) fun k' hk'=>?_
    simp [h0, h5, h1', hc2, aj.cells]   -- R7
    refine aG.aB ae (Ci p[k] cur hcur (by omega) hel) e91 (.cons (aF.AO false _) (.cons (.v _ _ _) .nil)) (by decide) (by decide) rfl (by simp[aj.cells,h1']) ?_
    rintro _ rfl
    simp
    apply hk'
    rw[List.drop_eq_getElem_cons hc2,szL] at hsz
    refine aa.au ae (by decide) fun k' hk'=>?_
    simp   -- R8
    apply hk'
    refine aa.ite rfl (fun hc3=>?_) (fun hc3=>?_)
    ·simp only[decide_eq_true_eq] at hc3
     refine aa.au ae (by decide) fun k' hk'=>?_
     simp   -- R9
     apply hk'
     refine aa.ret Tryz.func32 (aK.one Tryz.results32) (hQ _ _ _ _ (.v _ _ _) ?_)
     rw[← hsz]
     rw[if_pos hc3]
    ·simp only[decide_eq_false_iff_not] at hc3
     refine aa.skip ?_
     refine aa.inBlock ?_
     refine aa.cg ae (by decide) fun k' hk'=>?_
     simp [h5, aZ (show k < 4611686018427387904 by omega)]   -- R6
     apply hk'
     refine IH hc2 _ _ _ ?_
     have hle:=sX szN p[k] cur hcur
     rw[if_neg hc3] at hsz
     exact⟨by simp[h0,aj.cells],by simp,szN p[k] cur,by simp,by omega,by omega,hsz⟩
   ·simp at hc2
    have hke:k=p.length:=by omega
    subst hke
    rw[List.drop_length,szL] at hsz
    refine aa.exit rfl ?_
    refine aa.au ae (by decide) fun k' hk'=>?_
    simp [h1']   -- R10
    apply hk'
    exact aa.ret Tryz.func32 (aK.one Tryz.results32) (hQ _ _ _ _ (.v _ _ _) (by rw[hsz]))
theorem e34:Ent Tryz.prog 34:=Ent.of Tryz.func34 (by kernel_rfl) rfl
theorem vm (p:List (Str)) (left:Int) (h0:0≤left) (h1:left≤1048576) (hp1:p.length≤9223372036854775807) (hp2:∀ x ∈ p,x.length≤9223372036854775807):aq Tryz.prog 34 [.list false (p.map aL),int left] (fun r=>r=int (szS de p left)):=by
 refine aq.of Tryz.func34 rfl Tryz.ntmps34 (by simp) fun Q hQ=>?_
 refine aa.au ae (by decide) fun k' hk'=>?_
 simp   -- R0
 apply hk'
 refine aa.au ae (by decide) fun k' hk'=>?_
 simp [show -9223372036854775808 ≤ left - p.length by omega, show left - p.length ≤ 9223372036854775807 by omega]   -- R1
 apply hk'
 refine aa.seq ?_
 refine aa.au ae (by decide) fun k' hk'=>?_
 simp   -- R2
 apply hk'
 refine aa.ite rfl (fun hc1=>?_) (fun hc1=>?_)
 ·simp only[decide_eq_true_eq] at hc1
  refine aa.au ae (by decide) fun k' hk'=>?_
  simp   -- R3
  apply hk'
  refine aa.ret Tryz.func34 (aK.one Tryz.results34) (hQ _ _ _ _ (.v _ _ _) ?_)
  rw[szS,if_pos hc1]
 ·simp only[decide_eq_false_iff_not] at hc1
  refine aa.skip ?_
  refine aa.seq ?_
  refine aa.au ae (by decide) fun k' hk'=>?_
  simp   -- R4
  apply hk'
  refine aa.block (aa.b6 p.length (fun k ρ H n=>ρ 0 = .list false (p.map aL)∧ρ 5=int k∧∃ cur:Int,ρ 1=int cur∧0≤cur∧cur≤left∧szL de (p.drop k) cur=szS de p left) ?_ ?_)
  ·refine⟨by simp,by simp,left - p.length,by simp,by omega,by omega,?_⟩
   rw[szS,if_neg hc1,List.drop_zero]
  ·rintro k ρ H n hk ⟨h0,h5,cur,h1',hcur,hcl,hsz⟩ IH
   refine aa.seq ?_
   refine aa.au ae (by decide) fun k' hk'=>?_
   simp [h0, h5]   -- R5
   apply hk'
   refine aa.ite rfl (fun hc2=>?_) (fun hc2=>?_)
   ·simp at hc2
    have hel:=hp2 _ (List.getElem_mem hc2)
    refine aa.skip ?_
    refine aa.seq ?_
    refine aa.block ?_
    refine aa.au ae (by decide) fun k' hk'=>?_
    simp [h0, h5, h1', hc2, aL, show -9223372036854775808 ≤ cur - (p[k].length : Int) by omega, show cur - (p[k].length : Int) ≤ 9223372036854775807 by omega]   -- R7
    apply hk'
    rw[List.drop_eq_getElem_cons hc2,szL] at hsz
    refine aa.au ae (by decide) fun k' hk'=>?_
    simp   -- R8
    apply hk'
    refine aa.ite rfl (fun hc3=>?_) (fun hc3=>?_)
    ·simp only[decide_eq_true_eq] at hc3
     refine aa.au ae (by decide) fun k' hk'=>?_
     simp   -- R9
     apply hk'
     refine aa.ret Tryz.func34 (aK.one Tryz.results34) (hQ _ _ _ _ (.v _ _ _) ?_)
     rw[← hsz]
     rw[if_pos (by unfold de;rw[if_pos hc3];omega)]
    ·simp only[decide_eq_false_iff_not] at hc3
     refine aa.skip ?_
     refine aa.inBlock ?_
     refine aa.cg ae (by decide) fun k' hk'=>?_
     simp [h5, aZ (show k < 4611686018427387904 by omega)]   -- R6
     apply hk'
     refine IH hc2 _ _ _ ?_
     have hse:de p[k] cur=cur - p[k].length:=by unfold de;rw[if_neg hc3]
     rw[if_neg (by rw[hse];exact hc3),hse] at hsz
     exact⟨by simp[h0,aL],by simp,cur - p[k].length,by simp,by omega,by omega,hsz⟩
   ·simp at hc2
    have hke:k=p.length:=by omega
    subst hke
    rw[List.drop_length,szL] at hsz
    refine aa.exit rfl ?_
    refine aa.au ae (by decide) fun k' hk'=>?_
    simp [h1']   -- R10
    apply hk'
    exact aa.ret Tryz.func34 (aK.one Tryz.results34) (hQ _ _ _ _ (.v _ _ _) (by rw[hsz]))
end Go.Ab
/- Contract of laws.szBigraph; what the sizes bound. -/
namespace Go.Ab
open Go.Proofs
set_option linter.unusedSimpArgs false
theorem e8:Ent Tryz.prog 8:=Ent.of Tryz.func8 (by kernel_rfl) rfl
def szB (b:Big) (left:Int):Int:=
 if szS szN b.nodes left<0 then -1 else if szI b.sites (szS szN b.nodes left)<0 then -1 else
 if szS de b.outer (szI b.sites (szS szN b.nodes left))<0 then -1 else
 if szS szW b.inner (szS de b.outer (szI b.sites (szS szN b.nodes left)))<0 then -1 else szS szW b.inner (szS de b.outer (szI b.sites (szS szN b.nodes left)))
structure jP (b:Big):Prop where
 nodes:b.nodes.length≤9223372036854775807
 links:∀ x ∈ b.nodes,x.links.length≤9223372036854775807
 sites:b.sites.length≤9223372036854775807
 outer:b.outer.length≤9223372036854775807
 names:∀ x ∈ b.outer,x.length≤9223372036854775807
 inner:b.inner.length≤9223372036854775807
 wnames:∀ x ∈ b.inner,x.name.length≤9223372036854775807
 parents:∀ x ∈ b.nodes,I64 x.parent
 sites64:∀ p ∈ b.sites,I64 p
theorem EK {α:Type} (f:α→Int→Int) [SzF f]:∀ (l:List α) (left:Int),0≤left→szL f l left≤left
 | [],_,_=>Int.le_refl _
 | x::r,left,h=>by
  rw[szL]
  have:=sX f x left h
  split
  ·omega
  ·have:=EK f r (f x left) (by omega)
   omega
theorem jy {α:Type} (f:α→Int→Int) [SzF f] (l:List α) (left:Int) (h:0≤left):szS f l left≤left:=by
 unfold szS
 split
 ·omega
 ·have:=EK f l (left - l.length) (by omega)
  omega
theorem AY {α:Type} (f:α→Int→Int) [SzF f]:∀ (l:List α) (left:Int),0≤left→0≤szL f l left→∀ x ∈ l,∃ c,0≤c∧c≤left∧0≤f x c
 | [],_,_,_,x,hx=>by cases hx
 | y::r,left,h,h2,x,hx=>by
  rw[szL] at h2
  have hle:=sX f y left h
  split at h2
  ·omega
  ·rcases List.mem_cons.1 hx with rfl | hx
   ·exact⟨left,h,Int.le_refl _,by omega⟩
   ·obtain⟨c,h3,h4,h5⟩:=AY f r (f y left) (by omega) h2 x hx
    exact⟨c,h3,by omega,h5⟩
theorem qI {α:Type} (f:α→Int→Int) [SzF f] (l:List α) (left:Int) (h:0≤left) (h2:0≤szS f l left):(l.length:Int)≤left∧∀ x ∈ l,∃ c,0≤c∧c≤left∧0≤f x c:=by
 unfold szS at h2
 split at h2
 ·omega
 ·refine⟨by omega,fun x hx=>?_⟩
  obtain⟨c,h3,h4,h5⟩:=AY f l _ (by omega) h2 x hx
  exact⟨c,h3,by omega,h5⟩
theorem pH {s:Str} {c:Int} (h:0≤de s c):(s.length:Int)≤c:=by
 unfold de at h
 split at h<;>omega
theorem qJ {s:List Int} {c:Int} (h:0≤szI s c):(s.length:Int)≤c:=by
 unfold szI at h
 split at h<;>omega
theorem oK (b:Big) (left:Int) (h0:0≤left) (h1:left≤1048576) (hb:jP b):aq Tryz.prog 8 [cv false b,int left] (fun r=>r=int (szB b left)):=by
 have le1:=jy szN b.nodes left h0
 refine aq.of Tryz.func8 rfl Tryz.ntmps8 (by simp) fun Q hQ=>?_
 refine aa.au ae (by decide) fun k' hk'=>?_
 simp [cv, Big.cells, bW, encI, encS, cb]   -- R0
 apply hk'
 refine aa.au ae (by decide) fun k' hk'=>?_
 simp
 refine aG.aB ae (yU b.nodes left h0 h1 hb.nodes hb.links) e32 (.cons (aF.bW false b.nodes) (.cons (.v _ _ _) .nil)) (by decide) (by decide) rfl (by simp[bW,encI,encS,cb]) ?_
 rintro _ rfl
 simp
 apply hk'
 refine aa.seq ?_
 refine aa.au ae (by decide) fun k' hk'=>?_
 simp
 apply hk'
 refine aa.ite rfl (fun hc=>?_) (fun hd0=>?_)
 ·simp only[decide_eq_true_eq] at hc
  refine aa.au ae (by decide) fun k' hk'=>?_
  simp
  apply hk'
  exact aa.ret Tryz.func8 (aK.one Tryz.results8) (hQ _ _ _ _ (.v _ _ _) (by rw[szB,if_pos hc]))
 simp only[decide_eq_false_iff_not] at hd0
 have le2:=sX szI b.sites (szS szN b.nodes left) (by omega)
 refine aa.skip ?_
 refine aa.au ae (by decide) fun k' hk'=>?_
 simp
 refine aG.aB ae (mz b.sites (szS szN b.nodes left) (by omega) (by omega) hb.sites) e33 (.cons (aF.encI false b.sites) (.cons (.v _ _ _) .nil)) (by decide) (by decide) rfl (by simp[bW,encI,encS,cb]) ?_
 rintro _ rfl
 simp
 apply hk'
 refine aa.seq ?_
 refine aa.au ae (by decide) fun k' hk'=>?_
 simp
 apply hk'
 refine aa.ite rfl (fun hc=>?_) (fun hd1=>?_)
 ·simp only[decide_eq_true_eq] at hc
  refine aa.au ae (by decide) fun k' hk'=>?_
  simp
  apply hk'
  exact aa.ret Tryz.func8 (aK.one Tryz.results8) (hQ _ _ _ _ (.v _ _ _) (by rw[szB,if_neg hd0,if_pos hc]))
 simp only[decide_eq_false_iff_not] at hd1
 have le3:=jy de b.outer (szI b.sites (szS szN b.nodes left)) (by omega)
 refine aa.skip ?_
 refine aa.au ae (by decide) fun k' hk'=>?_
 simp
 refine aG.aB ae (vm b.outer (szI b.sites (szS szN b.nodes left)) (by omega) (by omega) hb.outer hb.names) e34 (.cons (aF.encS false b.outer) (.cons (.v _ _ _) .nil)) (by decide) (by decide) rfl (by simp[bW,encI,encS,cb]) ?_
 rintro _ rfl
 simp
 apply hk'
 refine aa.seq ?_
 refine aa.au ae (by decide) fun k' hk'=>?_
 simp
 apply hk'
 refine aa.ite rfl (fun hc=>?_) (fun hd2=>?_)
 ·simp only[decide_eq_true_eq] at hc
  refine aa.au ae (by decide) fun k' hk'=>?_
  simp
  apply hk'
  exact aa.ret Tryz.func8 (aK.one Tryz.results8) (hQ _ _ _ _ (.v _ _ _) (by rw[szB,if_neg hd0,if_neg hd1,if_pos hc]))
 simp only[decide_eq_false_iff_not] at hd2
 refine aa.skip ?_
 refine aa.au ae (by decide) fun k' hk'=>?_
 simp
 refine aG.aB ae (yJ b.inner (szS de b.outer (szI b.sites (szS szN b.nodes left))) (by omega) (by omega) hb.inner hb.wnames) e35 (.cons (aF.cb false b.inner) (.cons (.v _ _ _) .nil)) (by decide) (by decide) rfl (by simp[bW,encI,encS,cb]) ?_
 rintro _ rfl
 simp
 apply hk'
 refine aa.seq ?_
 refine aa.au ae (by decide) fun k' hk'=>?_
 simp
 apply hk'
 refine aa.ite rfl (fun hc=>?_) (fun hd3=>?_)
 ·simp only[decide_eq_true_eq] at hc
  refine aa.au ae (by decide) fun k' hk'=>?_
  simp
  apply hk'
  exact aa.ret Tryz.func8 (aK.one Tryz.results8) (hQ _ _ _ _ (.v _ _ _) (by rw[szB,if_neg hd0,if_neg hd1,if_neg hd2,if_pos hc]))
 simp only[decide_eq_false_iff_not] at hd3
 refine aa.skip ?_
 refine aa.au ae (by decide) fun k' hk'=>?_
 simp
 apply hk'
 exact aa.ret Tryz.func8 (aK.one Tryz.results8) (hQ _ _ _ _ (.v _ _ _) (by rw[szB,if_neg hd0,if_neg hd1,if_neg hd2,if_neg hd3]))
theorem Di {sig:Sig} {b:Big} {left:Int} (h0:0≤left) (h1:left≤1048576) (hs:0≤szS szC sig left) (hb:0≤szB b (szS szC sig left)) (hh:jP b):bZ sig b:=by
 have hle:=jy szC sig left h0
 obtain⟨a1,a2⟩:=qI szC sig left h0 hs
 generalize szS szC sig left=l0 at *
 unfold szB at hb
 split at hb
 ·omega
 split at hb
 ·omega
 split at hb
 ·omega
 split at hb
 ·omega
 rename_i n1 n2 n3 n4
 have le1:=jy szN b.nodes l0 hs
 obtain⟨b1,b2⟩:=qI szN b.nodes l0 hs (by omega)
 generalize szS szN b.nodes l0=l1 at *
 have le2:=sX szI b.sites l1 (by omega)
 have c1:=qJ (s:=b.sites) (c:=l1) (by omega)
 generalize szI b.sites l1=l2 at *
 have le3:=jy de b.outer l2 (by omega)
 obtain⟨d1,d2⟩:=qI de b.outer l2 (by omega) (by omega)
 generalize szS de b.outer l2=l3 at *
 obtain⟨f1,f2⟩:=qI szW b.inner l3 (by omega) (by omega)
 refine⟨by omega,fun c hc=>?_,by omega,by omega,by omega,by omega,fun s hs=>?_,fun w hw=>?_,fun x hx=>?_,hh.parents,hh.sites64⟩
 ·obtain⟨q,_,q2,q3⟩:=a2 c hc
  have:=pH q3
  omega
 ·obtain⟨q,_,q2,q3⟩:=d2 s hs
  have:=pH q3
  omega
 ·obtain⟨q,_,q2,q3⟩:=f2 w hw
  have:=pH q3
  omega
 ·obtain⟨q,_,q2,q3⟩:=b2 x hx
  have:=qJ q3
  omega
end Go.Ab
/- The contract of laws.FnExactCommonPlace: it answers true. -/
namespace Go.Ab
open Go.Proofs
set_option linter.unusedSimpArgs false
structure AW (sig:Sig):Prop where
 len:sig.length≤9223372036854775807
 names:∀ c ∈ sig,c.name.length≤9223372036854775807
end Go.Ab
