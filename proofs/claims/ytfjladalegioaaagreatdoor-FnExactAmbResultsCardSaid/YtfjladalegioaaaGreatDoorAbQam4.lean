/- Merged texts (4 of 12) of the proof that ends in Amy: Ty X P So Sx Sy Sz. -/
import Derived.Test.YtfjladalegioaaaGreatDoorAbQam3
import Derived.Test.YtfjladalegioaaaGreatDoorProg
import Derived.KernelRfl
import Derived.Shelf.Sort.Plain
open Go.Proofs.Tryz
set_option linter.unusedSectionVars false
set_option linter.unusedSimpArgs false
set_option linter.unusedVariables false
namespace Go.Ab
open Go.Proofs
theorem bS.of {P:Program} {t:TypeId} {s b:Nat} {z:List Value} (h:(P.underlying t).isSome=true) (h2:(P.info? t).map (fun i=>(i.size,i.bytes,i.zero.map Value.cells))=some (s,b,some z.toArray)):bS P t ⟨(P.underlying t).getD .invalid,s,b,z⟩:=by
 refine⟨?_,?_⟩
 ·cases hu:P.underlying t with
  | none=>simp[hu] at h
  | some d=>rfl
 cases hi:P.info? t with
 | none=>simp[hi] at h2
 | some info=>
  simp only[hi,Option.map_some,Option.some.injEq,Prod.mk.injEq,Option.map_eq_some_iff] at h2;obtain⟨h3,h4,zv,h5,h6⟩:=h2;exact⟨info,zv,rfl,h3,h4,h5,h6⟩
noncomputable def ty1:TI:=⟨(Tryz.prog.underlying 1).getD .invalid,1,8,[.nilFunc]⟩
noncomputable def ty2:TI:=⟨(Tryz.prog.underlying 2).getD .invalid,1,8,[.int .i64 0]⟩
noncomputable def kN:TI:=⟨(Tryz.prog.underlying 3).getD .invalid,1,8,[.int .i64 0]⟩
noncomputable def vj:TI:=⟨(Tryz.prog.underlying 4).getD .invalid,1,1,[.bool false]⟩
noncomputable def wz:TI:=⟨(Tryz.prog.underlying 5).getD .invalid,1,1,[.int .u8 0]⟩
noncomputable def tC:TI:=⟨(Tryz.prog.underlying 9).getD .invalid,1,16,[.string ⟨#[]⟩]⟩
noncomputable def oK:TI:=⟨(Tryz.prog.underlying 22).getD .invalid,1,24,[.slice none 0 0]⟩
noncomputable def qM:TI:=⟨(Tryz.prog.underlying 24).getD .invalid,1,24,[.slice none 0 0]⟩
noncomputable def pQ:TI:=⟨(Tryz.prog.underlying 26).getD .invalid,1,24,[.slice none 0 0]⟩
noncomputable def oW:TI:=⟨(Tryz.prog.underlying 29).getD .invalid,1,24,[.slice none 0 0]⟩
noncomputable def mi:TI:=⟨(Tryz.prog.underlying 31).getD .invalid,1,24,[.slice none 0 0]⟩
noncomputable def qt:TI:=⟨(Tryz.prog.underlying 42).getD .invalid,1,24,[.slice none 0 0]⟩
noncomputable def pB:TI:=⟨(Tryz.prog.underlying 50).getD .invalid,3,32,[.int .i64 0,.string ⟨#[]⟩,.int .i64 0]⟩
noncomputable def o7:TI:=⟨(Tryz.prog.underlying 51).getD .invalid,3,32,[.int .i64 0,.string ⟨#[]⟩,.int .i64 0]⟩
noncomputable def q8:TI:=⟨(Tryz.prog.underlying 54).getD .invalid,1,24,[.slice none 0 0]⟩
noncomputable def py:TI:=⟨(Tryz.prog.underlying 59).getD .invalid,3,24,[.int .i64 0,.int .i64 0,.int .i64 0]⟩
noncomputable def qL:TI:=⟨(Tryz.prog.underlying 68).getD .invalid,3,48,[.string ⟨#[]⟩,.slice none 0 0,.bool false]⟩
noncomputable def pX:TI:=⟨(Tryz.prog.underlying 72).getD .invalid,1,24,[.slice none 0 0]⟩
noncomputable def pW:TI:=⟨(Tryz.prog.underlying 83).getD .invalid,1,24,[.slice none 0 0]⟩
noncomputable def qc:TI:=⟨(Tryz.prog.underlying 86).getD .invalid,3,40,[.slice none 0 0,.int .i64 0,.bool false]⟩
noncomputable def tyL:List (Nat × TI):=[(1,ty1),(2,ty2),(3,kN),(4,vj),(5,wz),(9,tC),(22,oK),(24,qM),(26,pQ),(29,oW),(31,mi),(42,qt),(50,pB),(51,o7),(54,q8),(59,py),(68,qL),(72,pX),(83,pW),(86,qc)]
noncomputable def Ty:Types:=fun t=>(tyL.find? (fun p=>p.1 == t)).map (·.2)
theorem pP:bS prog 1 ty1:=bS.of (by kernel_rfl) (by kernel_rfl)
theorem ok2:bS prog 2 ty2:=bS.of (by kernel_rfl) (by kernel_rfl)
theorem mw:bS prog 3 kN:=bS.of (by kernel_rfl) (by kernel_rfl)
theorem Ty_3:Ty 3=some kN:=by kernel_rfl
theorem tZ:kN.size=1:=rfl
theorem tq:kN.bytes=8:=rfl
theorem tQ:kN.zero=[.int .i64 0]:=rfl
theorem vZ:kN.isAgg=false:=by kernel_rfl
theorem kd_3:kd Ty 3 = .int .i64:=by kernel_rfl
theorem oC:bS prog 4 vj:=bS.of (by kernel_rfl) (by kernel_rfl)
theorem Ty_4:Ty 4=some vj:=by kernel_rfl
theorem uI:vj.size=1:=rfl
theorem tg:vj.bytes=1:=rfl
theorem vb:vj.zero=[.bool false]:=rfl
theorem vl:vj.isAgg=false:=by kernel_rfl
theorem kd_4:kd Ty 4 = .bool:=by kernel_rfl
theorem qF:bS prog 5 wz:=bS.of (by kernel_rfl) (by kernel_rfl)
theorem Ty_5:Ty 5=some wz:=by kernel_rfl
theorem tT:wz.size=1:=rfl
theorem tz:wz.bytes=1:=rfl
theorem uY:wz.zero=[.int .u8 0]:=rfl
theorem vC:wz.isAgg=false:=by kernel_rfl
theorem kd_5:kd Ty 5 = .int .u8:=by kernel_rfl
theorem ok9:bS prog 9 tC:=bS.of (by kernel_rfl) (by kernel_rfl)
theorem Ty_9:Ty 9=some tC:=by kernel_rfl
theorem um:tC.size=1:=rfl
theorem rL:tC.bytes=16:=rfl
theorem uL:tC.zero=[.string ⟨#[]⟩]:=rfl
theorem vm:tC.isAgg=false:=by kernel_rfl
theorem kd_9:kd Ty 9 = .string:=by kernel_rfl
theorem ok22:bS prog 22 oK:=bS.of (by kernel_rfl) (by kernel_rfl)
theorem Ty_22:Ty 22=some oK:=by kernel_rfl
theorem sa:oK.size=1:=rfl
theorem pV:oK.bytes=24:=rfl
theorem sx:oK.zero=[.slice none 0 0]:=rfl
theorem uR:oK.isAgg=false:=by kernel_rfl
theorem rv:kd Ty 22 = .slice pB:=by kernel_rfl
theorem ok24:bS prog 24 qM:=bS.of (by kernel_rfl) (by kernel_rfl)
theorem Ty_24:Ty 24=some qM:=by kernel_rfl
theorem tc:qM.size=1:=rfl
theorem qG:qM.bytes=24:=rfl
theorem sG:qM.zero=[.slice none 0 0]:=rfl
theorem uZ:qM.isAgg=true:=by kernel_rfl
theorem kd_24:kd Ty 24 = .struct [(0,oK)]:=by kernel_rfl
theorem ok26:bS prog 26 pQ:=bS.of (by kernel_rfl) (by kernel_rfl)
theorem Ty_26:Ty 26=some pQ:=by kernel_rfl
theorem s8:pQ.size=1:=rfl
theorem q0:pQ.bytes=24:=rfl
theorem sn:pQ.zero=[.slice none 0 0]:=rfl
theorem ub:pQ.isAgg=false:=by kernel_rfl
theorem ep:kd Ty 26 = .slice mi:=by kernel_rfl
theorem ok29:bS prog 29 oW:=bS.of (by kernel_rfl) (by kernel_rfl)
theorem Ty_29:Ty 29=some oW:=by kernel_rfl
theorem tx:oW.size=1:=rfl
theorem qP:oW.bytes=24:=rfl
theorem tp:oW.zero=[.slice none 0 0]:=rfl
theorem uj:oW.isAgg=false:=by kernel_rfl
theorem bx:kd Ty 29 = .slice o7:=by kernel_rfl
theorem ok31:bS prog 31 mi:=bS.of (by kernel_rfl) (by kernel_rfl)
theorem ru:Ty 31=some mi:=by kernel_rfl
theorem te:mi.size=1:=rfl
theorem pU:mi.bytes=24:=rfl
theorem sD:mi.zero=[.slice none 0 0]:=rfl
theorem u9:mi.isAgg=true:=by kernel_rfl
theorem kd_31:kd Ty 31 = .struct [(0,oW)]:=by kernel_rfl
theorem ok42:bS prog 42 qt:=bS.of (by kernel_rfl) (by kernel_rfl)
theorem Ty_42:Ty 42=some qt:=by kernel_rfl
theorem tf:qt.size=1:=rfl
theorem qk:qt.bytes=24:=rfl
theorem tv:qt.zero=[.slice none 0 0]:=rfl
theorem uT:qt.isAgg=false:=by kernel_rfl
theorem ct:kd Ty 42 = .slice tC:=by kernel_rfl
theorem ok50:bS prog 50 pB:=bS.of (by kernel_rfl) (by kernel_rfl)
theorem Ty_50:Ty 50=some pB:=by kernel_rfl
theorem td:pB.size=3:=rfl
theorem qV:pB.bytes=32:=rfl
theorem tu:pB.zero=[.int .i64 0,.string ⟨#[]⟩,.int .i64 0]:=rfl
theorem tX:pB.isAgg=true:=by kernel_rfl
theorem kd_50:kd Ty 50 = .struct [(0,kN),(1,tC),(2,kN)]:=by kernel_rfl
theorem ok51:bS prog 51 o7:=bS.of (by kernel_rfl) (by kernel_rfl)
theorem wq:Ty 51=some o7:=by kernel_rfl
theorem se:o7.size=3:=rfl
theorem pT:o7.bytes=32:=rfl
theorem sq:o7.zero=[.int .i64 0,.string ⟨#[]⟩,.int .i64 0]:=rfl
theorem uU:o7.isAgg=true:=by kernel_rfl
theorem kd_51:kd Ty 51 = .struct [(0,kN),(1,tC),(2,kN)]:=by kernel_rfl
theorem ok54:bS prog 54 q8:=bS.of (by kernel_rfl) (by kernel_rfl)
theorem Ty_54:Ty 54=some q8:=by kernel_rfl
theorem rN:q8.size=1:=rfl
theorem rf:q8.bytes=24:=rfl
theorem sO:q8.zero=[.slice none 0 0]:=rfl
theorem u1:q8.isAgg=false:=by kernel_rfl
theorem lF:kd Ty 54 = .slice py:=by kernel_rfl
theorem ok59:bS prog 59 py:=bS.of (by kernel_rfl) (by kernel_rfl)
theorem Ty_59:Ty 59=some py:=by kernel_rfl
theorem sb:py.size=3:=rfl
theorem q6:py.bytes=24:=rfl
theorem rS:py.zero=[.int .i64 0,.int .i64 0,.int .i64 0]:=rfl
theorem ve:py.isAgg=true:=by kernel_rfl
theorem kd_59:kd Ty 59 = .struct [(0,kN),(1,kN),(2,kN)]:=by kernel_rfl
theorem ok68:bS prog 68 qL:=bS.of (by kernel_rfl) (by kernel_rfl)
theorem Ty_68:Ty 68=some qL:=by kernel_rfl
theorem rT:qL.size=3:=rfl
theorem qb:qL.bytes=48:=rfl
theorem sC:qL.zero=[.string ⟨#[]⟩,.slice none 0 0,.bool false]:=rfl
theorem ud:qL.isAgg=true:=by kernel_rfl
theorem kd_68:kd Ty 68 = .struct [(0,tC),(1,mi),(2,vj)]:=by kernel_rfl
theorem ok72:bS prog 72 pX:=bS.of (by kernel_rfl) (by kernel_rfl)
theorem Ty_72:Ty 72=some pX:=by kernel_rfl
theorem rU:pX.size=1:=rfl
theorem qh:pX.bytes=24:=rfl
theorem rK:pX.zero=[.slice none 0 0]:=rfl
theorem uD:pX.isAgg=false:=by kernel_rfl
theorem dG:kd Ty 72 = .slice kN:=by kernel_rfl
theorem ok83:bS prog 83 pW:=bS.of (by kernel_rfl) (by kernel_rfl)
theorem Ty_83:Ty 83=some pW:=by kernel_rfl
theorem rW:pW.size=1:=rfl
theorem qH:pW.bytes=24:=rfl
theorem sV:pW.zero=[.slice none 0 0]:=rfl
theorem uu:pW.isAgg=false:=by kernel_rfl
theorem we:kd Ty 83 = .slice wz:=by kernel_rfl
theorem ok86:bS prog 86 qc:=bS.of (by kernel_rfl) (by kernel_rfl)
theorem kk:Ty 86=some qc:=by kernel_rfl
theorem sl:qc.size=3:=rfl
theorem qA:qc.bytes=40:=rfl
theorem sH:qc.zero=[.slice none 0 0,.int .i64 0,.bool false]:=rfl
theorem uo:qc.isAgg=true:=by kernel_rfl
theorem kd_86:kd Ty 86 = .struct [(0,mi),(1,kN),(2,vj)]:=by kernel_rfl
theorem aB:aN prog Ty:=by
 have h:∀ p ∈ tyL,bS prog p.1 p.2:=by
  refine List.forall_mem_cons.2 ⟨pP,?_⟩;refine List.forall_mem_cons.2 ⟨ok2,?_⟩;refine List.forall_mem_cons.2 ⟨mw,?_⟩;refine List.forall_mem_cons.2 ⟨oC,?_⟩;refine List.forall_mem_cons.2 ⟨qF,?_⟩;refine List.forall_mem_cons.2 ⟨ok9,?_⟩;refine List.forall_mem_cons.2 ⟨ok22,?_⟩;refine List.forall_mem_cons.2 ⟨ok24,?_⟩;refine List.forall_mem_cons.2 ⟨ok26,?_⟩;refine List.forall_mem_cons.2 ⟨ok29,?_⟩;refine List.forall_mem_cons.2 ⟨ok31,?_⟩;refine List.forall_mem_cons.2 ⟨ok42,?_⟩;refine List.forall_mem_cons.2 ⟨ok50,?_⟩;refine List.forall_mem_cons.2 ⟨ok51,?_⟩;refine List.forall_mem_cons.2 ⟨ok54,?_⟩;refine List.forall_mem_cons.2 ⟨ok59,?_⟩;refine List.forall_mem_cons.2 ⟨ok68,?_⟩;refine List.forall_mem_cons.2 ⟨ok72,?_⟩;refine List.forall_mem_cons.2 ⟨ok83,?_⟩;refine List.forall_mem_cons.2 ⟨ok86,?_⟩;simp
 intro t i hi;unfold Ty at hi;cases hf:tyL.find? (fun p=>p.1 == t) with
 | none=>simp[hf] at hi
 | some p=>
  simp only[hf,Option.map_some,Option.some.injEq] at hi;have h1:=List.find?_some hf;have h2:=h p (List.mem_of_find?_eq_some hf);simp only[beq_iff_eq] at h1;rw[<- h1,<- hi];exact h2
attribute [simp] tZ uI tT um sa tc s8 tx te tf td se rN sb rT rU rW sl vZ vl vC vm uR uZ ub uj u9 uT tX uU u1 ve ud uD uu uo tQ vb uY uL sx sG sn tp sD tv tu sq sO rS sC rK sV sH Ty_3 Ty_4 Ty_5 Ty_9 Ty_22 Ty_24 Ty_26 Ty_29 ru Ty_42 Ty_50 wq Ty_54 Ty_59 Ty_68 Ty_72 Ty_83 kk kd_3 kd_4 kd_5 kd_9 rv kd_24 ep bx kd_31 ct kd_50 kd_51 lF kd_59 kd_68 dG we kd_86 tq tg tz rL pV qG q0 qP pU qk qV pT rf q6 qb qh qH qA
instance:Inhabited cn:=⟨⟨fun _ _=>True,fun _ _ _=>trivial⟩⟩
end Go.Ab
namespace Go.Ab
open Go.Proofs
section
variable {f:FuncId} {N:Nat} {k:List Item} {O:Env} {H:au} {n:Nat} {Q:ao->au->Nat->Prop} {id:Nat} {ops:List Oper} {y:Code}
theorem zE (h:∀ k':List Item,(∀ O H n,I prog f N (.code y::k) O H n Q->I prog f N k' O H n Q)->bI prog f N k' Q Ty ops.toArray ops O H n) (hN:ops.all (fun o=>cU N o.dst)=true:=by decide):I prog f N (.code (.seq (.region id ops.toArray false) y)::k) O H n Q:=I.seqE aB hN h
theorem zF (h:∀ k':List Item,(∀ O H n,I prog f N k O H n Q->I prog f N k' O H n Q)->bI prog f N k' Q Ty ops.toArray ops O H n) (hN:ops.all (fun o=>cU N o.dst)=true:=by decide):I prog f N (.code (.region id ops.toArray false)::k) O H n Q:=I.evalE aB hN h
end
def within (n lo hi:Int):Bool:=decide (lo<=n) && decide (n<=hi)
theorem fI (n lo hi:Int):aA prog 30 [int n,int lo,int hi] (fun r=>r=bool (within n lo hi)):=by
 refine aA.of func30 rfl ntmps30 (by simp) fun Q hQ=>?_
 refine zE fun _ V=>?_
 simp;refine V _ _ _ (zE fun _ V=>?_);simp
 by_cases h:lo<=n
 all_goals
  simp[h];refine V _ _ _ (I.ret func30 (aG.one results30) (hQ _ _ _ _ (jJ.v _ _ _) ?_));simp[within,h]
structure J where
 kind:Int
 name:aH
 parent:Int
 deriving Inhabited,DecidableEq
abbrev aw:=List J
def J.cells (x:J):List ao:=[int x.kind,str x.name,int x.parent]
def bq (t:Bool) (p:aw):ao:=.agg [.list t (p.map J.cells)]
def aC (p:aw) (parent:Int) (k:Nat):List Nat:=(List.range k).filter fun i=>(p.getD i default).parent == parent
def kO (t:Bool) (l:List Nat):ao:=.list t (l.map fun (i:Nat)=>[int (i:Int)])
theorem mL (p:aw) (parent:Int) (k:Nat):aC p parent (k+1)=if (p.getD k default).parent == parent then aC p parent k++[k] else aC p parent k:=by
 simp only[aC,List.range_succ,List.filter_append,List.filter_cons,List.filter_nil]
 split<;>simp
theorem ic (p:aw) (parent:Int) (k:Nat):(aC p parent k).length<=k:=by
 have:=List.length_filter_le (fun i=>(p.getD i default).parent == parent) (List.range k);simpa[aC] using this
theorem jO (p:aw) (parent:Int) (hp:p.length<=1048576):aA prog 47 [bq false p,int parent] (fun r=>r=kO true (aC p parent p.length)):=by
 refine aA.of func47 rfl ntmps47 (by simp) fun Q hQ=>?_
 refine zE fun _ V=>?_
 simp[bq];refine V _ _ _ (zE fun _ V=>?_);simp;refine V _ _ _ (I.seq (zE fun _ V=>?_));simp;refine V _ _ _ (I.block (I.dQ p.length (fun k O H n=>O 1=int parent/\O 10 = .list false (p.map J.cells)/\O 11=int p.length/\O 12=int k/\O 5 = .arr (1,8) (aC p parent k).length 0 (aC p parent k).length/\H (1,8)=some ⟨1,(aC p parent k).map fun (i:Nat)=>[int (i:Int)]⟩) ?_ ?_))
 ·simp[aC]
 ·rintro k O H n hk ⟨h1,h10,h11,h12,h5,hH⟩ IH;refine zE fun _ V=>?_
  simp[h1,h10,h11,h12,h5];refine V _ _ _ (I.seq (I.ite rfl (fun hlt=>?_) (fun hlt=>?_)))
  ·simp at hlt;refine I.skip (I.seq (I.block (zE fun _ V=>?_)));simp[h1,h10,h11,h12,h5,hlt,J.cells];refine V _ _ _ (zE fun _ V=>?_);simp[h1,h10,h11,h12,h5,hlt];have hks:=mL p parent k;have hkl:=ic p parent k;simp[hlt] at hks;refine V _ _ _ (I.ite rfl (fun hpar=>?_) (fun hpar=>?_))
   ·simp at hpar;refine zF fun _ V=>?_
    simp[h1,h10,h11,h12,h5,hlt,hH,show (aC p parent k).length<=1073741823 by omega];refine V _ _ _ (I.inBlock (zF fun _ V=>?_));simp[h1,h10,h11,h12,h5,hlt,bY (show k<4611686018427387904 by omega)];refine V _ _ _ (IH hlt _ _ _ ?_);simp[h1,h10,h11,h12,h5,hlt,hks,hpar]
   ·simp at hpar;refine I.skip (I.inBlock (zF fun _ V=>?_));simp[h1,h10,h11,h12,h5,hlt,bY (show k<4611686018427387904 by omega)];refine V _ _ _ (IH hlt _ _ _ ?_);simp[h1,h10,h11,h12,h5,hlt,hks,hpar,hH]
  ·simp at hlt;have hkk:k=p.length:=by omega
   subst hkk;refine I.exit rfl (zE fun _ V=>?_);simp[h5];refine V _ _ _ (I.ret func47 (aG.one results47) (hQ _ _ _ _ (.of ?_) rfl));exact hU.pe (by simp[hH];rfl) (by simp<;>exact fun _ _=>.v _)
end Go.Ab
namespace Go.Ab
open Go.Proofs
theorem cf:Tryz.prog.follows .mixedOrders=true:=by kernel_rfl
theorem e30:aV prog 30:=aV.of func30 (by kernel_rfl) rfl
theorem e70:aV prog 70:=aV.of func70 (by kernel_rfl) rfl
def word (k:Nat):aH:=match k with
 | 0=>[105,110,32]
 | 1=>[111,117,116,32]
 | _=>[111,112,101,110,32]
def cg (t:Bool) (l:List aH):ao:=.list t (l.map fun s=>[str s])
theorem gX:aA prog 70 [] (fun r=>r=cg true [word 0,word 1,word 2]):=by
 refine aA.of func70 rfl ntmps70 (by simp) fun Q hQ=>?_
 refine zE fun _ V=>?_
 simp;refine V _ _ _ (zE fun _ V=>?_);simp[List.range_succ];refine V _ _ _ (I.ret func70 (aG.one results70) (hQ _ _ _ _ (.of (hU.fresh ?_)) rfl));simp[cg]
def aO (x:J) (inside:aH):aH:=
 if x.kind=0 then x.name++[91]++inside++[93] else word (x.kind - 1).toNat++x.name++[46,40]++inside++[41]
theorem l9 (k:Nat):(word k).length<=5:=by
 unfold word
 split<;>simp
theorem kt (x:J) (s:aH) (hk:0<=x.kind/\x.kind<=3) (hn:x.name.length<=1073741824) (hs:s.length<=1152921504606846976):aA prog 49 [.agg x.cells,str s] (fun r=>r=str (aO x s)):=by
 refine aA.of func49 rfl ntmps49 (by simp) fun Q hQ=>?_
 refine zE fun _ V=>?_
 simp;refine V _ _ _ (I.seq (zE fun _ V=>?_));simp[J.cells];refine V _ _ _ (I.ite rfl (fun h=>?_) (fun h=>?_))
 ·simp at h;refine zE fun _ V=>?_
  simp (disch:=first | omega | simp) [J.cells,if_pos];refine V _ _ _ (I.ret func49 (aG.one results49) (hQ _ _ _ _ (.v _ _ _) ?_));simp[aO,h]
 ·simp at h;apply I.skip;refine I.gY aB aD cf (by decide) (by kernel_rfl) fun _ V=>?_
  simp[J.cells];refine bw.c8 aB aD gX e70 .nil (by decide) rfl (by simp) ?_;obtain⟨kd,nm,par⟩:=x;simp only at hk hn h;have:kd=1\/kd=2\/kd=3:=by omega
  rcases this with rfl | rfl | rfl
  all_goals
   simp (disch:=first | omega | simp) [cg,word,if_pos];refine V _ _ _ (I.ret func49 (aG.one results49) (hQ _ _ _ _ (.v _ _ _) ?_));simp[aO,word]
end Go.Ab
namespace Go.Ab
open Go.Proofs Go.RowKit
theorem nk {α:Type} {enc:α->Value} [Inhabited α] {off:Nat} {d:Array α} {cl:Array Value} (k:Nat) :
  (Sort.putCells enc off d cl)[k]?=(cl[k]?).map fun x=>if off<=k/\k<off+d.size then enc d[k - off]! else x:=by
 simp only[Sort.putCells,Array.getElem?_mapIdx]
theorem lf {c:Ctx} (g:Good c) {id:Id} {ss ss':List aH} (ho:c.H id=some ⟨1,ss.map fun s=>[str s]⟩) (hl:ss'.length=ss.length) (off:Nat) (cC:off=0\/ss'=[]) (m:Nat) (os:Array Obj) :
  let c':Ctx:={ c with H:=c.H.set id ⟨1,ss'.map fun s=>[str s]⟩,w:=Sort.grow (Sort.putRow encStr (Sort.ahead c.w m) (c.β id) off ss'.toArray) os }
  aQ c c'/\Good c':=by
 intro c';obtain⟨hB,cl,el,E,hsz,hel⟩:=g.obj id _ ho;simp only[List.length_map,Nat.mul_one] at hsz;have hnew:(Sort.putRow encStr (Sort.ahead c.w m) (c.β id) off ss'.toArray).heap[c.β id]?=some (.cells (Sort.putCells encStr off ss'.toArray cl) el (0,0)):=by
  simp only[Sort.putRow,Sort.mapBlock,Sort.ahead,Array.getElem?_modify,E];simp[Sort.onCells]
 have hoth:∀ k,k ≠ c.β id->(Sort.putRow encStr (Sort.ahead c.w m) (c.β id) off ss'.toArray).heap[k]?=c.w.heap[k]?:=fun k hk=>by
  simp only[Sort.putRow,Sort.mapBlock,Sort.ahead,Array.getElem?_modify];rw[if_neg (Ne.symm hk)]
 obtain⟨k1,g1⟩:=gQ g ho ⟨1,ss'.map fun s=>[str s]⟩ (Sort.putRow encStr (Sort.ahead c.w m) (c.β id) off ss'.toArray) cl (Sort.putCells encStr off ss'.toArray cl) el el ⟨rfl,rfl,rfl⟩ (by simp[Sort.ahead]) E hoth hnew
  (by simp[Sort.putCells]) rfl (by simp[hl]) (by
   refine⟨by simp[Sort.putCells];omega,fun i e he=>?_⟩;rw[List.getElem?_map] at he;obtain⟨s,hs,rfl⟩:=Option.map_eq_some_iff.1 he;refine⟨rfl,fun j a ha=>?_⟩;have hi:i<ss'.length:=(List.getElem?_eq_some_iff.1 hs).1;have ho0:off=0:=cC.elim (fun h=>h) fun h=>by subst h;simp at hi
   subst ho0
   match j,ha with
   | 0,ha=>
    simp only[List.getElem?_cons_zero,Option.some.injEq] at ha;subst ha;refine⟨encStr s,?_,.v _⟩;rw[nk];have hic:i<cl.size:=by omega
    simp only[Nat.mul_one,Nat.add_zero,Array.getElem?_eq_getElem hic,Option.map_some,Nat.zero_le,true_and,Nat.zero_add,Nat.sub_zero,List.size_toArray,hi,if_true,Option.some.injEq];have:ss'.toArray[i]! = s:=by
     obtain⟨h1,h2⟩:=List.getElem?_eq_some_iff.1 hs;simp[h1,h2]
    rw[this]
   | j+1,ha=>simp at ha)
 obtain⟨k2,g2⟩:=cP g1 c'.w ⟨rfl,rfl,rfl⟩ (by simp[c']) fun k hk=>Sort.heap_grow_old _ _ hk
 exact⟨k1.trans k2,g2⟩
theorem lB {H:au} {l:List Sh} (hf:∀ t ∈ l,t = .c):∀ {as1' bs:List (List ao)} {S:List Id},aW (Row H l) as1' bs S->as1'=bs/\S=[]:=by
 intro as1'
 induction as1' with
 | nil=>intro bs S hr;match bs,hr with
  | [],h=>exact⟨rfl,h⟩
  | _::_,hr=>exact hr.elim
 | cons a _ ih=>
  intro bs S hr
  match bs,hr with
  | b::bs,⟨_,_,q1,q2,q3,_⟩=>
   obtain⟨rfl,rfl,_⟩:=q1.fill hf;obtain⟨rfl,rfl⟩:=ih q2;exact⟨rfl,q3⟩
  | [],hr=>exact hr.elim
theorem gB.sort {P:Program} {f:FuncId} {ss:List aH} (hlen:ss.length<4611686018427387904)
  (hs:∀ (blk off cap:Nat) (w:World),Sort.Holds encStr w blk off ss.toArray->blk<w.heap.size->Calls P f #[.slice (some ⟨blk,off,none⟩) ss.length cap] w fun e w'=>
   e = .returned (.tuple #[])/\∃ n os,w'=Sort.grow (Sort.putRow encStr (Sort.ahead w n) blk off (ss.mergeSort fun x y=>decide (x<=y)).toArray) os)
  (hnil:∀ w:World,Calls P f #[.slice none 0 0] w fun e w'=>e = .returned (.tuple #[])/\Below w.heap.size w w') :
  gB P f (fun v=>[v]) (.s [.c]) (cg true ss) (fun e r=>e=cg true (ss.mergeSort fun x y=>decide (x<=y))/\r = .tup []):=by
 intro H n v K ids hsep c xs hH hn g r;subst hH hn;obtain⟨x,rfl,hx⟩:∃ x,xs=[x]/\bj c v x:=by
  obtain⟨hl,hr⟩:=r
  match xs,hl with
  | [x],_=>exact⟨x,rfl,hr 0 v x rfl rfl⟩
 obtain⟨h0,S,h1,h2⟩:=hsep;simp only[List.map_cons,Row,Tr] at h1;obtain⟨S1,S2,h3,h4,rfl,h5⟩:=h1;rcases h3 with ⟨rfl,e,rfl⟩ | ⟨id,els,es',T,rfl,he,q3,q4,q5,rfl⟩
 ·have hss:ss=[]:=by simpa[cg] using e
  subst hss;rw[hx.bo];refine (hnil c.w).mono ?_;rintro e w' ⟨rfl,hb⟩;obtain⟨hk,hg⟩:=cP g w' ⟨hb.os,hb.tape,hb.output⟩ hb.size hb.block;refine⟨_,.tup [],{ c with w:=w' },rfl,rfl,⟨_,⟨rfl,rfl⟩,⟨h0,_,?_,h2⟩,fun _ _=>rfl,Nat.le_refl _⟩,.tup [] [] rfl (by simp),hg,hk⟩;simp only[List.map_cons,Row,Tr];exact⟨[],S2,.inl (by simp[cg]),h4,rfl,by simp⟩
 ·simp only[cg,ao.list.injEq,true_and] at he;subst he;obtain⟨rfl,rfl⟩:=lB (by simp) q4;have hm:(ss.mergeSort fun x y=>decide (x<=y)).length=ss.length:=List.length_mergeSort ss;have q3':c.H id=some ⟨1,ss.map fun s=>[str s]⟩:=q3;have hcell:∀ i s,ss[i]?=some s->c.w.cell? ⟨c.β id,i,none⟩=some (encStr s):=fun i s hi=>by
   obtain⟨x,h1,h2⟩:=g.cell q3' (i:=i) (j:=0) (e:=[str s]) (a:=str s) (by rw[List.getElem?_map,hi];rfl) rfl;rw[h2.bo] at h1;simpa using h1
  cases hx with
  | arr _ _ _ _ _ _ hn hg h=>
   obtain⟨hle,a,cap,rfl,hab,hsp,hlc,cC,hcl⟩:=h _ q3' (by simp);obtain⟨bk,off,M⟩:=a;simp only at hab hsp;subst hab hsp;have hz:off=0\/ss=[]:=by
    rcases cC with h | h
    ·left;simpa using h
    ·right;simpa[h] using hlc
   have hz':off=0\/(ss.mergeSort fun x y=>decide (x<=y))=[]:=hz.imp_right fun h=>by subst h;simp
   have hbk:c.β id<c.w.heap.size:=g.lt q3';have key:=hs (c.β id) off cap c.w (fun j hj=>by
    have hj':j<ss.length:=by simpa using hj
    have h0:off=0:=hz.elim (fun h=>h) fun h=>by subst h;simp at hj'
    subst h0;refine⟨?_,g.frozen q3' _⟩;rw[Nat.zero_add,hcell j ss[j] (List.getElem?_eq_getElem hj')];simp[hj']) hbk
   simp only[List.length_map] at *;apply key.mono;rintro e w' ⟨rfl,m,os,rfl⟩;obtain⟨hk,hg'⟩:=lf g q3' hm off hz' m os;refine⟨_,.tup [],{ c with H:=c.H.set id ⟨1,(ss.mergeSort fun x y=>decide (x<=y)).map fun s=>[str s]⟩,w:=Sort.grow (Sort.putRow encStr (Sort.ahead c.w m) (c.β id) off (ss.mergeSort fun x y=>decide (x<=y)).toArray) os },rfl,rfl,⟨_,⟨rfl,rfl⟩,⟨h0,id::S2,?_,?_⟩,fun i hi=>?_,Nat.le_refl _⟩,.tup [] [] rfl (by simp),hg',hk⟩
   ·simp only[List.map_cons,Row,Tr];refine⟨[id],S2,.inr ⟨id,(ss.mergeSort fun x y=>decide (x<=y)).map fun s=>[str s],(ss.mergeSort fun x y=>decide (x<=y)).map fun s=>[str s],[],by simp[hm],rfl,?_,?_,by simp,rfl⟩,h4.frame fun i hi=>?_,rfl,?_⟩
    ·exact au.bB _ _ _
    ·exact aW.uQ (by simp[str,flat]) (by simp)
    ·exact au.ay _ _ (by rintro rfl;exact h5 i (by simp) hi)
    ·intro i hi;exact h5 i (by simpa using hi)
   ·intro i hi;exact h2 i (by simpa using hi)
   ·exact au.ay _ _ (by rintro rfl;exact (h2 i (by simp)).2 hi)
end Go.Ab
namespace Go.Ab
variable [Inhabited cn]
section
variable (P:Program) (N:Nat) (ops:Array Oper) (κ:Op->Nat) (cix:Nat)
end
section
variable {P:Program} {N:Nat} {ops:Array Oper} {κ:Op->Nat} {cix:Nat}
end
section
variable {P:Program} {f:FuncId} {N:Nat} {k:List Item} {O:Env} {H:au} {n:Nat} {Q:ao->au->Nat->Prop} {κ:Op->Nat}
end
section
variable (P:Program) (f:FuncId) (N:Nat) (k:List Item) (Q:ao->au->Nat->Prop) (Ty:Types) (κ:Op->Nat) (ops:Array Oper)
end
section
variable {P:Program} {f:FuncId} {N:Nat} {k:List Item} {Q:ao->au->Nat->Prop} {Ty:Types} {κ:Op->Nat} {ops:Array Oper} {o:Oper} {l:List Oper} {O:Env} {H:au} {n:Nat} {c:Nat}
theorem oM {d:Operand} {args:Array Operand} {ats:Array TypeId}:args.toList.map (loc (.call ⟨.value d,args,ats⟩) O).ev=args.toList.map O.ev/\(loc (.call ⟨.value d,args,ats⟩) O).ev d=O.ev d:=
 ⟨List.map_congr_left fun x hx=>gp (by simp[Op.operands,Call.operands];exact .inr (by simpa using hx)),gp (by simp[Op.operands,Call.operands])⟩
end
end Go.Ab
namespace Go.Ab
variable [Inhabited cn]
abbrev bH (L:Array Bool) (j:Nat):Prop:=L.getD j false=true
theorem bH.set {L:Array Bool} {i j:Nat} (h:bH (L.setIfInBounds i true) j):j=i\/bH L j:=by
 by_cases hij:i=j
 ·exact .inl hij.symm
 ·refine .inr ?_;rw[bH,getD_set_ne false hij] at h;exact h
theorem bH.eX {L:Array Bool} {i j:Nat} (h:bH L j):bH (L.setIfInBounds i true) j:=by
 by_cases hij:i=j
 ·subst hij;have:i<L.size:=by
   rcases Nat.lt_or_ge i L.size with h' | h'
   ·exact h'
   ·simp[bH,h'] at h
  simp[bH,this]
 ·rw[bH,getD_set_ne false hij];exact h
theorem eE {L:Array Bool} {i:Nat} (h:i<L.size):bH (L.setIfInBounds i true) i:=by simp[bH,h]
theorem gR {L:Array Bool} {i:Nat} (h:i<L.size):¬ bH L i↔L.getD i true=false:=by
 simp[bH,h]
theorem kz {α:Type} {p q:α->Bool}:∀ {l:List α},(∀ x ∈ l,p x=true->q x=true)->(∃ x ∈ l,q x=true/\p x=false)->l.countP p<l.countP q
 | [],_,⟨_,h,_⟩=>by cases h
 | y::l,h,⟨x,hx,h1,h2⟩=>by
  have hle:l.countP p<=l.countP q:=List.countP_mono_left fun z hz=>h z (by simp[hz])
  rcases List.mem_cons.1 hx with rfl | hx
  ·rw[List.countP_cons_of_pos h1,List.countP_cons_of_neg (by simp[h2])];omega
  ·have:=kz (l:=l) (fun z hz=>h z (by simp[hz])) ⟨x,hx,h1,h2⟩;have hy:=h y (by simp);simp only[List.countP_cons]
   by_cases hp:p y=true
   ·rw[if_pos hp,if_pos (hy hp)];omega
   ·rw[if_neg hp];split<;>omega
def iV (P:Program) (N:Nat) (ops:Array Oper) (Inv:Array Bool->AS->Prop) (i:Nat):Prop:=
 ∀ L s,Inv L s->i ∈ Region.ready .any ops L->∃ o,ops[i]?=some o/\o.guard=none/\aE P N o (loc o.op s.1) s.2.1 s.2.2 fun v H' n'=>Inv (L.setIfInBounds i true) (s.1.put o.dst v,H',n')
section
variable {P:Program} {N:Nat} {ops:Array Oper}
theorem mZ {Inv:Array Bool->AS->Prop} {R:AS->Prop} (hN:ops.toList.all (fun o=>cU N o.dst)=true) {Q:Exit->Act->World->Prop} {c0:Ctx} (hQ:∀ a c O,aQ c0 c->Good c->bV N c O a->R (O,c.H,c.n)->Q .normal a c.w)
  (step:∀ i,iV P N ops Inv i) (fin:∀ L s,Inv L s->Region.ready .any ops L=[]->R s) :
  ∀ (fuel:Nat) (L:Array Bool) (O:Env) (c:Ctx) (a:Act),aQ c0 c->Good c->bV N c O a->Inv L (O,c.H,c.n)->(List.range ops.size).countP (fun i => !(L.getD i true))<=fuel->wpAny P .any ops Q fuel L a c.w
 | 0,L,O,c,a,hk,g,r,h,hf=>by
  have hr:Region.ready .any ops L=[]:=by
   cases hl:Region.ready .any ops L with
   | nil=>rfl
   | cons i l=>
    have hi:i ∈ Region.ready .any ops L:=by rw[hl];simp
    obtain⟨h1,o,ho,_⟩:=mem_ready.1 hi;have hlt:i<ops.size:=(Array.getElem?_eq_some_iff.1 ho).1;have:0<(List.range ops.size).countP (fun i => !(L.getD i true)):=List.countP_pos_iff.2 ⟨i,List.mem_range.2 hlt,by simp only[h1,Bool.not_false]⟩;omega
  exact⟨hr,hQ _ _ _ hk g r (fin _ _ h hr)⟩
 | fuel+1,L,O,c,a,hk,g,r,h,hf=>by
  refine⟨fun h0=>hQ _ _ _ hk g r (fin _ _ h h0),fun i hi=>?_⟩;obtain⟨o,ho,hg,hop⟩:=step i L _ h hi;obtain⟨hu,o',ho',_⟩:=mem_ready.1 hi;have hlt:i<ops.size:=(Array.getElem?_eq_some_iff.1 ho).1;have hd:cU N o.dst=true:=List.all_eq_true.1 hN o (by rw[<- Array.getElem?_toList] at ho;exact List.mem_of_getElem? ho);unfold wpOp;simp only[ho];rw[if_pos (bA r hN (by simp[eG,hg]))];refine .inl (hop c a rfl rfl g (r.loc o.op) _ _ ?_);rintro v1 x c' hpost hrep hgood hkeep;refine mZ hN hQ step fin fuel _ _ c' _ (hk.trans hkeep) hgood ((r.keeps hkeep).put hd hrep) hpost ?_;have:(List.range ops.size).countP (fun j => !((L.setIfInBounds i true).getD j true))<(List.range ops.size).countP (fun j => !(L.getD j true)):=by
   refine kz (fun x _ hx=>?_) ⟨i,List.mem_range.2 hlt,by simp only[hu,Bool.not_false],?_⟩
   ·by_cases hix:i=x
    ·subst hix;simp only[hu,Bool.not_false]
    ·rw[getD_set_ne true hix] at hx;exact hx
   ·have:(L.setIfInBounds i true).getD i true=true:=by
     by_cases hs:i<L.size<;>simp[hs]
    simp only[this,Bool.not_true]
  omega
end
section
variable {P:Program} {f:FuncId} {N:Nat} {k:List Item} {O:Env} {H:au} {n:Nat} {Q:ao->au->Nat->Prop}
theorem I.drawI (Inv:Array Bool->AS->Prop) {id:Nat} {ops:List Oper} (hm:P.follows .mixedOrders=true) (hN:ops.all (fun o=>cU N o.dst)=true) (h0:Inv (Array.replicate ops.length false) (O,H,n)) (step:∀ i,iV P N ops.toArray Inv i)
  (fin:∀ L s,Inv L s->Region.ready .any ops.toArray L=[]->I P f N k s.1 s.2.1 s.2.2 Q):I P f N (.code (.region id ops.toArray true)::k) O H n Q:=by
 intro c a hH hn g r b cs hf hk;subst hH;subst hn;obtain⟨d1,d2⟩:=eR g;have hw:(Code.region id ops.toArray true).wp P (fun e a' w'=>e = .normal/\∃ c' ρ',c'.w=w'/\aQ c c'/\Good c'/\bV N c' ρ' a'/\I P f N k ρ' c'.H c'.n Q) a c.w:=by
  refine wp_region_any hm ?_;have:=mZ (P:=P) (N:=N) (ops:=ops.toArray) (c0:=c) (Inv:=Inv) (by simpa using hN) (Q:=fun e a' w'=>e = .normal/\∃ c' ρ',c'.w=w'/\aQ c c'/\Good c'/\bV N c' ρ' a'/\I P f N k ρ' c'.H c'.n Q)
   (R:=fun s=>I P f N k s.1 s.2.1 s.2.2 Q) (fun a' c' ρ' V hg' hr' hR=>⟨rfl,c',ρ',rfl,V,hg',hr',hR⟩) step fin ops.length (Array.replicate ops.toArray.size false) O { c with w:={ c.w with drawn:=c.w.drawn+1 } } a d1 d2 (r.keeps d1) (by simpa using h0)
   (Nat.le_trans List.countP_le_length (by simp))
  simpa using this
 obtain⟨e,a',w',⟨rfl,c',ρ',rfl,V,hg',hr',hR⟩,harr⟩:=hw b k cs;obtain⟨x,v,c'',fr,q,hr,hg,hke,hst,rest⟩:=hR c' a' rfl rfl hg' hr' b cs hf hk;exact⟨x,v,c'',fr,q,hr,hg,V.trans hke,Steps.trans harr hst,rest⟩
end
def Old (O:Env) (B:List (Nat × ao)):Prop:=∀ q ∈ B,O q.1=q.2
def Told (L:Array Bool) (O:Env) (al:List (Nat × Nat × ao)):Prop:=∀ q ∈ al,bH L q.1->O q.2.1=q.2.2
def vV (O:Env) (al:List (Nat × Nat × ao)):Prop:=∀ q ∈ al,O q.2.1=q.2.2
theorem Old.at {O:Env} {B:List (Nat × ao)} (h:Old O B) (k:Nat) {t:Nat} {v:ao} (hk:B[k]?=some (t,v)):O t=v:=h (t,v) (List.mem_of_getElem? hk)
theorem Told.at {L:Array Bool} {O:Env} {al:List (Nat × Nat × ao)} (h:Told L O al) (k:Nat) {i t:Nat} {v:ao} (hk:al[k]?=some (i,t,v)) (hd:bH L i):O t=v:=h (i,t,v) (List.mem_of_getElem? hk) hd
theorem vV.at {O:Env} {al:List (Nat × Nat × ao)} (h:vV O al) (k:Nat) {i t:Nat} {v:ao} (hk:al[k]?=some (i,t,v)):O t=v:=h (i,t,v) (List.mem_of_getElem? hk)
theorem Old.put {O:Env} {B:List (Nat × ao)} {d:Option Nat} {v:ao} (h:Old O B) (hd:∀ q ∈ B,d ≠ some q.1):Old (O.put d v) B:=fun q hq=>by
 cases d with
 | none=>exact h q hq
 | some d=>
  have:q.1 ≠ d:=fun e=>hd q hq (by rw[e])
  simp[Env.put,this,h q hq]
theorem Told.put {L:Array Bool} {O:Env} {al F':List (Nat × Nat × ao)} {i:Nat} {d:Option Nat} {v:ao} (h:Told L O al) (hF:∀ q ∈ F',q.1 ≠ i->bH L q.1->q ∈ al) (hd:∀ q ∈ F',d=some q.2.1->q.1=i) (hv:∀ q ∈ F',q.1=i->d=some q.2.1/\q.2.2=v) :
  Told (L.setIfInBounds i true) (O.put d v) F':=fun q hq hdn=>by
 by_cases e:q.1=i
 ·obtain⟨h1,h2⟩:=hv q hq e;subst h1;simp[Env.put,h2]
 ·have hdone:=hdn.set.resolve_left e;have:=h q (hF q hq e hdone) hdone;cases d with
  | none=>exact this
  | some d=>
   have hne:q.2.1 ≠ d:=fun he=>e (hd q hq (by rw[he]))
   simp[Env.put,hne,this]
def Mem (H0:au) (n0:Nat) (K:List bG) (ids:List Id) (ent:List bG) (w:Id) (ob0 ob1:Ob) (dc da ds:Bool) (H:au) (n:Nat):Prop:=
 Sep H n ((if dc then ent else [])++K) ((if da then [w] else [])++ids)/\(∀ i ∈ ids,H i=H0 i)/\n0<=n/\(da=true->n0<=w.1/\H w=some (if ds then ob1 else ob0))
structure mo where
 m:Nat
 c:Nat
 a:Nat
 st:Nat
 d:Nat
 B:List (Nat × ao)
 al:List ao->Nat->List (Nat × Nat × ao)
 ent:List ao->List bG
 ob0:Ob
 ob1:List ao->Ob
 RG:List ao->Prop
 onC:List Nat
 onA:List Nat
 H0:au
 n0:Nat
 K:List bG
 ids:List Id
def mo.Inv (g:mo) (L:Array Bool) (s:AS):Prop:=
 L.size=g.m/\(∀ j ∈ g.onC,bH L j->bH L g.c)/\(∀ j ∈ g.onA,bH L j->bH L g.a)/\∃ (G:List ao) (A:Nat),Old s.1 g.B/\Told L s.1 (g.al G A)/\(bH L g.c->g.RG G) /\
  Mem g.H0 g.n0 g.K g.ids (g.ent G) (A,g.d) g.ob0 (g.ob1 G) (L.getD g.c false) (L.getD g.a false) (L.getD g.st false) s.2.1 s.2.2
section
variable {P:Program} {N:Nat} {ops:Array Oper} {g:mo}
theorem Mem.sep {H0 H:au} {n0 n:Nat} {K ent:List bG} {ids:List Id} {w:Id} {ob0 ob1:Ob} {dc da ds:Bool} (h:Mem H0 n0 K ids ent w ob0 ob1 dc da ds H n):Sep H n K ids:=by
 have:=h.1;have h1:Sep H n K ((if da then [w] else [])++ids):=by
  cases dc
  ·simpa using this
  ·exact Sep.right (K1:=ent) this
 exact Sep.sub h1 fun i hi=>by simp[hi]
theorem mo.det {i m c a st:Nat} {o:Oper} (hi:ops.toList[i]?=some o) (hn:(g.m,g.c,g.a,g.st)=(m,c,a,st)) (hk:(decide (i<m) && decide (i ≠ c/\i ≠ a/\i ≠ st))=true) (hg:o.guard=none)
  (hs:∀ L O H n G A,Old O g.B->Told L O (g.al G A)->(∀ e ∈ o.after,Region.binds .any e=true->bH L e.on)->(bH L g.c->g.RG G)->(∀ j ∈ g.onC,bH L j->bH L g.c)->(∀ j ∈ g.ids,H j=g.H0 j)->Sep H n g.K g.ids ->
   ∃ v,aE P N o (loc o.op O) H n (rC v H n)/\∀ q ∈ g.al G A,q.1=i->o.dst=some q.2.1/\q.2.2=v)
  (hB:∀ q ∈ g.B,o.dst ≠ some q.1:=by simp) (hF:∀ G A,∀ q ∈ g.al G A,o.dst=some q.2.1->q.1=i:=by intro G' A';simp)
  (hc:i ∈ g.onC->∃ e ∈ o.after,Region.binds .any e=true/\(e.on=g.c\/e.on ∈ g.onC):=by simp) (ha:i ∈ g.onA->∃ e ∈ o.after,Region.binds .any e=true/\(e.on=g.a\/e.on ∈ g.onA):=by simp):iV P N ops g.Inv i:=by
 simp only[Prod.mk.injEq] at hn;obtain⟨rfl,rfl,rfl,rfl⟩:=hn;simp only[Bool.and_eq_true,decide_eq_true_eq] at hk;obtain⟨hm,hne⟩:=hk;rw[Array.getElem?_toList] at hi;intro L s hI hr;obtain⟨hsz,hoc,hoa,G,A,hO,hT,hG,hM⟩:=hI;obtain⟨hu,o',ho',hdep⟩:=mem_ready.1 hr;rw[hi] at ho';cases ho';refine⟨o,hi,hg,?_⟩;obtain⟨v,hop,hv⟩:=hs L s.1 s.2.1 s.2.2 G A hO hT (fun e he hb=>hdep e he hb) hG hoc hM.2.1 hM.sep;apply hop.mono;rintro _ _ _ ⟨rfl,rfl,rfl⟩;refine⟨by simpa using hsz,fun j hj hd=>?_,fun j hj hd=>?_,G,A,hO.put hB,hT.put (fun q hq _ _=>hq) (hF G A) hv,fun hd=>hG (hd.set.resolve_left (Ne.symm hne.1)),?_⟩
 ·rcases hd.set with rfl | hd
  ·obtain⟨e,he,hb,h1 | h1⟩:=hc hj
   ·exact bH.eX (h1 ▸ hdep e he hb)
   ·exact bH.eX (hoc _ h1 (hdep e he hb))
  ·exact bH.eX (hoc j hj hd)
 ·rcases hd.set with rfl | hd
  ·obtain⟨e,he,hb,h1 | h1⟩:=ha hj
   ·exact bH.eX (h1 ▸ hdep e he hb)
   ·exact bH.eX (hoa _ h1 (hdep e he hb))
  ·exact bH.eX (hoa j hj hd)
 ·rw[getD_set_ne false hne.1,getD_set_ne false hne.2.1,getD_set_ne false hne.2.2];exact hM
theorem mo.call {d:Option Tmp} {fo:Operand} {args:Array Operand} {ats:Array TypeId} {ty:TypeId} {pos:String} {af:Array Edge} (hi:ops.toList[g.c]?=some ⟨d,.call ⟨.value fo,args,ats⟩,ty,pos,af,none⟩) {m c a st:Nat} (hn:(g.m,g.c,g.a,g.st)=(m,c,a,st)) (hk:(decide (c<m) && decide (c ≠ a/\c ≠ st))=true)
  {R:ao->Prop} {f':FuncId} {sh:Sh} (hown:∃ bX,bE P f' bX sh R/\∀ L O H n G A,Old O g.B->Told L O (g.al G A)->(∀ e ∈ af,Region.binds .any e=true->bH L e.on)->(∀ j ∈ g.ids,H j=g.H0 j)->Sep H n g.K g.ids->O.ev fo = .fn (.func f') [] []/\cD H n (args.toList.map O.ev) bX) (cM:aV P f')
  (hun:∀ H n v r ids,Sep H n ((sh,v,r)::g.K) ids->R r->∃ G,g.RG G/\Sep H n (g.ent G++g.K) ids/\∀ A,∀ q ∈ g.al G A,q.1=g.c->d=some q.2.1/\q.2.2=v)
  (hB:∀ q ∈ g.B,d ≠ some q.1:=by simp) (hF:∀ G A,∀ q ∈ g.al G A,d=some q.2.1->q.1=g.c:=by intro G' A';simp) (hFG:∀ G G' A,∀ q ∈ g.al G' A,q.1 ≠ g.c->q.1 ∉ g.onC->q ∈ g.al G A:=by intro G1 G' A';simp) (hcc:g.c ∉ g.onC:=by simp) (hca:g.c ∉ g.onA:=by simp) (hst:g.st ∈ g.onC:=by simp):iV P N ops g.Inv g.c:=by
 simp only[Prod.mk.injEq] at hn;obtain⟨rfl,rfl,rfl,rfl⟩:=hn;simp only[Bool.and_eq_true,decide_eq_true_eq] at hk;obtain⟨hm,hne⟩:=hk;rw[Array.getElem?_toList] at hi;intro L s hI hr;obtain⟨hsz,hoc,hoa,G,A,hO,hT,hG,hM⟩:=hI;obtain⟨hu,o',ho',hdep⟩:=mem_ready.1 hr;rw[hi] at ho';cases ho';have hnd:¬ bH L g.c:=(gR (by omega)).2 hu;have hncd:∀ j ∈ g.onC,¬ bH L j:=fun j hj hd=>hnd (hoc j hj hd)
 refine⟨_,hi,rfl,?_⟩;obtain⟨bX,hO',har⟩:=hown;obtain⟨hfo,hargs⟩:=har L s.1 s.2.1 s.2.2 G A hO hT (fun e he hb=>hdep e he hb) hM.2.1 hM.sep;have hcf:L.getD g.c false=false:=by simpa[bH] using hnd
 have hsf:L.getD g.st false=false:=by simpa[bH] using hncd g.st hst
 obtain⟨m1,m2,m3,m4⟩:=hM;rw[hcf,if_neg (by simp),List.nil_append] at m1;refine (aE.rj (by rw[oM.2];exact hfo) cM (by rw[oM.1];exact hargs) hO' m1).mono ?_;rintro v1 H1 U ⟨r,h1,h2,h3,h4⟩;obtain⟨G',hRG,hS,hq⟩:=hun _ _ _ _ _ h1 h2;refine⟨by simpa using hsz,fun j hj hd=>eE (by omega),fun j hj hd=>?_,G',A,hO.put hB,hT.put (fun q hq h5 h6=>hFG G G' A q hq h5 fun h7=>hncd _ h7 h6) (hF G' A) (hq A),fun _=>hRG,?_⟩
 ·rcases hd.set with rfl | hd
  ·exact absurd hj hca
  ·exact bH.eX (hoa j hj hd)
 ·rw[show (L.setIfInBounds g.c true).getD g.c false=true from eE (by omega),getD_set_ne false hne.1,getD_set_ne false hne.2,hsf];rw[hsf] at m4;refine⟨by simpa using hS,fun i hi'=>(h4 i (by simp[hi'])).trans (m2 i hi'),Nat.le_trans m3 h3,fun hda=>⟨(m4 hda).1,?_⟩⟩;simp only[hda,if_true] at h4;exact (h4 (A,g.d) (by simp)).trans (m4 hda).2
theorem mo.alloc {Ty:Types} (hT':aN P Ty) {t:TypeId} {ti:TI} {ty:TypeId} {pos:String} {af:Array Edge} (hi:ops.toList[g.a]?=some ⟨some g.d,.alloc t,ty,pos,af,none⟩) (hti:Ty t=some ti) (hob:g.ob0=⟨ti.zero.length,[ti.zero.map .v]⟩) {m c a st:Nat} (hn:(g.m,g.c,g.a,g.st)=(m,c,a,st)) (hk:(decide (a<m) && decide (a ≠ c/\a ≠ st))=true)
  (hB:∀ q ∈ g.B,g.d ≠ q.1:=by simp) (hF:∀ G A,∀ q ∈ g.al G A,g.d=q.2.1->q.1=g.a:=by intro G' A';simp) (hFA:∀ G A A',∀ q ∈ g.al G A',q.1 ≠ g.a->q.1 ∉ g.onA->q ∈ g.al G A:=by intro G' A1 A2;simp) (haa:g.a ∉ g.onA:=by simp) (hac:g.a ∉ g.onC:=by simp) (hst:g.st ∈ g.onA:=by simp)
  (hv:∀ G A,∀ q ∈ g.al G A,q.1=g.a->g.d=q.2.1/\q.2.2 = .ptr (A,g.d) 1 0 0:=by intro G' A';simp):iV P N ops g.Inv g.a:=by
 simp only[Prod.mk.injEq] at hn;obtain⟨rfl,rfl,rfl,rfl⟩:=hn;simp only[Bool.and_eq_true,decide_eq_true_eq] at hk;obtain⟨hm,hne⟩:=hk;rw[Array.getElem?_toList] at hi;intro L s hI hr;obtain⟨hsz,hoc,hoa,G,A,hO,hT,hG,hM⟩:=hI;obtain⟨hu,o',ho',hdep⟩:=mem_ready.1 hr;rw[hi] at ho';cases ho';have hnd:¬ bH L g.a:=(gR (by omega)).2 hu;have hncd:∀ j ∈ g.onA,¬ bH L j:=fun j hj hd=>hnd (hoa j hj hd)
 refine⟨_,hi,rfl,?_⟩;have haf:L.getD g.a false=false:=by simpa[bH] using hnd
 have hsf:L.getD g.st false=false:=by simpa[bH] using hncd g.st hst
 obtain⟨m1,m2,m3,m4⟩:=hM;rw[haf] at m1;simp only[Bool.false_eq_true,if_false,List.nil_append] at m1;refine (lK hT' hti).mono ?_;rintro _ _ _ ⟨rfl,rfl,rfl⟩;refine⟨by simpa using hsz,fun j hj hd=>?_,fun j hj hd=>eE (by omega),G,s.2.2,hO.put (fun q hq e=>hB q hq (Option.some.inj e)),hT.put (fun q hq h5 h6=>hFA G A s.2.2 q hq h5 fun h7=>hncd _ h7 h6) (fun q hq e=>hF G _ q hq (Option.some.inj e)) (fun q hq e=>⟨congrArg some (hv G _ q hq e).1,(hv G _ q hq e).2⟩),fun hd=>hG (hd.set.resolve_left (Ne.symm hne.1)),?_⟩
 ·rcases hd.set with rfl | hd
  ·exact absurd hj hac
  ·exact bH.eX (hoc j hj hd)
 ·rw[show (L.setIfInBounds g.a true).getD g.a false=true from eE (by omega),getD_set_ne false hne.1,getD_set_ne false hne.2,hsf];refine⟨?_,fun i hi'=>?_,Nat.le_succ_of_le m3,fun _=>⟨m3,by simp[au.df,hob]⟩⟩
  ·simpa using Sep.var (d:=g.d) (o:=⟨ti.zero.length,[ti.zero.map .v]⟩) m1
  ·exact (au.ay _ _ (by rintro rfl;have:=m1.1 _ hi';simp at this)).trans (m2 i hi')
theorem mo.store {Ty:Types} (hT':aN P Ty) {t:TypeId} {x y:Operand} {ty:TypeId} {pos:String} {af:Array Edge} (hi:ops.toList[g.st]?=some ⟨none,.store t x y,ty,pos,af,none⟩) {m c a st:Nat} (hn:(g.m,g.c,g.a,g.st)=(m,c,a,st)) (hk:(decide (st<m) && decide (st ≠ c/\st ≠ a))=true) (hids:∀ i ∈ g.ids,i.1<g.n0)
  (hc:∃ e ∈ af,Region.binds .any e=true/\(e.on=g.c\/e.on ∈ g.onC)) (ha:∃ e ∈ af,Region.binds .any e=true/\(e.on=g.a\/e.on ∈ g.onA))
  (hs:∀ L O H G A,Old O g.B->Told L O (g.al G A)->(∀ e ∈ af,Region.binds .any e=true->bH L e.on)->g.RG G->H (A,g.d)=some g.ob0->bf (Ty t) (O.ev x) (aJ (O.ev y)) H=some (H.set (A,g.d) (g.ob1 G))) (hF:∀ G A,∀ q ∈ g.al G A,q.1 ≠ g.st:=by intro G' A';simp):iV P N ops g.Inv g.st:=by
 simp only[Prod.mk.injEq] at hn;obtain⟨rfl,rfl,rfl,rfl⟩:=hn;simp only[Bool.and_eq_true,decide_eq_true_eq] at hk;obtain⟨hm,hne⟩:=hk;rw[Array.getElem?_toList] at hi;intro L s hI hr;obtain⟨hsz,hoc,hoa,G,A,hO,hT,hG,hM⟩:=hI;obtain⟨hu,o',ho',hdep⟩:=mem_ready.1 hr;rw[hi] at ho';cases ho';have hnd:¬ bH L g.st:=(gR (by omega)).2 hu;have hsf:L.getD g.st false=false:=by simpa[bH] using hnd
 have hdc:bH L g.c:=by
  obtain⟨e,he,hb,h1 | h1⟩:=hc
  ·exact h1 ▸ hdep e he hb
  ·exact hoc _ h1 (hdep e he hb)
 have hda:bH L g.a:=by
  obtain⟨e,he,hb,h1 | h1⟩:=ha
  ·exact h1 ▸ hdep e he hb
  ·exact hoa _ h1 (hdep e he hb)
 refine⟨_,hi,rfl,?_⟩;obtain⟨m1,m2,m3,m4⟩:=hM;rw[hdc,hda] at m1;simp only[if_true] at m1;have hw:=(m4 hda).2;rw[hsf] at hw;simp only[Bool.false_eq_true,if_false] at hw;have hst:=hs L s.1 s.2.1 G A hO hT (fun e he hb=>hdep e he hb) (hG hdc) hw;have hnw:(A,g.d) ∉ g.ids:=fun hm'=>by have h1:=(m4 hda).1;have h2:=hids _ hm';simp only at h1 h2;omega
 refine (bN (P:=P) (N:=N) (o:=⟨none,.store t x y,ty,pos,af,none⟩) (v:=.undef) (H':=s.2.1.set (A,g.d) (g.ob1 G)) (n':=s.2.2) hT' (by rw[bP];simp only[aK,hst])).mono ?_;rintro _ _ _ ⟨rfl,rfl,rfl⟩;refine⟨by simpa using hsz,fun j hj hd=>bH.eX hdc,fun j hj hd=>bH.eX hda,G,A,Old.put (d:=none) (v:=.undef) hO (fun q hq e=>by cases e),Told.put (d:=none) (v:=.undef) hT (fun q hq _ _=>hq) (fun q hq e=>by cases e) (fun q hq e=>absurd e (hF G A q hq)),fun hd=>hG hdc,?_⟩;rw[getD_set_ne false hne.1,getD_set_ne false hne.2,hdc,hda,show (L.setIfInBounds g.st true).getD g.st false=true from eE (by omega)];refine⟨Sep.fv (by simpa using m1) (by simp),fun i hi'=>?_,m3,fun _=>⟨(m4 hda).1,by simp[au.df]⟩⟩;exact (au.ay _ _ (by rintro rfl;exact hnw hi')).trans (m2 i hi')
theorem mo.ri {d:Option Tmp} {fo:Operand} {args:Array Operand} {ats:Array TypeId} {ty:TypeId} {pos:String} {af:Array Edge} (hi:ops.toList[g.c]?=some ⟨d,.call ⟨.value fo,args,ats⟩,ty,pos,af,none⟩) {m c a st:Nat} (hn:(g.m,g.c,g.a,g.st)=(m,c,a,st)) (hk:(decide (c<m) && decide (c ≠ a/\c ≠ st))=true) (he0:∀ G,g.ent G=[]) (hR:∀ G,g.RG G)
  (hs:∀ L O H n G A,Old O g.B->Told L O (g.al G A)->(∀ e ∈ af,Region.binds .any e=true->bH L e.on)->(∀ j ∈ g.ids,H j=g.H0 j)->Sep H n g.K g.ids ->
   ∃ v,aE P N ⟨d,.call ⟨.value fo,args,ats⟩,ty,pos,af,none⟩ (loc (.call ⟨.value fo,args,ats⟩) O) H n (rC v H n)/\∀ q ∈ g.al G A,q.1=g.c->d=some q.2.1/\q.2.2=v)
  (hB:∀ q ∈ g.B,d ≠ some q.1:=by simp) (hF:∀ G A,∀ q ∈ g.al G A,d=some q.2.1->q.1=g.c:=by intro G' A';simp) (hca:g.c ∉ g.onA:=by simp):iV P N ops g.Inv g.c:=by
 simp only[Prod.mk.injEq] at hn;obtain⟨rfl,rfl,rfl,rfl⟩:=hn;simp only[Bool.and_eq_true,decide_eq_true_eq] at hk;obtain⟨hm,hne⟩:=hk;rw[Array.getElem?_toList] at hi;intro L s hI hr;obtain⟨hsz,hoc,hoa,G,A,hO,hT,hG,hM⟩:=hI;obtain⟨hu,o',ho',hdep⟩:=mem_ready.1 hr;rw[hi] at ho';cases ho';refine⟨_,hi,rfl,?_⟩;obtain⟨v,hop,hv⟩:=hs L s.1 s.2.1 s.2.2 G A hO hT (fun e he hb=>hdep e he hb) hM.2.1 hM.sep;apply hop.mono;rintro _ _ _ ⟨rfl,rfl,rfl⟩;refine⟨by simpa using hsz,fun j hj hd=>eE (by omega),fun j hj hd=>?_,G,A,Old.put hO hB,Told.put hT (fun q hq _ _=>hq) (hF G A) hv,fun _=>hR G,?_⟩
 ·rcases hd.set with rfl | hd
  ·exact absurd hj hca
  ·exact bH.eX (hoa j hj hd)
 ·rw[getD_set_ne false hne.1,getD_set_ne false hne.2];obtain⟨m1,m2,m3,m4⟩:=hM;refine⟨?_,m2,m3,m4⟩;rw[he0] at m1 ⊢;simpa using m1
theorem iV.none {Inv:Array Bool->AS->Prop} {i:Nat} (h:ops[i]?=none):iV P N ops Inv i:=fun L s hI hr=>by
 obtain⟨_,o,ho,_⟩:=mem_ready.1 hr;rw[h] at ho;cases ho
theorem ib {m j:Nat}:¬ bH (Array.replicate m false) j:=by
 simp only[bH,Array.getD_eq_getD_getElem?,Array.getElem?_replicate]
 split<;>simp
theorem mo.init {O:Env} (hB:Old O g.B) (hs:Sep g.H0 g.n0 g.K g.ids):g.Inv (Array.replicate g.m false) (O,g.H0,g.n0):=by
 have hf:∀ j,(Array.replicate g.m false).getD j false=false:=fun j=>by simpa[bH] using ib (m:=g.m) (j:=j)
 refine⟨by simp,fun j _ hd=>absurd hd ib,fun j _ hd=>absurd hd ib,[],0,hB,fun q _ hd=>absurd hd ib,fun hd=>absurd hd ib,?_⟩;rw[hf,hf,hf];exact⟨by simpa using hs,fun _ _=>rfl,Nat.le_refl _,fun h=>by cases h⟩
def acycR (ops:Array Oper):Bool:=(List.range ops.size).all fun i=>match ops[i]? with
 | some o=>o.after.all fun e => !(Region.binds .any e) || decide (e.on<i)
 | none=>true
theorem mo.fin (ha:acycR ops=true) (hm:ops.size=g.m) (hc:g.c<g.m/\g.a<g.m/\g.st<g.m) (hF:∀ G A,∀ q ∈ g.al G A,q.1<g.m) {L:Array Bool} {s:AS} (hI:g.Inv L s) (hr:Region.ready .any ops L=[]) :
  ∃ (G:List ao) (A:Nat),Old s.1 g.B/\vV s.1 (g.al G A)/\g.RG G/\Sep s.2.1 s.2.2 (g.ent G++g.K) ((A,g.d)::g.ids)/\(∀ i ∈ g.ids,s.2.1 i=g.H0 i)/\g.n0<=s.2.2/\g.n0<=A/\s.2.1 (A,g.d)=some (g.ob1 G):=by
 obtain⟨hsz,hoc,hoa,G,A,hO,hT,hG,hM⟩:=hI;have all:∀ (q:Nat) (j:Nat),j<=q->j<g.m->bH L j:=by
  intro q
  induction q with
  | zero=>
   intro j hj hlt;refine Classical.byContradiction fun hn=>?_
   have hu:=(gR (by omega)).1 hn;obtain⟨o,ho⟩:∃ o,ops[j]?=some o:=⟨ops[j]'(by omega),by simp[hm,hlt]⟩
   have hin:j ∈ Region.ready .any ops L:=mem_ready.2 ⟨hu,o,ho,fun e he hb=>by
    have h1:=List.all_eq_true.1 ha j (List.mem_range.2 (by omega));rw[ho] at h1;have h2:=Array.all_eq_true'.1 h1 e he;simp only[hb,Bool.not_true,Bool.false_or,decide_eq_true_eq] at h2;omega⟩
   rw[hr] at hin;cases hin
  | succ q ih=>
   intro j hj hlt;refine Classical.byContradiction fun hn=>?_
   have hu:=(gR (by omega)).1 hn;obtain⟨o,ho⟩:∃ o,ops[j]?=some o:=⟨ops[j]'(by omega),by simp[hm,hlt]⟩
   have hin:j ∈ Region.ready .any ops L:=mem_ready.2 ⟨hu,o,ho,fun e he hb=>by
    have h1:=List.all_eq_true.1 ha j (List.mem_range.2 (by omega));rw[ho] at h1;have h2:=Array.all_eq_true'.1 h1 e he;simp only[hb,Bool.not_true,Bool.false_or,decide_eq_true_eq] at h2;exact ih e.on (by omega) (by omega)⟩
   rw[hr] at hin;cases hin
 have dc:=all _ g.c (Nat.le_refl _) hc.1;have da:=all _ g.a (Nat.le_refl _) hc.2.1;have ds:=all _ g.st (Nat.le_refl _) hc.2.2;obtain⟨m1,m2,m3,m4⟩:=hM;rw[dc,da] at m1;have h4:=m4 da;rw[ds] at h4;refine⟨G,A,hO,fun q hq=>hT q hq (all _ _ (Nat.le_refl _) (hF G A q hq)),hG dc,by simpa using m1,m2,m3,h4.1,by simpa using h4.2⟩
end
def gv (G:List ao) (i:Nat):ao:=G.getD i .undef
@[simp] theorem gv_zero (a : ao) (l : List ao) : gv (a :: l) 0 = a := rfl
@[simp] theorem gv_succ (a : ao) (l : List ao) (i : Nat) : gv (a :: l) (i + 1) = gv l i := by simp [gv]
theorem Old.nil {O:Env}:Old O []:=fun q hq=>by cases hq
theorem Old.cons {O:Env} {t:Nat} {v:ao} {B:List (Nat × ao)} (h:O t=v) (hb:Old O B):Old O ((t,v)::B):=fun q hq=>by
 rcases List.mem_cons.1 hq with rfl | hq
 ·exact h
 ·exact hb q hq
theorem aE.callD2 {P:Program} {N:Nat} {O:Env} {H:au} {n:Nat} {d:Option Tmp} {g:Operand} {args:Array Operand} {ats:Array TypeId} {ty:TypeId} {pos:String} {af:Array Edge} {gu:Option (Nat × Bool)} {v:ao} {f:FuncId} {xs bX:List ao}
  (h:aA P f bX (fun r=>r=v)) (cM:aV P f) (ha:cD H n xs bX) (hg:O.ev g = .fn (.func f) [] []) (has:args.toList.map O.ev=xs) :
  aE P N ⟨d,.call ⟨.value g,args,ats⟩,ty,pos,af,gu⟩ (loc (.call ⟨.value g,args,ats⟩) O) H n (rC v H n):=aE.wk hg cM (has ▸ ha) h
end Go.Ab
namespace Go.Ab
variable [Inhabited cn]
theorem aW.focus {R:List ao->List ao->List Id->Prop}:∀ {as1 bs:List (List ao)} {S:List Id} {k:Nat},aW R as1 bs S->k<as1.length ->
  ∃ A e B A' f B' S1 T S2,as1=A++e::B/\bs=A'++f::B'/\A.length=k/\A'.length=k/\aW R A A' S1/\R e f T/\aW R B B' S2/\S=S1++(T++S2)/\(∀ i ∈ S1,i ∉ T++S2)/\∀ i ∈ T,i ∉ S2
 | [],_,_,_,_,hk=>by simp at hk
 | _::_,[],_,_,h,_=>h.elim
 | a::as1,b::bs,S,0,h,_=>by
  obtain⟨T1,T2,h1,h2,h3,h4⟩:=h;exact⟨[],a,as1,[],b,bs,[],T1,T2,rfl,rfl,rfl,rfl,rfl,h1,h2,h3,by simp,h4⟩
 | a::as1,b::bs,S,k+1,h,hk=>by
  obtain⟨T1,T2,h1,h2,rfl,h4⟩:=h;obtain⟨A,e,B,A',f,B',S1,T,S2,rfl,rfl,l1,l2,r1,r2,r3,rfl,d1,d2⟩:=aW.focus h2 (by simpa using hk);refine⟨a::A,e,B,b::A',f,B',T1++S1,T,S2,rfl,rfl,by simp[l1],by simp[l2],⟨T1,S1,h1,r1,rfl,fun i hi hm=>h4 i hi (by simp[hm])⟩,r2,r3,by simp,fun i hi hm=>?_,d2⟩;rcases List.mem_append.1 hi with hi | hi
  ·exact h4 i hi (by simp only[List.mem_append] at hm ⊢;exact .inr hm)
  ·exact d1 i hi hm
section
variable {H:au} {n:Nat} {K K1 K2:List bG} {ids:List Id} {l:List Sh} {v:ao} {es:List (List ao)} {q:Nat}
theorem Sep.vN {x:bG} (h:Sep H n (x::(K1++K2)) ids):Sep H n (K1++x::K2) ids:=by
 have h1:Sep H n (K1++(K2++[x])) ids:=by
  have:=Sep.swap (K1:=[x]) (K2:=K1++K2) h;simpa using this
 have h2:Sep H n (K2++x::K1) ids:=by
  have:=Sep.swap h1;simpa using this
 have h3:Sep H n ((x::K2)++K1) ids:=by
  have:=Sep.front h2;simpa using this
 exact Sep.swap h3
theorem Sep.row {bs:List ao} (h:Sep H n ((.s l,v,.list true es)::K) ids) (he:es[q]?=some bs) :
  ∃ id els row W,v = .arr id es.length 0 es.length/\H id=some ⟨l.length,els⟩/\els.length=es.length/\els[q]?=some row/\row.length=l.length/\bs.length=l.length/\id ∈ W/\(∀ i ∈ ids,i ∈ W)/\id ∉ ids/\Sep H n (dM l row bs) W /\
   ∀ H1 U row' bs',Sep H1 U (dM l row' bs') W->row'.length=l.length->bs'.length=l.length->(∀ i ∈ W,i ≠ id->H1 i=H i)->H1 id=some ⟨l.length,els.set q row'⟩->n<=U->Sep H1 U ((.s l,v,.list true (es.set q bs'))::K) ids:=by
 obtain⟨h0,S,h1,h2⟩:=h;simp only[List.map_cons,Go.Ab.Row,Go.Ab.Tr] at h1;obtain⟨S1,S2,h3,h4,rfl,h5⟩:=h1;have hq:q<es.length:=(List.getElem?_eq_some_iff.1 he).1;rcases h3 with ⟨rfl,E,rfl⟩ | ⟨id,els,es',T,rfl,E,q3,q4,q5,rfl⟩
 ·injection E with _ E
  subst E;simp at hq
 ·injection E with _ E
  subst E;have hel:=q4.len;obtain⟨A,row,B,A',f,B',SA,SR,SB,rfl,rfl,lA,lA',rA,rR,rB,rfl,d1,d2⟩:=aW.focus (k:=q) q4 (by omega);have hf:f=bs:=by
   rw[List.getElem?_append_right (by omega),lA',Nat.sub_self] at he;simpa using he
  subst hf;have hrl:=rR.len;obtain⟨z1,z2,z3⟩:=iD hrl.1 hrl.2;simp only[List.mem_append,List.mem_cons,not_or] at h2 h5 q5 d1 d2;refine⟨id,A++row::B,row,ids++(id::(SA++(SB++S2))),by simp only[hel],q3,hel,by rw[List.getElem?_append_right (by omega),lA,Nat.sub_self];rfl,hrl.1,hrl.2,by simp,fun i hi=>by simp[hi],(h2 id (.inl (.inl rfl))).2,?_,?_⟩
  ·refine⟨fun i hi=>?_,SR,by rw[z1,z2,z3];exact rR,fun i hi=>⟨(h2 i (.inl (.inr (.inr (.inl hi))))).1,?_⟩⟩
   ·simp only[List.mem_append,List.mem_cons] at hi;rcases hi with hi | hi | hi | hi | hi
    ·exact h0 i hi
    ·exact (h2 i (.inl (.inl hi))).1
    ·exact (h2 i (.inl (.inr (.inl hi)))).1
    ·exact (h2 i (.inl (.inr (.inr (.inr hi))))).1
    ·exact (h2 i (.inr hi)).1
   ·simp only[List.mem_append,List.mem_cons,not_or];refine⟨(h2 i (.inl (.inr (.inr (.inl hi))))).2,?_,fun hm=>(d1 i hm).1 hi,fun hm=>d2 i hi hm,fun hm=>h5 i (.inr (.inr (.inl hi))) hm⟩;rintro rfl;exact q5.2.1 hi
  ·intro H1 U row' bs' hs lr lb hfr hid hn;obtain⟨y1,y2,y3⟩:=iD lr lb;obtain⟨k0,X,k1,k2⟩:=hs;rw[y1,y2,y3] at k1;simp only[List.mem_append,List.mem_cons,not_or] at k2 hfr;have nid:∀ i,i ∈ SA\/i ∈ SB\/i ∈ S2->i ≠ id:=by
    rintro i (hi | hi | hi) rfl
    ·exact q5.1 hi
    ·exact q5.2.2 hi
    ·exact h5 i (.inl rfl) hi
   have fr:∀ i,i ∈ SA\/i ∈ SB\/i ∈ S2->H1 i=H i:=fun i hi=>hfr i (.inr (.inr hi)) (nid i hi)
   have hrows:aW (Row H1 l) (A++row'::B) (A'++bs'::B') (SA++(X++SB)):=by
    refine aW.append (rA.mono fun e f T hr hs=>hr.frame fun i hi=>fr i (.inl (hs i hi))) ⟨X,SB,k1,rB.mono fun e f T hr hs=>hr.frame fun i hi=>fr i (.inr (.inl (hs i hi))),rfl,fun i hi hm=>(k2 i hi).2.2.2.2.1 hm⟩ (fun i hi hm=>?_);rcases List.mem_append.1 hm with hm | hm
    ·exact (k2 i hm).2.2.2.1 hi
    ·exact (d1 i hi).2 hm
   have hset:(A++row::B).set q row'=A++row'::B:=by
    rw[List.set_append_right _ _ (by omega),lA,Nat.sub_self];rfl
   have hset':(A'++f::B').set q bs'=A'++bs'::B':=by
    rw[List.set_append_right _ _ (by omega),lA',Nat.sub_self];rfl
   rw[hset] at hid;refine⟨fun i hi=>by have:=h0 i hi;omega,(id::(SA++(X++SB)))++S2,?_,fun i hi=>?_⟩
   ·simp only[List.map_cons,Go.Ab.Row,Go.Ab.Tr];refine⟨id::(SA++(X++SB)),S2,.inr ⟨id,A++row'::B,A'++bs'::B',SA++(X++SB),by simp,by rw[hset'],hid,hrows,?_,rfl⟩,h4.frame fun i hi=>fr i (.inr (.inr hi)),rfl,fun i hi hm=>?_⟩
    ·simp only[List.mem_append,not_or];exact⟨q5.1,fun hm=>(k2 id hm).2.2.1 rfl,q5.2.2⟩
    ·simp only[List.mem_cons,List.mem_append] at hi;rcases hi with rfl | hi | hi | hi
     ·exact h5 _ (.inl rfl) hm
     ·exact h5 i (.inr (.inl hi)) hm
     ·exact (k2 i hi).2.2.2.2.2 hm
     ·exact h5 i (.inr (.inr (.inr hi))) hm
   ·simp only[List.mem_cons,List.mem_append] at hi;rcases hi with (rfl | hi | hi | hi) | hi
    ·have:=h2 _ (.inl (.inl rfl));exact⟨by omega,this.2⟩
    ·have:=h2 i (.inl (.inr (.inl hi)));exact⟨by omega,this.2⟩
    ·exact⟨(k2 i hi).1,(k2 i hi).2.1⟩
    ·have:=h2 i (.inl (.inr (.inr (.inr hi))));exact⟨by omega,this.2⟩
    ·have:=h2 i (.inr hi);exact⟨by omega,this.2⟩
theorem tS {α:Type} {l:List α} {k:Nat} {x:α} (h:l[k]?=some x):l.set k x=l:=by
 obtain⟨hk,rfl⟩:=List.getElem?_eq_some_iff.1 h;exact List.set_getElem_self hk
theorem uH {α:Type} [Inhabited α] {f:α->List ao} {xs:List α} {i:Int} {x:α} {q:Nat} (hb:0<=i/\i<xs.length) (hx:x=at' xs i) (hq:q=i.toNat):(xs.map f)[q]?=some (f x):=by
 obtain⟨hlt,hg⟩:=lW hb hx;subst hq;simp[hlt,hg]
theorem Sep.rowF {α:Type} [Inhabited α] {f:α->List ao} {xs:List α} {x:α} {i:Int} (h:Sep H n ((.s l,v,.list true (xs.map f))::K) ids) (hb:0<=i/\i<xs.length) (hx:x=at' xs i) (hq:q=i.toNat) :
  ∃ id els row W,v = .arr id xs.length 0 xs.length/\H id=some ⟨l.length,els⟩/\els.length=xs.length/\els[q]?=some row/\row.length=l.length/\id ∈ W/\(∀ i ∈ ids,i ∈ W)/\id ∉ ids/\Sep H n (dM l row (f x)) W /\
   ∀ H1 U y,Sep H1 U (dM l row (f y)) W->(f y).length=l.length->(∀ i ∈ W,H1 i=H i)->n<=U->Sep H1 U ((.s l,v,.list true ((xs.set q y).map f))::K) ids:=by
 obtain⟨id,els,row,W,h1,h2,h3,h4,h5,h6,h7,h8,h9,h10,h11⟩:=h.row (uH hb hx hq);refine⟨id,els,row,W,by simpa using h1,h2,by simpa using h3,h4,h5,h7,h8,h9,h10,fun H1 U y k1 k2 k3 k4=>?_⟩;rw[List.map_set];exact h11 H1 U row (f y) k1 h5 k2 (fun i hi _=>k3 i hi) (by rw[k3 id h7,h2,tS h4]) k4
end
section
variable {P:Program} {f':FuncId} {N:Nat} {k:List Item} {Q:ao->au->Nat->Prop} {Ty:Types} {ops:Array Oper} {L:List Oper} {O:Env} {H:au} {n:Nat} {K:List bG} {ids:List Id} {l:List Sh} {o:Oper}
variable {α:Type} [Inhabited α] {id:Id} {g q off:Nat} {ix:Int} {i:TI} {b:Value} {xs:List α} {f:α->List ao} {x y:α}
end
end Go.Ab
namespace Go.Ab
open Go.Proofs
theorem zA {f:FuncId} {N:Nat} {k:List Item} {Q:ao -> au -> Nat -> Prop} {l:List Oper} {O:Env} {H:au} {n:Nat} {d:Option Tmp} {g:Operand} {args:Array Operand} {ats:Array TypeId} {ty:TypeId} {pos:String} {af:Array Edge} {R:ao -> Prop} {f':FuncId} {xs ys:List ao} {ops:List Oper}
 (h:aA prog f' ys R) (cM:aV prog f') (ha:cD H n xs ys) (has:args.toList.map O.ev=xs) (hk:∀ v,R v -> bI prog f N k Q Ty ops.toArray l (O.put d v) H n) (hN:ops.all (fun o=>cU N o.dst)=true:=by decide) (hl:(⟨d,.call ⟨.value g,args,ats⟩,ty,pos,af,none⟩::l:List Oper).all (fun o=>cU N o.dst)=true:=by decide) (hg:O.ev g=.fn (.func f') [] []:=by rfl):
 bg prog f N k Q ops.toArray (⟨d,.call ⟨.value g,args,ats⟩,ty,pos,af,none⟩::l) O H n:=bg.c8 aB h cM ha hN hl hg has hk
end Go.Ab
namespace Go.Ab
open Go.Proofs
theorem zW {f:FuncId} {N:Nat} {k:List Item} {Q:ao -> au -> Nat -> Prop} {l:List Oper} {O:Env} {H:au} {n:Nat} {K:List bG} {ids:List Id} {d:Option Tmp} {g:Operand} {args:Array Operand} {ats:Array TypeId} {ty:TypeId} {pos:String} {af:Array Edge} {R:ao -> Prop} {f':FuncId} {xs ys:List ao} {ops:List Oper} {sh:Sh}
 (h:bE prog f' ys sh R) (cM:aV prog f') (ha:cD H n xs ys) (hs:Sep H n K ids) (has:args.toList.map O.ev=xs) (hk:∀ v H1 U r,Sep H1 U ((sh,v,r)::K) ids -> R r -> n <= U -> (∀ i ∈ ids,H1 i=H i) -> bI prog f N k Q Ty ops.toArray l (O.put d v) H1 U) (hN:ops.all (fun o=>cU N o.dst)=true:=by decide) (hl:(⟨d,.call ⟨.value g,args,ats⟩,ty,pos,af,none⟩::l:List Oper).all (fun o=>cU N o.dst)=true:=by decide) (hg:O.ev g=.fn (.func f') [] []:=by rfl):
 bg prog f N k Q ops.toArray (⟨d,.call ⟨.value g,args,ats⟩,ty,pos,af,none⟩::l) O H n:=bg.rj aB h cM ha hs hN hl hg has hk
end Go.Ab
namespace Go.Ab
open Go.Proofs
theorem zS {f:FuncId} {N:Nat} {k:List Item} {Q:ao -> au -> Nat -> Prop} {O:Env} {H:au} {n:Nat} {id:Nat} {ops:List Oper} {y z:Code} (h:∀ k':List Item,(∀ O H n,I prog f N (.code y::.code z::k) O H n Q -> I prog f N k' O H n Q) -> bI prog f N k' Q Ty ops.toArray ops O H n) (hN:ops.all (fun o=>cU N o.dst)=true:=by decide):I prog f N (.code (.seq (.seq (.region id ops.toArray false) y) z)::k) O H n Q:=I.seq (zE h hN)
theorem zI {f:FuncId} {N:Nat} {k:List Item} {Q:ao -> au -> Nat -> Prop} {O:Env} {H:au} {n:Nat} {id j:Nat} {ops:List Oper} (h:∀ k':List Item,(∀ O H n,I prog f N k O H n Q -> I prog f N k' O H n Q) -> bI prog f N k' Q Ty ops.toArray ops O H n) (hN:ops.all (fun o=>cU N o.dst)=true:=by decide):I prog f N (.inBlock j::.code (.region id ops.toArray false)::k) O H n Q:=I.inBlock (zF h hN)
theorem zK {f:FuncId} {N:Nat} {k:List Item} {Q:ao -> au -> Nat -> Prop} {O:Env} {H:au} {n:Nat} {y z:Code} (h:I prog f N (.code y::.code z::k) O H n Q):I prog f N (.code .skip::.code (.seq y z)::k) O H n Q:=I.skip (I.seq h)
end Go.Ab
