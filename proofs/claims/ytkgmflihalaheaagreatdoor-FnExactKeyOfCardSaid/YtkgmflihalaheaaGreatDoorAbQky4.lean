/- Merged texts (4 of 16) of the proof that ends in Kyy: Ty X P So Sx. -/
import Derived.Test.YtkgmflihalaheaaGreatDoorAbQky3
import Derived.Test.YtkgmflihalaheaaGreatDoorProg
import Derived.KernelRfl
import Derived.Shelf.Sort.Plain
open Go.Proofs.Tryz
set_option linter.unusedSectionVars false
set_option linter.unusedSimpArgs false
set_option linter.unusedVariables false
namespace Go.Ab
open Go.Proofs
theorem cm.of {P:Program} {t:TypeId} {s b:Nat} {z:List Value} (h:(P.underlying t).isSome=true) (h2:(P.info? t).map (fun i=>(i.size,i.bytes,i.zero.map Value.cells))=some (s,b,some z.toArray)):cm P t ⟨(P.underlying t).getD .invalid,s,b,z⟩:=by
 refine⟨?_,?_⟩
 ·cases hu:P.underlying t with
  | none=>simp[hu] at h
  | some d=>rfl
 cases hi:P.info? t with
 | none=>simp[hi] at h2
 | some info=>
  simp only[hi,Option.map_some,Option.some.injEq,Prod.mk.injEq,Option.map_eq_some_iff] at h2;obtain⟨h3,h4,zv,h5,h6⟩:=h2;exact⟨info,zv,rfl,h3,h4,h5,h6⟩
noncomputable def qF:TI:=⟨(Tryz.prog.underlying 3).getD .invalid,1,8,[.int .i64 0]⟩
noncomputable def ty4:TI:=⟨(Tryz.prog.underlying 4).getD .invalid,1,1,[.bool false]⟩
noncomputable def ty5:TI:=⟨(Tryz.prog.underlying 5).getD .invalid,1,1,[.int .u8 0]⟩
noncomputable def AZ:TI:=⟨(Tryz.prog.underlying 9).getD .invalid,1,16,[.string ⟨#[]⟩]⟩
noncomputable def vR:TI:=⟨(Tryz.prog.underlying 22).getD .invalid,1,24,[.slice none 0 0]⟩
noncomputable def uG:TI:=⟨(Tryz.prog.underlying 23).getD .invalid,1,24,[.slice none 0 0]⟩
noncomputable def kX:TI:=⟨(Tryz.prog.underlying 24).getD .invalid,1,24,[.slice none 0 0]⟩
noncomputable def sc:TI:=⟨(Tryz.prog.underlying 25).getD .invalid,1,24,[.slice none 0 0]⟩
noncomputable def uz:TI:=⟨(Tryz.prog.underlying 26).getD .invalid,1,24,[.slice none 0 0]⟩
noncomputable def wH:TI:=⟨(Tryz.prog.underlying 28).getD .invalid,6,112,[.int .i64 0,.slice none 0 0,.slice none 0 0,.int .i64 0,.slice none 0 0,.slice none 0 0]⟩
noncomputable def wL:TI:=⟨(Tryz.prog.underlying 33).getD .invalid,1,24,[.slice none 0 0]⟩
noncomputable def tC:TI:=⟨(Tryz.prog.underlying 35).getD .invalid,1,24,[.slice none 0 0]⟩
noncomputable def uw:TI:=⟨(Tryz.prog.underlying 36).getD .invalid,1,24,[.slice none 0 0]⟩
noncomputable def tQ:TI:=⟨(Tryz.prog.underlying 38).getD .invalid,6,112,[.int .i64 0,.slice none 0 0,.slice none 0 0,.int .i64 0,.slice none 0 0,.slice none 0 0]⟩
noncomputable def uL:TI:=⟨(Tryz.prog.underlying 50).getD .invalid,3,32,[.string ⟨#[]⟩,.int .i64 0,.int .i64 0]⟩
noncomputable def tD:TI:=⟨(Tryz.prog.underlying 59).getD .invalid,3,32,[.string ⟨#[]⟩,.int .i64 0,.int .i64 0]⟩
noncomputable def uX:TI:=⟨(Tryz.prog.underlying 79).getD .invalid,3,40,[.int .i64 0,.int .i64 0,.slice none 0 0]⟩
noncomputable def tR:TI:=⟨(Tryz.prog.underlying 82).getD .invalid,2,24,[.string ⟨#[]⟩,.int .i64 0]⟩
noncomputable def vr:TI:=⟨(Tryz.prog.underlying 90).getD .invalid,2,24,[.string ⟨#[]⟩,.int .i64 0]⟩
noncomputable def vf:TI:=⟨(Tryz.prog.underlying 92).getD .invalid,3,40,[.int .i64 0,.int .i64 0,.slice none 0 0]⟩
noncomputable def nM:TI:=⟨(Tryz.prog.underlying 109).getD .invalid,9,184,[.int .i64 0,.slice none 0 0,.slice none 0 0,.int .i64 0,.slice none 0 0,.slice none 0 0,.slice none 0 0,.slice none 0 0,.slice none 0 0]⟩
noncomputable def nW:TI:=⟨(Tryz.prog.underlying 144).getD .invalid,10,208,[.slice none 0 0,.int .i64 0,.slice none 0 0,.slice none 0 0,.int .i64 0,.slice none 0 0,.slice none 0 0,.slice none 0 0,.slice none 0 0,.slice none 0 0]⟩
noncomputable def oZ:TI:=⟨(Tryz.prog.underlying 145).getD .invalid,1,24,[.slice none 0 0]⟩
noncomputable def pQ:TI:=⟨(Tryz.prog.underlying 184).getD .invalid,1,8,[.int .u64 0]⟩
noncomputable def tyL:List (Nat × TI):=[(3,qF),(4,ty4),(5,ty5),(9,AZ),(22,vR),(23,uG),(24,kX),(25,sc),(26,uz),(28,wH),(33,wL),(35,tC),(36,uw),(38,tQ),(50,uL),(59,tD),(79,uX),(82,tR),(90,vr),(92,vf),(109,nM),(144,nW),(145,oZ),(184,pQ)]
noncomputable def Ty:Types:=fun t=>(tyL.find? (fun p=>p.1 == t)).map (·.2)
theorem ok3:cm prog 3 qF:=cm.of (by kernel_rfl) (by kernel_rfl)
theorem Ty_3:Ty 3=some qF:=by kernel_rfl
theorem BD:qF.size=1:=rfl
theorem zU:qF.bytes=8:=rfl
theorem CP:qF.zero=[.int .i64 0]:=rfl
theorem Dt:qF.isAgg=false:=by kernel_rfl
theorem kd_3:kd Ty 3 = .int .i64:=by kernel_rfl
theorem ok4:cm prog 4 ty4:=cm.of (by kernel_rfl) (by kernel_rfl)
theorem Ty_4:Ty 4=some ty4:=by kernel_rfl
theorem Cf:ty4.size=1:=rfl
theorem zo:ty4.bytes=1:=rfl
theorem Cb:ty4.zero=[.bool false]:=rfl
theorem DX:ty4.isAgg=false:=by kernel_rfl
theorem kd_4:kd Ty 4 = .bool:=by kernel_rfl
theorem ok5:cm prog 5 ty5:=cm.of (by kernel_rfl) (by kernel_rfl)
theorem Ty_5:Ty 5=some ty5:=by kernel_rfl
theorem Bb:ty5.size=1:=rfl
theorem zj:ty5.bytes=1:=rfl
theorem BT:ty5.zero=[.int .u8 0]:=rfl
theorem DY:ty5.isAgg=false:=by kernel_rfl
theorem kd_5:kd Ty 5 = .int .u8:=by kernel_rfl
theorem ok9:cm prog 9 AZ:=cm.of (by kernel_rfl) (by kernel_rfl)
theorem Ty_9:Ty 9=some AZ:=by kernel_rfl
theorem CJ:AZ.size=1:=rfl
theorem yZ:AZ.bytes=16:=rfl
theorem Co:AZ.zero=[.string ⟨#[]⟩]:=rfl
theorem Dq:AZ.isAgg=false:=by kernel_rfl
theorem ue:kd Ty 9 = .string:=by kernel_rfl
theorem ok22:cm prog 22 vR:=cm.of (by kernel_rfl) (by kernel_rfl)
theorem Ty_22:Ty 22=some vR:=by kernel_rfl
theorem yq:vR.size=1:=rfl
theorem wQ:vR.bytes=24:=rfl
theorem zM:vR.zero=[.slice none 0 0]:=rfl
theorem Bo:vR.isAgg=false:=by kernel_rfl
theorem yo:kd Ty 22 = .slice uL:=by kernel_rfl
theorem ok23:cm prog 23 uG:=cm.of (by kernel_rfl) (by kernel_rfl)
theorem Ty_23:Ty 23=some uG:=by kernel_rfl
theorem yp:uG.size=1:=rfl
theorem wi:uG.bytes=24:=rfl
theorem zX:uG.zero=[.slice none 0 0]:=rfl
theorem B7:uG.isAgg=false:=by kernel_rfl
theorem xL:kd Ty 23 = .slice uX:=by kernel_rfl
theorem ok24:cm prog 24 kX:=cm.of (by kernel_rfl) (by kernel_rfl)
theorem Ty_24:Ty 24=some kX:=by kernel_rfl
theorem zz:kX.size=1:=rfl
theorem wS:kX.bytes=24:=rfl
theorem Ar:kX.zero=[.slice none 0 0]:=rfl
theorem Bz:kX.isAgg=false:=by kernel_rfl
theorem aO:kd Ty 24 = .slice qF:=by kernel_rfl
theorem ok25:cm prog 25 sc:=cm.of (by kernel_rfl) (by kernel_rfl)
theorem Ty_25:Ty 25=some sc:=by kernel_rfl
theorem yy:sc.size=1:=rfl
theorem wT:sc.bytes=24:=rfl
theorem AF:sc.zero=[.slice none 0 0]:=rfl
theorem Cg:sc.isAgg=false:=by kernel_rfl
theorem dp:kd Ty 25 = .slice AZ:=by kernel_rfl
theorem ok26:cm prog 26 uz:=cm.of (by kernel_rfl) (by kernel_rfl)
theorem Ty_26:Ty 26=some uz:=by kernel_rfl
theorem yI:uz.size=1:=rfl
theorem xj:uz.bytes=24:=rfl
theorem AD:uz.zero=[.slice none 0 0]:=rfl
theorem Cn:uz.isAgg=false:=by kernel_rfl
theorem xR:kd Ty 26 = .slice tR:=by kernel_rfl
theorem ok28:cm prog 28 wH:=cm.of (by kernel_rfl) (by kernel_rfl)
theorem Ty_28:Ty 28=some wH:=by kernel_rfl
theorem zC:wH.size=6:=rfl
theorem wz:wH.bytes=112:=rfl
theorem yP:wH.zero=[.int .i64 0,.slice none 0 0,.slice none 0 0,.int .i64 0,.slice none 0 0,.slice none 0 0]:=rfl
theorem CL:wH.isAgg=true:=by kernel_rfl
theorem kd_28:kd Ty 28 = .struct [(0,qF),(1,uG),(2,kX),(3,qF),(4,sc),(5,uz)]:=by kernel_rfl
theorem ok33:cm prog 33 wL:=cm.of (by kernel_rfl) (by kernel_rfl)
theorem Ty_33:Ty 33=some wL:=by kernel_rfl
theorem zd:wL.size=1:=rfl
theorem we:wL.bytes=24:=rfl
theorem AW:wL.zero=[.slice none 0 0]:=rfl
theorem Ct:wL.isAgg=false:=by kernel_rfl
theorem yg:kd Ty 33 = .slice tD:=by kernel_rfl
theorem ok35:cm prog 35 tC:=cm.of (by kernel_rfl) (by kernel_rfl)
theorem Ty_35:Ty 35=some tC:=by kernel_rfl
theorem AE:tC.size=1:=rfl
theorem xz:tC.bytes=24:=rfl
theorem AA:tC.zero=[.slice none 0 0]:=rfl
theorem BY:tC.isAgg=false:=by kernel_rfl
theorem cJ:kd Ty 35 = .slice vf:=by kernel_rfl
theorem ok36:cm prog 36 uw:=cm.of (by kernel_rfl) (by kernel_rfl)
theorem Ty_36:Ty 36=some uw:=by kernel_rfl
theorem zG:uw.size=1:=rfl
theorem xi:uw.bytes=24:=rfl
theorem zu:uw.zero=[.slice none 0 0]:=rfl
theorem C5:uw.isAgg=false:=by kernel_rfl
theorem eN:kd Ty 36 = .slice vr:=by kernel_rfl
theorem ok38:cm prog 38 tQ:=cm.of (by kernel_rfl) (by kernel_rfl)
theorem yb:Ty 38=some tQ:=by kernel_rfl
theorem yr:tQ.size=6:=rfl
theorem vH:tQ.bytes=112:=rfl
theorem zn:tQ.zero=[.int .i64 0,.slice none 0 0,.slice none 0 0,.int .i64 0,.slice none 0 0,.slice none 0 0]:=rfl
theorem BZ:tQ.isAgg=true:=by kernel_rfl
theorem kd_38:kd Ty 38 = .struct [(0,qF),(1,tC),(2,kX),(3,qF),(4,sc),(5,uw)]:=by kernel_rfl
theorem ok50:cm prog 50 uL:=cm.of (by kernel_rfl) (by kernel_rfl)
theorem Ty_50:Ty 50=some uL:=by kernel_rfl
theorem zH:uL.size=3:=rfl
theorem wc:uL.bytes=32:=rfl
theorem zD:uL.zero=[.string ⟨#[]⟩,.int .i64 0,.int .i64 0]:=rfl
theorem CO:uL.isAgg=true:=by kernel_rfl
theorem kd_50:kd Ty 50 = .struct [(0,AZ),(1,qF),(2,qF)]:=by kernel_rfl
theorem ok59:cm prog 59 tD:=cm.of (by kernel_rfl) (by kernel_rfl)
theorem Et:Ty 59=some tD:=by kernel_rfl
theorem Al:tD.size=3:=rfl
theorem vT:tD.bytes=32:=rfl
theorem yt:tD.zero=[.string ⟨#[]⟩,.int .i64 0,.int .i64 0]:=rfl
theorem Bi:tD.isAgg=true:=by kernel_rfl
theorem kd_59:kd Ty 59 = .struct [(0,AZ),(1,qF),(2,qF)]:=by kernel_rfl
theorem ok79:cm prog 79 uX:=cm.of (by kernel_rfl) (by kernel_rfl)
theorem Ty_79:Ty 79=some uX:=by kernel_rfl
theorem zh:uX.size=3:=rfl
theorem wa:uX.bytes=40:=rfl
theorem AT:uX.zero=[.int .i64 0,.int .i64 0,.slice none 0 0]:=rfl
theorem CC:uX.isAgg=true:=by kernel_rfl
theorem kd_79:kd Ty 79 = .struct [(0,qF),(1,qF),(2,kX)]:=by kernel_rfl
theorem ok82:cm prog 82 tR:=cm.of (by kernel_rfl) (by kernel_rfl)
theorem Ty_82:Ty 82=some tR:=by kernel_rfl
theorem yw:tR.size=2:=rfl
theorem vM:tR.bytes=24:=rfl
theorem As:tR.zero=[.string ⟨#[]⟩,.int .i64 0]:=rfl
theorem BW:tR.isAgg=true:=by kernel_rfl
theorem kd_82:kd Ty 82 = .struct [(0,AZ),(1,qF)]:=by kernel_rfl
theorem ok90:cm prog 90 vr:=cm.of (by kernel_rfl) (by kernel_rfl)
theorem Ek:Ty 90=some vr:=by kernel_rfl
theorem yR:vr.size=2:=rfl
theorem vO:vr.bytes=24:=rfl
theorem AJ:vr.zero=[.string ⟨#[]⟩,.int .i64 0]:=rfl
theorem CS:vr.isAgg=true:=by kernel_rfl
theorem kd_90:kd Ty 90 = .struct [(0,AZ),(1,qF)]:=by kernel_rfl
theorem ok92:cm prog 92 vf:=cm.of (by kernel_rfl) (by kernel_rfl)
theorem x6:Ty 92=some vf:=by kernel_rfl
theorem AM:vf.size=3:=rfl
theorem wM:vf.bytes=40:=rfl
theorem ze:vf.zero=[.int .i64 0,.int .i64 0,.slice none 0 0]:=rfl
theorem Ce:vf.isAgg=true:=by kernel_rfl
theorem kd_92:kd Ty 92 = .struct [(0,qF),(1,qF),(2,kX)]:=by kernel_rfl
theorem ok109:cm prog 109 nM:=cm.of (by kernel_rfl) (by kernel_rfl)
theorem Ty_109:Ty 109=some nM:=by kernel_rfl
theorem wN:nM.size=9:=rfl
theorem uq:nM.bytes=184:=rfl
theorem wJ:nM.zero=[.int .i64 0,.slice none 0 0,.slice none 0 0,.int .i64 0,.slice none 0 0,.slice none 0 0,.slice none 0 0,.slice none 0 0,.slice none 0 0]:=rfl
theorem Ad:nM.isAgg=true:=by kernel_rfl
theorem kd_109:kd Ty 109 = .struct [(0,tQ),(6,kX),(7,kX),(8,kX)]:=by kernel_rfl
theorem ok144:cm prog 144 nW:=cm.of (by kernel_rfl) (by kernel_rfl)
theorem Ty_144:Ty 144=some nW:=by kernel_rfl
theorem wC:nW.size=10:=rfl
theorem tN:nW.bytes=208:=rfl
theorem xe:nW.zero=[.slice none 0 0,.int .i64 0,.slice none 0 0,.slice none 0 0,.int .i64 0,.slice none 0 0,.slice none 0 0,.slice none 0 0,.slice none 0 0,.slice none 0 0]:=rfl
theorem Aw:nW.isAgg=true:=by kernel_rfl
theorem kd_144:kd Ty 144 = .struct [(0,kX),(1,nM)]:=by kernel_rfl
theorem ok145:cm prog 145 oZ:=cm.of (by kernel_rfl) (by kernel_rfl)
theorem Ty_145:Ty 145=some oZ:=by kernel_rfl
theorem wK:oZ.size=1:=rfl
theorem vu:oZ.bytes=24:=rfl
theorem wb:oZ.zero=[.slice none 0 0]:=rfl
theorem zf:oZ.isAgg=false:=by kernel_rfl
theorem CD:kd Ty 145 = .slice nW:=by kernel_rfl
theorem ok184:cm prog 184 pQ:=cm.of (by kernel_rfl) (by kernel_rfl)
theorem Ty_184:Ty 184=some pQ:=by kernel_rfl
theorem xk:pQ.size=1:=rfl
theorem vb:pQ.bytes=8:=rfl
theorem vV:pQ.zero=[.int .u64 0]:=rfl
theorem yM:pQ.isAgg=false:=by kernel_rfl
theorem kd_184:kd Ty 184 = .int .u64:=by kernel_rfl
theorem av:aU prog Ty:=by
 have h:∀ p ∈ tyL,cm prog p.1 p.2:=by
  refine List.forall_mem_cons.2 ⟨ok3,?_⟩;refine List.forall_mem_cons.2 ⟨ok4,?_⟩;refine List.forall_mem_cons.2 ⟨ok5,?_⟩;refine List.forall_mem_cons.2 ⟨ok9,?_⟩;refine List.forall_mem_cons.2 ⟨ok22,?_⟩;refine List.forall_mem_cons.2 ⟨ok23,?_⟩;refine List.forall_mem_cons.2 ⟨ok24,?_⟩;refine List.forall_mem_cons.2 ⟨ok25,?_⟩;refine List.forall_mem_cons.2 ⟨ok26,?_⟩;refine List.forall_mem_cons.2 ⟨ok28,?_⟩;refine List.forall_mem_cons.2 ⟨ok33,?_⟩;refine List.forall_mem_cons.2 ⟨ok35,?_⟩;refine List.forall_mem_cons.2 ⟨ok36,?_⟩;refine List.forall_mem_cons.2 ⟨ok38,?_⟩;refine List.forall_mem_cons.2 ⟨ok50,?_⟩;refine List.forall_mem_cons.2 ⟨ok59,?_⟩;refine List.forall_mem_cons.2 ⟨ok79,?_⟩;refine List.forall_mem_cons.2 ⟨ok82,?_⟩;refine List.forall_mem_cons.2 ⟨ok90,?_⟩;refine List.forall_mem_cons.2 ⟨ok92,?_⟩;refine List.forall_mem_cons.2 ⟨ok109,?_⟩;refine List.forall_mem_cons.2 ⟨ok144,?_⟩;refine List.forall_mem_cons.2 ⟨ok145,?_⟩;refine List.forall_mem_cons.2 ⟨ok184,?_⟩;simp
 intro t i hi;unfold Ty at hi;cases hf:tyL.find? (fun p=>p.1 == t) with
 | none=>simp[hf] at hi
 | some p=>
  simp only[hf,Option.map_some,Option.some.injEq] at hi;have h1:=List.find?_some hf;have h2:=h p (List.mem_of_find?_eq_some hf);simp only[beq_iff_eq] at h1;rw[<- h1,<- hi];exact h2
attribute [simp] BD Cf Bb CJ yq yp zz yy yI zC zd AE zG yr zH Al zh yw yR AM wN wC wK xk Dt DX DY Dq Bo B7 Bz Cg Cn CL Ct BY C5 BZ CO Bi CC BW CS Ce Ad Aw zf yM CP Cb BT Co zM zX Ar AF AD yP AW AA zu zn zD yt AT As AJ ze wJ xe wb vV Ty_3 Ty_4 Ty_5 Ty_9 Ty_22 Ty_23 Ty_24 Ty_25 Ty_26 Ty_28 Ty_33 Ty_35 Ty_36 yb Ty_50 Et Ty_79 Ty_82 Ek x6 Ty_109 Ty_144 Ty_145 Ty_184 kd_3 kd_4 kd_5 ue yo xL aO dp xR kd_28 yg cJ eN kd_38 kd_50 kd_59 kd_79 kd_82 kd_90 kd_92 kd_109 kd_144 CD kd_184 zU zo zj yZ wQ wi wS wT xj wz we xz xi vH wc vT wa vM vO wM uq tN vu vb
noncomputable instance:Inhabited cD:=⟨cD.Cu prog⟩
end Go.Ab
namespace Go.Ab
open Go.Proofs
section
variable {f:FuncId} {N:Nat} {k:List Item} {O:Env} {H:Heap} {n:Nat} {Q:I->Heap->Nat->Prop} {id:Nat} {ops:List Oper} {y:Code}
theorem zE (h:∀ k':List Item,(∀ O H n,J prog f N (.code y::k) O H n Q->J prog f N k' O H n Q)->cf prog f N k' Q Ty ops.toArray ops O H n) (hN:ops.all (fun o=>dA N o.dst)=true:=by decide):J prog f N (.code (.seq (.region id ops.toArray false) y)::k) O H n Q:=J.seqE av hN h
theorem zF (h:∀ k':List Item,(∀ O H n,J prog f N k O H n Q->J prog f N k' O H n Q)->cf prog f N k' Q Ty ops.toArray ops O H n) (hN:ops.all (fun o=>dA N o.dst)=true:=by decide):J prog f N (.code (.region id ops.toArray false)::k) O H n Q:=J.evalE av hN h
end
def within (n lo hi:Int):Bool:=decide (lo<=n) && decide (n<=hi)
theorem eA (n lo hi:Int):aC prog 70 [int n,int lo,int hi] (fun r=>r=bool (within n lo hi)):=by
 refine aC.of func70 rfl ntmps70 (by simp) fun Q hQ=>?_
 refine zE fun _ V=>?_
 simp;refine V _ _ _ (zE fun _ V=>?_);simp
 by_cases h:lo<=n
 all_goals
  simp[h];refine V _ _ _ (J.ret func70 (aK.one results70) (hQ _ _ _ _ (ej.v _ _ _) ?_));simp[within,h]
structure DB where
 kind:Int
 name:bc
 parent:Int
 deriving Inhabited,DecidableEq
abbrev Proc:=List DB
end Go.Ab
namespace Go.Ab
open Go.Proofs
theorem bL:Tryz.prog.follows .mixedOrders=true:=by kernel_rfl
theorem Eu:aZ prog 70:=aZ.of func70 (by kernel_rfl) rfl
def word (k:Nat):bc:=match k with
 | 0=>[105,110,32]
 | 1=>[111,117,116,32]
 | _=>[111,112,101,110,32]
end Go.Ab
namespace Go.Ab
open Go.Proofs Go.RowKit
end Go.Ab
namespace Go.Ab
variable [Inhabited cD]
section
variable (P:Program) (N:Nat) (ops:Array Oper) (κ:Op->Nat) (cix:Nat)
end
section
variable {P:Program} {N:Nat} {ops:Array Oper} {κ:Op->Nat} {cix:Nat}
end
section
variable {P:Program} {f:FuncId} {N:Nat} {k:List Item} {O:Env} {H:Heap} {n:Nat} {Q:I->Heap->Nat->Prop} {κ:Op->Nat}
end
section
variable (P:Program) (f:FuncId) (N:Nat) (k:List Item) (Q:I->Heap->Nat->Prop) (Ty:Types) (κ:Op->Nat) (ops:Array Oper)
end
section
variable {P:Program} {f:FuncId} {N:Nat} {k:List Item} {Q:I->Heap->Nat->Prop} {Ty:Types} {κ:Op->Nat} {ops:Array Oper} {o:Oper} {l:List Oper} {O:Env} {H:Heap} {n:Nat} {c:Nat}
theorem tT {d:Operand} {args:Array Operand} {ats:Array TypeId}:args.toList.map (loc (.call ⟨.value d,args,ats⟩) O).ev=args.toList.map O.ev/\(loc (.call ⟨.value d,args,ats⟩) O).ev d=O.ev d:=
 ⟨List.map_congr_left fun x hx=>dh (by simp[Op.operands,Call.operands];exact .inr (by simpa using hx)),dh (by simp[Op.operands,Call.operands])⟩
end
end Go.Ab
namespace Go.Ab
open Go.Proofs
theorem zA {f:FuncId} {N:Nat} {k:List Item} {Q:I -> Heap -> Nat -> Prop} {l:List Oper} {O:Env} {H:Heap} {n:Nat} {d:Option Tmp} {g:Operand} {args:Array Operand} {ats:Array TypeId} {ty:TypeId} {pos:String} {af:Array Edge} {R:I -> Prop} {f':FuncId} {xs ys:List I} {ops:List Oper}
 (h:aC prog f' ys R) (cP:aZ prog f') (ha:bW H n xs ys) (has:args.toList.map O.ev=xs) (hk:∀ v,R v -> cf prog f N k Q Ty ops.toArray l (O.put d v) H n) (hN:ops.all (fun o=>dA N o.dst)=true:=by decide) (hl:(⟨d,.call ⟨.value g,args,ats⟩,ty,pos,af,none⟩::l:List Oper).all (fun o=>dA N o.dst)=true:=by decide) (hg:O.ev g=.fn (.func f') [] []:=by rfl):
 bw prog f N k Q ops.toArray (⟨d,.call ⟨.value g,args,ats⟩,ty,pos,af,none⟩::l) O H n:=bw.b7 av h cP ha hN hl hg has hk
end Go.Ab
namespace Go.Ab
open Go.Proofs
theorem zW {f:FuncId} {N:Nat} {k:List Item} {Q:I -> Heap -> Nat -> Prop} {l:List Oper} {O:Env} {H:Heap} {n:Nat} {K:List bS} {ids:List Id} {d:Option Tmp} {g:Operand} {args:Array Operand} {ats:Array TypeId} {ty:TypeId} {pos:String} {af:Array Edge} {R:I -> Prop} {f':FuncId} {xs ys:List I} {ops:List Oper} {sh:Sh}
 (h:bK prog f' ys sh R) (cP:aZ prog f') (ha:bW H n xs ys) (hs:Sep H n K ids) (has:args.toList.map O.ev=xs) (hk:∀ v H1 U r,Sep H1 U ((sh,v,r)::K) ids -> R r -> n <= U -> (∀ i ∈ ids,H1 i=H i) -> cf prog f N k Q Ty ops.toArray l (O.put d v) H1 U) (hN:ops.all (fun o=>dA N o.dst)=true:=by decide) (hl:(⟨d,.call ⟨.value g,args,ats⟩,ty,pos,af,none⟩::l:List Oper).all (fun o=>dA N o.dst)=true:=by decide) (hg:O.ev g=.fn (.func f') [] []:=by rfl):
 bw prog f N k Q ops.toArray (⟨d,.call ⟨.value g,args,ats⟩,ty,pos,af,none⟩::l) O H n:=bw.kG av h cP ha hs hN hl hg has hk
end Go.Ab
namespace Go.Ab
open Go.Proofs
theorem zS {f:FuncId} {N:Nat} {k:List Item} {Q:I -> Heap -> Nat -> Prop} {O:Env} {H:Heap} {n:Nat} {id:Nat} {ops:List Oper} {y z:Code} (h:∀ k':List Item,(∀ O H n,J prog f N (.code y::.code z::k) O H n Q -> J prog f N k' O H n Q) -> cf prog f N k' Q Ty ops.toArray ops O H n) (hN:ops.all (fun o=>dA N o.dst)=true:=by decide):J prog f N (.code (.seq (.seq (.region id ops.toArray false) y) z)::k) O H n Q:=J.seq (zE h hN)
theorem zI {f:FuncId} {N:Nat} {k:List Item} {Q:I -> Heap -> Nat -> Prop} {O:Env} {H:Heap} {n:Nat} {id j:Nat} {ops:List Oper} (h:∀ k':List Item,(∀ O H n,J prog f N k O H n Q -> J prog f N k' O H n Q) -> cf prog f N k' Q Ty ops.toArray ops O H n) (hN:ops.all (fun o=>dA N o.dst)=true:=by decide):J prog f N (.inBlock j::.code (.region id ops.toArray false)::k) O H n Q:=J.inBlock (zF h hN)
theorem zK {f:FuncId} {N:Nat} {k:List Item} {Q:I -> Heap -> Nat -> Prop} {O:Env} {H:Heap} {n:Nat} {y z:Code} (h:J prog f N (.code y::.code z::k) O H n Q):J prog f N (.code .skip::.code (.seq y z)::k) O H n Q:=J.skip (J.seq h)
end Go.Ab
